-- Merged by a program of this session out of the texts Px0, Px7, Px16, Px2, Px17, Bits, HMasks, HWalk, Px4, Px5, QPack, Px3, QMake, QCheck, HWalk1, HOnes, HRound, HRuns, Px25, Px19 of this claim's own.
import Derived.Test.YtoohpdamndgdlaaProg
import Derived.Below
import Derived.Deep.Draws
import Derived.Deep.AppendLies
import Derived.Maps.AppendAt
import Derived.OwnWalk
import Derived.Laws.BytesArg
import Derived.Laws.MakeOwn
import Derived.Laws.OwnMore
import Derived.Deep.OwnRows
import Derived.Tactics
import Derived.Lib.ConvBytes
import Derived.Laws.Slices
import Derived.WalkKit
import Derived.KernelRfl
import Derived.RowKit3
import Derived.Deep.LoopGhost
import Derived.Deep.QuietTactic
import Derived.BigQuiet
import Derived.WideLaws
import Derived.Deep.DeepCutAuto
import Derived.Deep.CutBlock
import Derived.Deep.RegionHeld3
import Derived.Laws.Rows
import Derived.Lib.AppendStr
import Derived.ArgAppend
import Derived.Laws.IdiomCopy
import Derived.OrdersHeld
import Derived.Laws.BitsLemmas
import Derived.RowKit
import Derived.Test.YtoohpdamndgdlaaWWords
import Derived.Test.YtoohpdamndgdlaaWLast
import Derived.Test.YtoohpdamndgdlaaWTab
import Derived.Test.YtoohpdamndgdlaaWFour
import Derived.Test.YtoohpdamndgdlaaWQPut
import Derived.Test.YtoohpdamndgdlaaWApart
import Derived.Test.YtoohpdamndgdlaaWArr
import Derived.Test.YtoohpdamndgdlaaWZeros
import Derived.Test.YtoohpdamndgdlaaWFoot
import Derived.Test.YtoohpdamndgdlaaWKept
import Derived.Test.YtoohpdamndgdlaaWShare
import Derived.Test.YtoohpdamndgdlaaWN
import Derived.Test.YtoohpdamndgdlaaWFootNe
import Derived.Test.YtoohpdamndgdlaaWAt
import Derived.Test.YtoohpdamndgdlaaWEqStruct
import Derived.Test.YtoohpdamndgdlaaWRepsOne
import Derived.Test.YtoohpdamndgdlaaWInv
import Derived.Test.YtoohpdamndgdlaaWInvWords
import Derived.Test.YtoohpdamndgdlaaWGuard
import Derived.Test.YtoohpdamndgdlaaWNEv
import Derived.Test.YtoohpdamndgdlaaWMore
import Derived.WalkSpells
import Derived.Laws.Entries
import Derived.Outline
import Derived.RangeFuncBox
import Derived.RangeFuncLeaves
import Derived.RangeFuncBound
import Derived.RangeFuncCalls
import Derived.OwnWalkIn
import Derived.TacticsInMore
import Derived.LoopNIn
import Derived.LoopIn
import Derived.Lib.Hide
import Derived.Shelf.RegionOpen
import Derived.RangeFuncWrites
import Derived.Sort.QuietThIn
import Derived.Sort.BigQuietIn
import Derived.WalkSmall

-- Made by a program of this session (the print of the kit over a neighbour), for this claim.
namespace Go.Proofs.Ytoohpdamndgdlaa.P
open Go.RowKit Go.Proofs.YtoohpdamndgdlaaW.PrintWords Go.Proofs.YtoohpdamndgdlaaW.PrintLast Go.Proofs.YtoohpdamndgdlaaW.PrintMore
attribute [local go_sem] max2_int min2_int max_two min_two max_three min_three max_four min_four   -- for this text's walks alone
set_option linter.unusedVariables false
set_option linter.unusedSimpArgs false



def errW : Option Int → Value
  | none => .nilIface
  | some c => .iface 0 (.int .i64 c)
theorem errW_none : errW none = .nilIface := rfl
theorem errW_some (c : Int) : errW (some c) = .iface 0 (.int .i64 c) := rfl

theorem info3 : (Try.prog.info? 3).map (fun i => (i.zero, i.size, i.bytes)) = some (some (.int .i64 0), 1, 8) := by kernel_rfl
theorem info4 : (Try.prog.info? 4).map (fun i => (i.zero, i.size, i.bytes)) = some (some (.bool false), 1, 1) := by kernel_rfl
theorem info5 : (Try.prog.info? 5).map (fun i => (i.zero, i.size, i.bytes)) = some (some (.int .u8 0), 1, 1) := by kernel_rfl
theorem info59 : (Try.prog.info? 59).map (fun i => (i.zero, i.size, i.bytes)) = some (some (.agg #[(.int .i64 0), (.int .i64 0)]), 2, 16) := by kernel_rfl
-- the values' own types
/-! #### struct type 59 -/
structure S59 where
  f0 : Int
  f1 : Int
def z59 : S59 := ⟨(0 : Int), (0 : Int)⟩
def k59 : Kd S59 := Kd.iso (Kd.pair (Kd.int .i64) (Kd.int .i64)) (fun x : S59 => (x.f0, x.f1))
theorem k59_open {w : World} {x : S59} {cs : List Value} (h : k59.K w x cs) : cs = [.int .i64 x.f0, .int .i64 x.f1] := by
  obtain ⟨_, _, rfl, rfl, rfl⟩ := h
  exact rfl
theorem k59_openM {w : World} {base : Nat} {ok : Nat → Prop} {x : S59} {cs : List Value} (h : k59.M w base ok x cs) : cs = [.int .i64 x.f0, .int .i64 x.f1] := by
  obtain ⟨_, _, rfl, rfl, rfl⟩ := h
  exact rfl
theorem k59_mk (w : World) (x : S59)  : k59.K w x [.int .i64 x.f0, .int .i64 x.f1] := ⟨[.int .i64 x.f0], [.int .i64 x.f1], rfl, rfl, rfl⟩
theorem k59_mkM (w : World) (base : Nat) (ok : Nat → Prop) (x : S59)  : k59.M w base ok x [.int .i64 x.f0, .int .i64 x.f1] := ⟨[.int .i64 x.f0], [.int .i64 x.f1], rfl, rfl, rfl⟩
def rd_T59 (xs : List S59) (i : Int) : S59 := xs.getD i.toNat z59
theorem at_T59 {w : World} {A : Option Addr} {n : Nat} {xs : List S59} (h : Kd.C k59 w A n xs) (i : Int) (h0 : 0 ≤ i) (h1 : i < n) : ∃ ad , A = some ad ∧ w.cell? (ad.add (i.toNat * 2)) = some (.int .i64 (rd_T59 xs i).f0) ∧ w.cell? ⟨(ad.add (i.toNat * 2)).block, (ad.add (i.toNat * 2)).off + 1, none⟩ = some (.int .i64 (rd_T59 xs i).f1) := by
  obtain ⟨ad, c, e, _, hK, hc0⟩ := Kd.C_get h z59 i h0 h1
  have hc : ∀ j u, c[j]? = some u → w.cell? (ad.add (i.toNat * 2 + j)) = some u := hc0
  obtain rfl := k59_open hK
  exact ⟨ad, e, hc 0 _ rfl, by rw [← add_field _ _ 1 (by omega)]; exact hc 1 _ rfl⟩

def rd_L4 (xs : List (List Int)) (i : Int) : (List Int) := xs.getD i.toNat ([] : List Int)
theorem at_L4 {w : World} {A : Option Addr} {n : Nat} {xs : List (List Int)} (h : Kd.C (Kd.slice 5 (Kd.int .u8)) w A n xs) (i : Int) (h0 : 0 ≤ i) (h1 : i < n) : ∃ ad A0 c0, A = some ad ∧ w.cell? (ad.add i.toNat) = some (.slice A0 (rd_L4 xs i).length c0) ∧ (rd_L4 xs i).length ≤ c0 ∧ (Kd.int .u8).C w A0 (rd_L4 xs i).length (rd_L4 xs i) := by
  obtain ⟨ad, c, e, _, hK, hc0⟩ := Kd.C_get h ([] : List Int) i h0 h1
  have hc : ∀ j u, c[j]? = some u → w.cell? (ad.add (i.toNat * 1 + j)) = some u := hc0
  obtain ⟨A0, c0, rfl, l0, g0⟩ := hK
  exact ⟨ad, A0, c0, e, by have hq := hc 0 _ rfl; rwa [Nat.mul_one, Nat.add_zero] at hq, l0, g0⟩

end Go.Proofs.Ytoohpdamndgdlaa.P

-- Made by a program of this session (the print of the kit over a neighbour), for this claim.
namespace Go.Proofs.Ytoohpdamndgdlaa.P
open Go.RowKit Go.Proofs.YtoohpdamndgdlaaW.PrintWords Go.Proofs.YtoohpdamndgdlaaW.PrintLast Go.Proofs.YtoohpdamndgdlaaW.PrintMore
attribute [local go_sem] max2_int min2_int max_two min_two max_three min_three max_four min_four   -- for this text's walks alone
set_option linter.unusedVariables false
set_option linter.unusedSimpArgs false

/-! ### torrentlaw4_sameBytes: function 17 -/
def torrentlaw4_sameBytes.l0 : Nat → List Int → List Int → Int → Option (Bool)
  | 0, _, _, _ => none
  | k + 1, x0, x1, x5 => if x5 < (x0.length : Int) then (if 0 ≤ x5 then (if x5 < (x1.length : Int) then (if (rd x0 x5) = (rd x1 x5) then (torrentlaw4_sameBytes.l0 k x0 x1 (wrap64 (x5 + 1))) else (some false)) else (none)) else (none)) else (some true)
def torrentlaw4_sameBytes.f (k : Nat) (l0 : List Int) (l1 : List Int) : Option (Bool) := if (l0.length : Int) = (l1.length : Int) then (torrentlaw4_sameBytes.l0 k l0 l1 0) else (some false)
theorem torrentlaw4_sameBytes.mono_l : ∀ k, (∀ y0 y1 y2, LeO (torrentlaw4_sameBytes.l0 k y0 y1 y2) (torrentlaw4_sameBytes.l0 (k + 1) y0 y1 y2))
  | 0 => fun _ _ _ r h => by simp [torrentlaw4_sameBytes.l0] at h
  | k + 1 => by
    have ih0 := torrentlaw4_sameBytes.mono_l k
    · intro y0 y1 y2
      unfold torrentlaw4_sameBytes.l0
      repeat' first
      | (with_reducible exact ih0 _ _ _)
      | (with_reducible exact LeO.refl _)
      | (with_reducible exact LeO.none _)
      | (with_reducible refine LeO.ite ?_ ?_)
      | (with_reducible refine LeO.bind ?_ (fun _ => ?_))
      | exact ih0 _ _ _
      | exact LeO.none _
      | refine LeO.ite ?_ ?_
      | refine LeO.bind ?_ (fun _ => ?_)
theorem torrentlaw4_sameBytes.mono : ∀ a0 a1 k, LeO (torrentlaw4_sameBytes.f k a0 a1) (torrentlaw4_sameBytes.f (k + 1) a0 a1) := by
  intro a0 a1 k
  have ih0 := torrentlaw4_sameBytes.mono_l k
  unfold torrentlaw4_sameBytes.f
  repeat' first
      | (with_reducible exact ih0 _ _ _)
      | (with_reducible exact LeO.refl _)
      | (with_reducible exact LeO.none _)
      | (with_reducible refine LeO.ite ?_ ?_)
      | (with_reducible refine LeO.bind ?_ (fun _ => ?_))
      | exact ih0 _ _ _
      | exact LeO.none _
      | refine LeO.ite ?_ ?_
      | refine LeO.bind ?_ (fun _ => ?_)
set_option maxHeartbeats 8000000 in
set_option maxRecDepth 100000 in
theorem torrentlaw4_sameBytes.calls (k : Nat) (A0 : Option Addr) (c0 : Nat) (l0 : List Int) (A1 : Option Addr) (c1 : Nat) (l1 : List Int) (r : Bool) (w : World) (hr0 : Kd.C (Kd.int .u8) w A0 l0.length l0) (hc0 : l0.length ≤ c0) (hr1 : Kd.C (Kd.int .u8) w A1 l1.length l1) (hc1 : l1.length ≤ c1) (h : torrentlaw4_sameBytes.f k l0 l1 = some r) :
    Calls Try.prog 17 #[.slice A0 l0.length c0, .slice A1 l1.length c1] w fun e w' => e = .returned (.bool r) ∧ Drawn0 w w' := by
  have HR0 := Aside0.mk hr0
  have HC0 := Aside0.mk hc0
  clear hr0 hc0
  have HR1 := Aside0.mk hr1
  have HC1 := Aside0.mk hc1
  clear hr1 hc1
  have H : (if (l0.length : Int) = (l1.length : Int) then (torrentlaw4_sameBytes.l0 k l0 l1 0) else (some false)) = some r := h
  clear h
  by_cases c3 : (l0.length : Int) = (l1.length : Int)
  · rw [if_pos c3] at H
    have c3b0 : ((l0.length : Int) == (l1.length : Int)) = true := beq_iff_eq.mpr c3
    have c3b1 : ((l0.length : Int) != (l1.length : Int)) = false := bne_eq_false_iff_eq.mpr c3
    have c3b2 : (l0.length == l1.length) = true := by first | simpa using c3 | (simp at c3 ⊢; omega)
    clear c3
    have H' := Aside0.mk H
    clear H
    go_enter Try.func17, Try.ntmps17
    go_wp2
    repeat (go_quiet (fail); try go_wp2)
    go_loopg [5] k (fun kq v5 w' => ∃ (x5_1 : Int), v5 = .int .i64 x5_1 ∧ Aside0 (torrentlaw4_sameBytes.l0 kq l0 l1 x5_1 = some r) ∧ Aside0 (kq ≤ k) ∧ Drawn0 w w')
    case atStart => exact ⟨(0), (by first | rfl | (simp; done) | (simp [*]; done)), H', ⟨Nat.le_refl _⟩, by repeat (first | exact Drawn0.refl _ | apply Drawn0.step)⟩
    case round =>
      clear H'
      try clear c1
      try clear p2
      try clear c3
      try clear c3b0
      try clear c3b1
      try clear c3b2
      obtain ⟨x5_1, rfl, HA, HK1, ⟨m1, rfl⟩⟩ := hrel
      cases gk with
      | zero => exact absurd HA.out (by simp [torrentlaw4_sameBytes.l0])
      | succ k1 =>
        have H := HA.out
        clear HA
        simp only [torrentlaw4_sameBytes.l0] at H
        by_cases c4 : x5_1 < (l0.length : Int)
        · rw [if_pos c4] at H
          have c4b0 : decide (x5_1 < (l0.length : Int)) = true := decide_eq_true c4
          clear c4
          by_cases c5 : 0 ≤ x5_1
          · rw [if_pos c5] at H
            have c5b0 : decide (0 ≤ x5_1) = true := decide_eq_true c5
            clear c5
            by_cases c6 : x5_1 < (l1.length : Int)
            · rw [if_pos c6] at H
              have c6b0 : decide (x5_1 < (l1.length : Int)) = true := decide_eq_true c6
              clear c6
              by_cases c7 : (rd l0 x5_1) = (rd l1 x5_1)
              · rw [if_pos c7] at H
                have c7b0 : ((rd l0 x5_1) == (rd l1 x5_1)) = true := beq_iff_eq.mpr c7
                have c7b1 : ((rd l0 x5_1) != (rd l1 x5_1)) = false := bne_eq_false_iff_eq.mpr c7
                clear c7
                have H' := Aside0.mk H
                clear H
                have p122 : 0 ≤ (x5_1 : Int) := of_decide_eq_true (by first | (with_reducible assumption) | assumption)
                have q122 : x5_1 < (l0.length : Int) := of_decide_eq_true (by first | (with_reducible assumption) | assumption)
                obtain ⟨ad122, e122, hx122_0⟩ := Kd.at_int HR0.out x5_1 p122 q122
                cases e122
                replace p122 := eq_true p122
                replace q122 := eq_true q122
                have p123 : 0 ≤ (x5_1 : Int) := of_decide_eq_true (by first | (with_reducible assumption) | assumption)
                have q123 : x5_1 < (l1.length : Int) := of_decide_eq_true (by first | (with_reducible assumption) | assumption)
                obtain ⟨ad123, e123, hx123_0⟩ := Kd.at_int HR1.out x5_1 p123 q123
                cases e123
                replace p123 := eq_true p123
                replace q123 := eq_true q123
                go_wp2
                repeat (go_quiet (fail); try go_wp2)
                go_roundg k1
                case measure => have := HK1.out; omega
                case rel => exact ⟨(wrap64 (x5_1 + 1)), (by first | rfl | (simp; done) | (simp [*]; done)), H', ⟨by have := HK1.out; omega⟩, by repeat (first | exact Drawn0.refl _ | apply Drawn0.step)⟩
              · rw [if_neg c7] at H
                have c7b0 : ((rd l0 x5_1) == (rd l1 x5_1)) = false := beq_eq_false_iff_ne.mpr c7
                have c7b1 : ((rd l0 x5_1) != (rd l1 x5_1)) = true := bne_iff_ne.mpr c7
                obtain rfl := Option.some.inj H
                have p122 : 0 ≤ (x5_1 : Int) := of_decide_eq_true (by first | (with_reducible assumption) | assumption)
                have q122 : x5_1 < (l0.length : Int) := of_decide_eq_true (by first | (with_reducible assumption) | assumption)
                obtain ⟨ad122, e122, hx122_0⟩ := Kd.at_int HR0.out x5_1 p122 q122
                cases e122
                replace p122 := eq_true p122
                replace q122 := eq_true q122
                have p123 : 0 ≤ (x5_1 : Int) := of_decide_eq_true (by first | (with_reducible assumption) | assumption)
                have q123 : x5_1 < (l1.length : Int) := of_decide_eq_true (by first | (with_reducible assumption) | assumption)
                obtain ⟨ad123, e123, hx123_0⟩ := Kd.at_int HR1.out x5_1 p123 q123
                cases e123
                replace p123 := eq_true p123
                replace q123 := eq_true q123
                go_wp2
                repeat (go_quiet (fail); try go_wp2)
                go_ret
                exact ⟨by first | rfl | (simp; done) | (simp [*]; done), by repeat (first | exact Drawn0.refl _ | apply Drawn0.step)⟩
            · rw [if_neg c6] at H
              exact absurd H (by simp)
          · rw [if_neg c5] at H
            exact absurd H (by simp)
        · rw [if_neg c4] at H
          have c4b0 : decide (x5_1 < (l0.length : Int)) = false := decide_eq_false c4
          clear c4
          obtain rfl := Option.some.inj H
          go_wp2
          repeat (go_quiet (fail); try go_wp2)
          go_ret
          exact ⟨by first | rfl | (simp; done) | (simp [*]; done), by repeat (first | exact Drawn0.refl _ | apply Drawn0.step)⟩
  · rw [if_neg c3] at H
    have c3b0 : ((l0.length : Int) == (l1.length : Int)) = false := beq_eq_false_iff_ne.mpr c3
    have c3b1 : ((l0.length : Int) != (l1.length : Int)) = true := bne_iff_ne.mpr c3
    have c3b2 : (l0.length == l1.length) = false := by first | simpa using c3 | (simp at c3 ⊢; omega)
    obtain rfl := Option.some.inj H
    go_enter Try.func17, Try.ntmps17
    go_wp2
    repeat (go_quiet (fail); try go_wp2)
    go_ret
    exact ⟨by first | rfl | (simp; done) | (simp [*]; done), by repeat (first | exact Drawn0.refl _ | apply Drawn0.step)⟩

end Go.Proofs.Ytoohpdamndgdlaa.P

-- Made by a program of this session (the print of the kit over a neighbour), for this claim.
namespace Go.Proofs.Ytoohpdamndgdlaa.P
open Go.RowKit Go.Proofs.YtoohpdamndgdlaaW.PrintWords Go.Proofs.YtoohpdamndgdlaaW.PrintLast Go.Proofs.YtoohpdamndgdlaaW.PrintMore
attribute [local go_sem] max2_int min2_int max_two min_two max_three min_three max_four min_four   -- for this text's walks alone
set_option linter.unusedVariables false
set_option linter.unusedSimpArgs false

/-! ### torrentlaw4_copied: function 24 -/
def torrentlaw4_copied.l0 : Nat → List Int → List Int → Int → Option (List Int)
  | 0, _, _, _ => none
  | k + 1, x0, x3, x4 => if x4 < (x0.length : Int) then (if 0 ≤ x4 then (if x3.length < 140737488355328 then (torrentlaw4_copied.l0 k x0 (x3 ++ [rd x0 x4]) (wrap64 (x4 + 1))) else (none)) else (none)) else (some x3)
def torrentlaw4_copied.f (k : Nat) (l0 : List Int) : Option (List Int) := torrentlaw4_copied.l0 k l0 ([] : List Int) 0
theorem torrentlaw4_copied.mono_l : ∀ k, (∀ y0 y1 y2, LeO (torrentlaw4_copied.l0 k y0 y1 y2) (torrentlaw4_copied.l0 (k + 1) y0 y1 y2))
  | 0 => fun _ _ _ r h => by simp [torrentlaw4_copied.l0] at h
  | k + 1 => by
    have ih0 := torrentlaw4_copied.mono_l k
    · intro y0 y1 y2
      unfold torrentlaw4_copied.l0
      repeat' first
      | (with_reducible exact ih0 _ _ _)
      | (with_reducible exact LeO.refl _)
      | (with_reducible exact LeO.none _)
      | (with_reducible refine LeO.ite ?_ ?_)
      | (with_reducible refine LeO.bind ?_ (fun _ => ?_))
      | exact ih0 _ _ _
      | exact LeO.none _
      | refine LeO.ite ?_ ?_
      | refine LeO.bind ?_ (fun _ => ?_)
theorem torrentlaw4_copied.mono : ∀ a0 k, LeO (torrentlaw4_copied.f k a0) (torrentlaw4_copied.f (k + 1) a0) := by
  intro a0 k
  have ih0 := torrentlaw4_copied.mono_l k
  unfold torrentlaw4_copied.f
  repeat' first
      | (with_reducible exact ih0 _ _ _)
      | (with_reducible exact LeO.refl _)
      | (with_reducible exact LeO.none _)
      | (with_reducible refine LeO.ite ?_ ?_)
      | (with_reducible refine LeO.bind ?_ (fun _ => ?_))
      | exact ih0 _ _ _
      | exact LeO.none _
      | refine LeO.ite ?_ ?_
      | refine LeO.bind ?_ (fun _ => ?_)
theorem torrentlaw4_copied.bound : ∀ (k : Nat) (l xs : List Int) (i : Int) (r : List Int), torrentlaw4_copied.l0 k l xs i = some r → (xs.length : Int) = i → l.length ≤ 140737488355328 ∨ l.length ≤ xs.length
  | 0, _, _, _, _, h, _ => by simp [torrentlaw4_copied.l0] at h
  | k + 1, l, xs, i, r, h, hi => by
    simp only [torrentlaw4_copied.l0] at h
    by_cases c1 : i < (l.length : Int)
    · rw [if_pos c1] at h
      by_cases c2 : 0 ≤ i
      · rw [if_pos c2] at h
        by_cases c3 : xs.length < 140737488355328
        · rw [if_pos c3] at h
          have e : wrap64 (i + 1) = i + 1 := by unfold wrap64; omega
          rw [e] at h
          rcases torrentlaw4_copied.bound k l (xs ++ [rd l i]) (i + 1) r h (by simp; omega) with h1 | h1
          · exact .inl h1
          · left; simp at h1; omega
        · rw [if_neg c3] at h
          exact absurd h (by simp)
      · omega
    · right; omega
theorem torrentlaw4_copied.nothing (k : Nat) (r : List Int) (h : torrentlaw4_copied.l0 k [] [] 0 = some r) : r = [] := by
  cases k with
  | zero => simp [torrentlaw4_copied.l0] at h
  | succ k => simpa [torrentlaw4_copied.l0] using h.symm
set_option maxHeartbeats 4000000 in
set_option maxRecDepth 100000 in
theorem torrentlaw4_copied.calls (k : Nat) (A0 : Option Addr) (c0 : Nat) (l0 : List Int) (r : List Int) (w : World) (hr0 : Kd.C (Kd.int .u8) w A0 l0.length l0) (hc0 : l0.length ≤ c0) (h : torrentlaw4_copied.f k l0 = some r) :
    Calls Try.prog 24 #[.slice A0 l0.length c0] w fun e w' => ∃ v0_ : Value, e = .returned (v0_) ∧ Kd.R (Kd.int .u8) 5 w' w.heap.size (fun _ => True) v0_ r ∧ Below w.heap.size w w' := by
  have HR0 := Aside0.mk hr0
  have HC0 := Aside0.mk hc0
  clear hr0 hc0
  have HB := Aside0.mk (Below.refl w.heap.size w)
  have H : (torrentlaw4_copied.l0 k l0 ([] : List Int) 0) = some r := h
  clear h
  have H' := Aside0.mk H
  clear H
  have hbound : l0.length ≤ 140737488355328 := by
    rcases torrentlaw4_copied.bound k l0 [] 0 r H'.out rfl with h1 | h1
    · exact h1
    · have h2 : l0.length ≤ 0 := h1
      omega
  have HL := Aside0.mk hbound
  clear hbound
  have hnil := fun w1 => Lib.run_eql_slice_nil (P := Try.prog) w1 22 5 A0 l0.length c0 0 0 Try.underlying22
  cases A0 with
  | none =>
    have hl : l0 = [] := by
      rcases Nat.eq_zero_or_pos l0.length with hz | hz
      · exact List.eq_nil_of_length_eq_zero hz
      · obtain ⟨ad, e, _⟩ := HR0.out.2.2 hz
        cases e
    subst hl
    have hr : r = [] := torrentlaw4_copied.nothing k r H'.out
    subst hr
    clear HL HR0 HC0 H' hnil
    have hnil := fun w1 => Lib.run_eql_slice_nil (P := Try.prog) w1 22 5 none 0 c0 0 0 Try.underlying22
    show Calls Try.prog 24 #[.slice none 0 c0] w _
    go_enter Try.func24, Try.ntmps24
    go_wp2
    go_ret
    exact ⟨_, rfl, Kd.R_nil _ _ _ _ _, HB.out⟩
  | some a0 =>
  obtain ⟨i0, hi, hz0, hz1, hz2⟩ := info_parts info5
  have HI := Aside0.mk hi
  have HZ0 := Aside0.mk hz0
  have HZ1 := Aside0.mk hz1
  have HZ2 := Aside0.mk hz2
  clear hi hz0 hz1 hz2
  go_enter Try.func24, Try.ntmps24
  go_wp2_with (at_make; refine wpList_make_own _ rfl _ _ 22 rfl w.heap.size 5 i0 (.int .u8 0) 1 Try.underlying22 HI.out HZ0.out HZ1.out .i64 .i64 _ l0.length rfl rfl rfl (by rw [HZ2.out]; have := HL.out; omega) (by have := HL.out; simp only [maxLen]; omega) (Nat.le_refl _) ?_; intro w1 hown hg; have n0_ := Aside0.mk (show Kd.R (Kd.int .u8) 5 w1 w.heap.size (fun _ => True) (.slice (some ⟨w.heap.size, 0, none⟩) 0 l0.length) [] from ⟨fun _ _ => trivial, [], hown, Reps.none _ _⟩); have n1_ := Aside0.mk (pw_below_grown HB.out none (Nat.le_refl _) hg (fun _ hk => by cases hk)); clear HB; have HO := n0_; have HB := n1_; clear n0_ n1_ hown hg)
  clear hnil HI HZ0 HZ1 HZ2 HL
  go_loopg [3, 4] k (fun kq v3 v4 w' => ∃ (x3_1 : List Int) (x4_1 : Int), v4 = .int .i64 x4_1 ∧ Aside0 (torrentlaw4_copied.l0 kq l0 x3_1 x4_1 = some r) ∧ Aside0 (kq ≤ k) ∧ Aside0 (Kd.R (Kd.int .u8) 5 w' w.heap.size (fun _ => True) v3 x3_1) ∧ Aside0 (Below w.heap.size w w'))
  case atStart => exact ⟨(([] : List Int)), (0), (by first | rfl | (simp; done) | (simp [*]; done)), H', ⟨Nat.le_refl _⟩, ⟨HO.out⟩, ⟨HB.out⟩⟩
  case round =>
    clear H'
    obtain ⟨x3_1, x4_1, rfl, HA, HK1, HO_3, HB⟩ := hrel
    cases gk with
    | zero => exact absurd HA.out (by simp [torrentlaw4_copied.l0])
    | succ k1 =>
      have H := HA.out
      clear HA
      simp only [torrentlaw4_copied.l0] at H
      by_cases c2 : x4_1 < (l0.length : Int)
      · rw [if_pos c2] at H
        have c2b0 : decide (x4_1 < (l0.length : Int)) = true := decide_eq_true c2
        clear c2
        by_cases c3 : 0 ≤ x4_1
        · rw [if_pos c3] at H
          have c3b0 : decide (0 ≤ x4_1) = true := decide_eq_true c3
          clear c3
          by_cases c4 : x3_1.length < 140737488355328
          · rw [if_pos c4] at H
            have LMc4 := Aside0.mk c4
            clear c4
            obtain ⟨y187, hy187⟩ : ∃ y_ : List Int, y_ = (x3_1 ++ [rd l0 x4_1]) := ⟨_, rfl⟩
            replace H : (torrentlaw4_copied.l0 k1 l0 y187 (wrap64 (x4_1 + 1))) = some r := by first | (rw [hy187]; with_reducible exact H) | (have H2_ := (Option.bind_some _ _).symm.trans H; rw [hy187]; with_reducible exact H2_) | (have H2_ := (Option.bind_some _ _).symm.trans H; with_reducible exact H2_) | with_reducible exact H | (rw [hy187]; exact H) | exact H
            have Ny187 := Aside0.mk hy187
            clear hy187
            have H' := Aside0.mk H
            clear H
            have p186 : 0 ≤ (x4_1 : Int) := of_decide_eq_true (by first | (with_reducible assumption) | assumption)
            have q186 : x4_1 < (l0.length : Int) := of_decide_eq_true (by first | (with_reducible assumption) | assumption)
            obtain ⟨ad186, e186, hx186_0⟩ := Kd.at_int HR0.out x4_1 p186 q186
            cases e186
            replace hx186_0 := (HB.out.cell (World.block_lt_of_cell? w _ hx186_0)).trans hx186_0
            replace p186 := eq_true p186
            replace q186 := eq_true q186
            go_wp2_with (first | ((with_reducible refine gate_builtin (b := .append) (xs := #[.tmp 16, .tmp 21]) rfl ?_); at_builtin; refine Kd.R_append (Kd.int .u8) (w0 := w) w.heap.size rfl (.tmp 16) (.tmp 21) 22 5 (.int .u8 0) 1 rfl Try.underlying22 info5 rfl (by decide) (by omega) u3 x3_1 (rd l0 x4_1) [.int .u8 (rd l0 x4_1)] (fun _ => True) (fun _ => False) rfl rfl ?aP (fun _ hk => hk.elim) ?aF ?aO ?aB ?aS ?aL ?_; (case aP => exact rfl); (case aB => exact (by repeat (first | (with_reducible first | exact HB.out | apply below_alloc | apply pw_below_drewN | apply below_drew1) | exact HB.out))); (case aF => exact (fun _ _ => trivial)); (case aO => exact (by (with_reducible repeat (first | apply Kd.R_alloc | apply Kd.R_drewN | apply Kd.R_drew)); exact HO_3.out)); (case aS => exact (below_size (by repeat (first | (with_reducible first | exact HB.out | apply below_alloc | apply pw_below_drewN | apply below_drew1) | exact HB.out)))); (case aL => have := LMc4.out; omega); intro v188 w5 ho hb hg hat; rw [← Ny187.out] at ho; have n0_ := Aside0.mk (hb); have n1_ := Aside0.mk (ho); clear HB; clear HO_3; have HB := n0_; have HO189 := n1_; clear n0_ n1_; clear ho hb hg hat))
            go_roundg k1
            case measure => have := HK1.out; omega
            case rel => exact ⟨(y187), (wrap64 (x4_1 + 1)), (by first | rfl | (simp; done) | (simp [*]; done)), H', ⟨by have := HK1.out; omega⟩, ⟨by (with_reducible repeat (first | apply Kd.R_alloc | apply Kd.R_drewN | apply Kd.R_drew)); exact HO189.out⟩, ⟨by repeat (first | (with_reducible first | exact HB.out | apply below_alloc | apply pw_below_drewN | apply below_drew1) | exact HB.out)⟩⟩
          · rw [if_neg c4] at H
            exact absurd H (by simp)
        · rw [if_neg c3] at H
          exact absurd H (by simp)
      · rw [if_neg c2] at H
        have c2b0 : decide (x4_1 < (l0.length : Int)) = false := decide_eq_false c2
        clear c2
        obtain rfl := Option.some.inj H
        go_wp2
        go_ret
        exact ⟨_, by first | rfl | (simp [errW_none, errW_some] <;> rfl) | (simp [*, errW_none, errW_some] <;> rfl), by (with_reducible repeat (first | apply Kd.R_alloc | apply Kd.R_drewN | apply Kd.R_drew)); exact HO_3.out, by repeat (first | (with_reducible first | exact HB.out | apply below_alloc | apply pw_below_drewN | apply below_drew1) | exact HB.out)⟩

end Go.Proofs.Ytoohpdamndgdlaa.P

-- Made by a program of this session (the print of the kit over a neighbour), for this claim.
namespace Go.Proofs.Ytoohpdamndgdlaa.P
open Go.RowKit Go.Proofs.YtoohpdamndgdlaaW.PrintWords Go.Proofs.YtoohpdamndgdlaaW.PrintLast Go.Proofs.YtoohpdamndgdlaaW.PrintMore
attribute [local go_sem] max2_int min2_int max_two min_two max_three min_three max_four min_four   -- for this text's walks alone
set_option linter.unusedVariables false
set_option linter.unusedSimpArgs false

/-! ### bitset_size: function 56 -/
def bitset_size.f (a0 : Int) : Option (Int) := some (wrap64 (Int.tdiv (wrap64 (a0 + 7)) 8))
set_option maxHeartbeats 8000000 in
set_option maxRecDepth 100000 in
theorem bitset_size.calls (a0 : Int) (r : Int) (w : World) (h : bitset_size.f a0 = some r) :
    Calls Try.prog 56 #[.int .i64 a0] w fun e w' => e = .returned (.int .i64 r) ∧ Drawn0 w w' := by
  have H : (some (wrap64 (Int.tdiv (wrap64 (a0 + 7)) 8))) = some r := h
  clear h
  obtain rfl := Option.some.inj H
  go_enter Try.func56, Try.ntmps56
  go_wp2
  go_ret
  exact ⟨by first | rfl | (simp; done) | (simp [*]; done), by repeat (first | exact Drawn0.refl _ | apply Drawn0.step)⟩

end Go.Proofs.Ytoohpdamndgdlaa.P

-- Made by a program of this session (the print of the kit over a neighbour), for this claim.
namespace Go.Proofs.Ytoohpdamndgdlaa.P
open Go.RowKit Go.Proofs.YtoohpdamndgdlaaW.PrintWords Go.Proofs.YtoohpdamndgdlaaW.PrintLast Go.Proofs.YtoohpdamndgdlaaW.PrintMore
attribute [local go_sem] max2_int min2_int max_two min_two max_three min_three max_four min_four   -- for this text's walks alone
set_option linter.unusedVariables false
set_option linter.unusedSimpArgs false

/-! ### bitset_Check: function 48 -/
def bitset_Check.j0 : Nat → Int → List Int → Bool → Option (Int)
  | 0, _, _, _ => none
  | k + 1, x0, x1, x10 => if x10 = true then (some 40) else ((bitset_size.f x0).bind fun t190 => (if (x1.length : Int) = t190 then (if (Int.tmod x0 8) = 0 then (some 0) else (if 0 ≤ (wrap64 (Int.tdiv x0 8)) then (if (wrap64 (Int.tdiv x0 8)) < (x1.length : Int) then (if 0 ≤ (Int.tmod x0 8) then (if (Go.bits .and .u8 (rd x1 (wrap64 (Int.tdiv x0 8))) (shr .u8 255 (Int.tmod x0 8))) = 0 then (some 0) else (some 42)) else (none)) else (none)) else (none))) else (some 41)))
def bitset_Check.f (k : Nat) (a0 : Int) (l1 : List Int) : Option (Int) := if a0 < 0 then (bitset_Check.j0 k a0 l1 true) else (bitset_Check.j0 k a0 l1 (decide (a0 > 65536)))
theorem bitset_Check.mono_l : ∀ k, (∀ y0 y1 y2, LeO (bitset_Check.j0 k y0 y1 y2) (bitset_Check.j0 (k + 1) y0 y1 y2))
  | 0 => fun _ _ _ r h => by simp [bitset_Check.j0] at h
  | k + 1 => by
    have ih0 := bitset_Check.mono_l k
    · intro y0 y1 y2
      unfold bitset_Check.j0
      repeat' first
      | (with_reducible exact ih0 _ _ _)
      | (with_reducible exact LeO.refl _)
      | (with_reducible exact LeO.none _)
      | (with_reducible refine LeO.ite ?_ ?_)
      | (with_reducible refine LeO.bind ?_ (fun _ => ?_))
      | exact ih0 _ _ _
      | exact LeO.none _
      | refine LeO.ite ?_ ?_
      | refine LeO.bind ?_ (fun _ => ?_)
theorem bitset_Check.mono : ∀ a0 a1 k, LeO (bitset_Check.f k a0 a1) (bitset_Check.f (k + 1) a0 a1) := by
  intro a0 a1 k
  have ih0 := bitset_Check.mono_l k
  unfold bitset_Check.f
  repeat' first
      | (with_reducible exact ih0 _ _ _)
      | (with_reducible exact LeO.refl _)
      | (with_reducible exact LeO.none _)
      | (with_reducible refine LeO.ite ?_ ?_)
      | (with_reducible refine LeO.bind ?_ (fun _ => ?_))
      | exact ih0 _ _ _
      | exact LeO.none _
      | refine LeO.ite ?_ ?_
      | refine LeO.bind ?_ (fun _ => ?_)
set_option maxHeartbeats 8000000 in
set_option maxRecDepth 100000 in
theorem bitset_Check.calls (k : Nat) (a0 : Int) (A1 : Option Addr) (c1 : Nat) (l1 : List Int) (r : Int) (w : World) (hr1 : Kd.C (Kd.int .u8) w A1 l1.length l1) (hc1 : l1.length ≤ c1) (h : bitset_Check.f k a0 l1 = some r) :
    Calls Try.prog 48 #[.int .i64 a0, .slice A1 l1.length c1] w fun e w' => e = .returned (.int .i64 r) ∧ Drawn0 w w' := by
  have HR1 := Aside0.mk hr1
  have HC1 := Aside0.mk hc1
  clear hr1 hc1
  have H : (if a0 < 0 then (bitset_Check.j0 k a0 l1 true) else (bitset_Check.j0 k a0 l1 (decide (a0 > 65536)))) = some r := h
  clear h
  have HC3 := Aside0.mk H
  clear H
  go_enter Try.func48, Try.ntmps48
  go_upto_region 1 with (fail)
  repeat (go_quiet (fail); go_upto_region 1 with (fail))
  go_cut [10] (fun v10 wc => ∃ (kq : Nat) (x10_2 : Bool), v10 = .bool x10_2 ∧ Aside0 (bitset_Check.j0 kq a0 l1 x10_2 = some r) ∧ Aside0 (kq ≤ k) ∧ Drawn0 w wc)
  case first =>
    have H := HC3.out
    clear HC3
    by_cases c4 : a0 < 0
    · rw [if_pos c4] at H
      have c4b0 : decide (a0 < 0) = true := decide_eq_true c4
      clear c4
      (first | rw [c4b0] | (simp only [i64_w, i32_w]; rw [c4b0]) | skip)
      have H' := Aside0.mk H
      clear H
      go_wp2
      repeat (go_quiet (fail); try go_wp2)
      go_meet
      case rel => exact ⟨_, (true), (by first | rfl | (simp; done) | (simp [*]; done)), H', ⟨by first | omega | exact Nat.le_refl _⟩, by repeat (first | exact Drawn0.refl _ | apply Drawn0.step)⟩
    · rw [if_neg c4] at H
      have c4b0 : decide (a0 < 0) = false := decide_eq_false c4
      clear c4
      (first | rw [c4b0] | (simp only [i64_w, i32_w]; rw [c4b0]) | skip)
      have H' := Aside0.mk H
      clear H
      go_wp2
      repeat (go_quiet (fail); try go_wp2)
      go_meet
      case rel => exact ⟨_, (decide (a0 > 65536)), (by first | rfl | (simp; done) | (simp [*]; done)), H', ⟨by first | omega | exact Nat.le_refl _⟩, by repeat (first | exact Drawn0.refl _ | apply Drawn0.step)⟩
  case rest =>
    clear HC3
    try clear c1
    try clear p2
    try clear c4
    try clear c4b0
    obtain ⟨kq, x10_2, rfl, HA, HJ2, ⟨mc2, rfl⟩⟩ := hcut
    cases kq with
    | zero => exact absurd HA.out (by simp [bitset_Check.j0])
    | succ kj2 =>
      have H := HA.out
      clear HA
      simp only [bitset_Check.j0] at H
      by_cases c5 : x10_2 = true
      · subst c5
        have H1 : (some 40) = some r := by rw [if_pos rfl] at H; exact H
        clear H
        have H := H1
        clear H1
        obtain rfl := Option.some.inj H
        go_wp2
        repeat (go_quiet (fail); try go_wp2)
        go_ret
        exact ⟨by first | rfl | (simp; done) | (simp [*]; done), by repeat (first | exact Drawn0.refl _ | apply Drawn0.step)⟩
      · replace c5 := Bool.eq_false_iff.mpr c5
        subst c5
        have H1 : ((bitset_size.f a0).bind fun t190 => (if (l1.length : Int) = t190 then (if (Int.tmod a0 8) = 0 then (some 0) else (if 0 ≤ (wrap64 (Int.tdiv a0 8)) then (if (wrap64 (Int.tdiv a0 8)) < (l1.length : Int) then (if 0 ≤ (Int.tmod a0 8) then (if (Go.bits .and .u8 (rd l1 (wrap64 (Int.tdiv a0 8))) (shr .u8 255 (Int.tmod a0 8))) = 0 then (some 0) else (some 42)) else (none)) else (none)) else (none))) else (some 41))) = some r := by rw [if_neg (show ¬ (false = true) by decide)] at H; exact H
        clear H
        have H := H1
        clear H1
        replace H := Option.bind_eq_some_iff.mp H
        obtain ⟨t190, A60, H⟩ := H
        replace H : (if (l1.length : Int) = t190 then (if (Int.tmod a0 8) = 0 then (some 0) else (if 0 ≤ (wrap64 (Int.tdiv a0 8)) then (if (wrap64 (Int.tdiv a0 8)) < (l1.length : Int) then (if 0 ≤ (Int.tmod a0 8) then (if (Go.bits .and .u8 (rd l1 (wrap64 (Int.tdiv a0 8))) (shr .u8 255 (Int.tmod a0 8))) = 0 then (some 0) else (some 42)) else (none)) else (none)) else (none))) else (some 41)) = some r := H
        have A6 := Aside0.mk A60
        clear A60
        by_cases c7 : (l1.length : Int) = t190
        · rw [if_pos c7] at H
          have c7b0 : ((l1.length : Int) == t190) = true := beq_iff_eq.mpr c7
          have c7b1 : ((l1.length : Int) != t190) = false := bne_eq_false_iff_eq.mpr c7
          clear c7
          by_cases c8 : (Int.tmod a0 8) = 0
          · rw [if_pos c8] at H
            have c8b0 : ((Int.tmod a0 8) == 0) = true := beq_iff_eq.mpr c8
            have c8b1 : ((Int.tmod a0 8) != 0) = false := bne_eq_false_iff_eq.mpr c8
            clear c8
            obtain rfl := Option.some.inj H
            go_wp2_with (first | (go_at_call 56; (with_reducible refine (bitset_size.calls a0 t190 _ A6.out).mono ?_); rintro e w' ⟨rfl, ⟨nd, rfl⟩⟩; (try first | exact ⟨rfl, _, World.drewN_drewN _ _ _⟩ | exact ⟨rfl, _, Eq.trans (World.drewN_drewN _ _ _) (congrArg (World.drewN _) (Nat.add_assoc _ _ _))⟩)))
            repeat (go_quiet (first | (go_at_call 56; (with_reducible refine (bitset_size.calls a0 t190 _ A6.out).mono ?_); rintro e w' ⟨rfl, ⟨nd, rfl⟩⟩; (try first | exact ⟨rfl, _, World.drewN_drewN _ _ _⟩ | exact ⟨rfl, _, Eq.trans (World.drewN_drewN _ _ _) (congrArg (World.drewN _) (Nat.add_assoc _ _ _))⟩))); try go_wp2_with (first | (go_at_call 56; (with_reducible refine (bitset_size.calls a0 t190 _ A6.out).mono ?_); rintro e w' ⟨rfl, ⟨nd, rfl⟩⟩; (try first | exact ⟨rfl, _, World.drewN_drewN _ _ _⟩ | exact ⟨rfl, _, Eq.trans (World.drewN_drewN _ _ _) (congrArg (World.drewN _) (Nat.add_assoc _ _ _))⟩))))
            go_ret
            exact ⟨by first | rfl | (simp; done) | (simp [*]; done), by repeat (first | exact Drawn0.refl _ | apply Drawn0.step)⟩
          · rw [if_neg c8] at H
            have c8b0 : ((Int.tmod a0 8) == 0) = false := beq_eq_false_iff_ne.mpr c8
            have c8b1 : ((Int.tmod a0 8) != 0) = true := bne_iff_ne.mpr c8
            obtain ⟨ji9, hji9⟩ : ∃ j_ : Int, (wrap64 (Int.tdiv a0 8)) = j_ := ⟨_, rfl⟩
            replace H : (if 0 ≤ (ji9) then (if (ji9) < (l1.length : Int) then (if 0 ≤ (Int.tmod a0 8) then (if (Go.bits .and .u8 (rd l1 (ji9)) (shr .u8 255 (Int.tmod a0 8))) = 0 then (some 0) else (some 42)) else (none)) else (none)) else (none)) = some r := by first | (rw [hji9] at H; exact H) | (simp only [hji9] at H ⊢; exact H)
            (try rw [hji9] at A6)
            have hji9w : (IntKind.i64.wrap (Int.tdiv a0 8)) = ji9 := (i64_w _).trans hji9
            by_cases c10 : 0 ≤ (ji9)
            · rw [if_pos c10] at H
              have c10b0 : decide (0 ≤ (ji9)) = true := decide_eq_true c10
              clear c10
              by_cases c11 : (ji9) < (l1.length : Int)
              · rw [if_pos c11] at H
                have c11b0 : decide ((ji9) < (l1.length : Int)) = true := decide_eq_true c11
                clear c11
                obtain ⟨ji12, hji12⟩ : ∃ j_ : Int, (Int.tmod a0 8) = j_ := ⟨_, rfl⟩
                replace H : (if 0 ≤ (ji12) then (if (Go.bits .and .u8 (rd l1 (ji9)) (shr .u8 255 (ji12))) = 0 then (some 0) else (some 42)) else (none)) = some r := by first | (rw [hji12] at H; exact H) | (simp only [hji12] at H ⊢; exact H)
                (try rw [hji12] at c8b0)
                (try rw [hji12] at c8b1)
                (try rw [hji12] at A6)
                by_cases c13 : 0 ≤ (ji12)
                · rw [if_pos c13] at H
                  have c13b0 := eq_true c13
                  have c13b1 : decide (0 ≤ (ji12)) = true := decide_eq_true c13
                  clear c13
                  obtain ⟨ji14, hji14⟩ : ∃ j_ : Int, (shr .u8 255 (ji12)) = j_ := ⟨_, rfl⟩
                  replace H : (if (Go.bits .and .u8 (rd l1 (ji9)) (ji14)) = 0 then (some 0) else (some 42)) = some r := by first | (rw [hji14] at H; exact H) | (simp only [hji14] at H ⊢; exact H)
                  (try rw [hji14] at A6)
                  have hji14_ : (255 / 2 ^ min (ji12).toNat 8) = ji14 := hji14
                  have hji14z : (ji12) ≤ 8 → (255 / 2 ^ (ji12).toNat) = ji14 := shr_small hji14
                  by_cases c15 : (Go.bits .and .u8 (rd l1 (ji9)) (ji14)) = 0
                  · rw [if_pos c15] at H
                    have c15b0 : ((Go.bits .and .u8 (rd l1 (ji9)) (ji14)) == 0) = true := beq_iff_eq.mpr c15
                    have c15b1 : ((Go.bits .and .u8 (rd l1 (ji9)) (ji14)) != 0) = false := bne_eq_false_iff_eq.mpr c15
                    clear c15
                    obtain rfl := Option.some.inj H
                    go_wp2_with (first | (go_at_call 56; (with_reducible refine (bitset_size.calls a0 t190 _ A6.out).mono ?_); rintro e w' ⟨rfl, ⟨nd, rfl⟩⟩; (try first | exact ⟨rfl, _, World.drewN_drewN _ _ _⟩ | exact ⟨rfl, _, Eq.trans (World.drewN_drewN _ _ _) (congrArg (World.drewN _) (Nat.add_assoc _ _ _))⟩); have p191 : 0 ≤ ((ji9) : Int) := of_decide_eq_true (by first | (with_reducible assumption) | assumption); have q191 : (ji9) < (l1.length : Int) := of_decide_eq_true (by first | (with_reducible assumption) | assumption); obtain ⟨ad191, e191, hx191_0⟩ := Kd.at_int HR1.out (ji9) p191 q191; cases e191; replace p191 := eq_true p191; replace q191 := eq_true q191))
                    repeat (go_quiet (first | (go_at_call 56; (with_reducible refine (bitset_size.calls a0 t190 _ A6.out).mono ?_); rintro e w' ⟨rfl, ⟨nd, rfl⟩⟩; (try first | exact ⟨rfl, _, World.drewN_drewN _ _ _⟩ | exact ⟨rfl, _, Eq.trans (World.drewN_drewN _ _ _) (congrArg (World.drewN _) (Nat.add_assoc _ _ _))⟩); have p191 : 0 ≤ ((ji9) : Int) := of_decide_eq_true (by first | (with_reducible assumption) | assumption); have q191 : (ji9) < (l1.length : Int) := of_decide_eq_true (by first | (with_reducible assumption) | assumption); obtain ⟨ad191, e191, hx191_0⟩ := Kd.at_int HR1.out (ji9) p191 q191; cases e191; replace p191 := eq_true p191; replace q191 := eq_true q191)); try go_wp2_with (first | (go_at_call 56; (with_reducible refine (bitset_size.calls a0 t190 _ A6.out).mono ?_); rintro e w' ⟨rfl, ⟨nd, rfl⟩⟩; (try first | exact ⟨rfl, _, World.drewN_drewN _ _ _⟩ | exact ⟨rfl, _, Eq.trans (World.drewN_drewN _ _ _) (congrArg (World.drewN _) (Nat.add_assoc _ _ _))⟩); have p191 : 0 ≤ ((ji9) : Int) := of_decide_eq_true (by first | (with_reducible assumption) | assumption); have q191 : (ji9) < (l1.length : Int) := of_decide_eq_true (by first | (with_reducible assumption) | assumption); obtain ⟨ad191, e191, hx191_0⟩ := Kd.at_int HR1.out (ji9) p191 q191; cases e191; replace p191 := eq_true p191; replace q191 := eq_true q191)))
                    go_ret
                    exact ⟨by first | rfl | (simp; done) | (simp only [← hji9, ← hji12, ← hji14] <;> (first | rfl | simp)) | (simp [*]; done), by repeat (first | exact Drawn0.refl _ | apply Drawn0.step)⟩
                  · rw [if_neg c15] at H
                    have c15b0 : ((Go.bits .and .u8 (rd l1 (ji9)) (ji14)) == 0) = false := beq_eq_false_iff_ne.mpr c15
                    have c15b1 : ((Go.bits .and .u8 (rd l1 (ji9)) (ji14)) != 0) = true := bne_iff_ne.mpr c15
                    obtain rfl := Option.some.inj H
                    go_wp2_with (first | (go_at_call 56; (with_reducible refine (bitset_size.calls a0 t190 _ A6.out).mono ?_); rintro e w' ⟨rfl, ⟨nd, rfl⟩⟩; (try first | exact ⟨rfl, _, World.drewN_drewN _ _ _⟩ | exact ⟨rfl, _, Eq.trans (World.drewN_drewN _ _ _) (congrArg (World.drewN _) (Nat.add_assoc _ _ _))⟩); have p191 : 0 ≤ ((ji9) : Int) := of_decide_eq_true (by first | (with_reducible assumption) | assumption); have q191 : (ji9) < (l1.length : Int) := of_decide_eq_true (by first | (with_reducible assumption) | assumption); obtain ⟨ad191, e191, hx191_0⟩ := Kd.at_int HR1.out (ji9) p191 q191; cases e191; replace p191 := eq_true p191; replace q191 := eq_true q191))
                    repeat (go_quiet (first | (go_at_call 56; (with_reducible refine (bitset_size.calls a0 t190 _ A6.out).mono ?_); rintro e w' ⟨rfl, ⟨nd, rfl⟩⟩; (try first | exact ⟨rfl, _, World.drewN_drewN _ _ _⟩ | exact ⟨rfl, _, Eq.trans (World.drewN_drewN _ _ _) (congrArg (World.drewN _) (Nat.add_assoc _ _ _))⟩); have p191 : 0 ≤ ((ji9) : Int) := of_decide_eq_true (by first | (with_reducible assumption) | assumption); have q191 : (ji9) < (l1.length : Int) := of_decide_eq_true (by first | (with_reducible assumption) | assumption); obtain ⟨ad191, e191, hx191_0⟩ := Kd.at_int HR1.out (ji9) p191 q191; cases e191; replace p191 := eq_true p191; replace q191 := eq_true q191)); try go_wp2_with (first | (go_at_call 56; (with_reducible refine (bitset_size.calls a0 t190 _ A6.out).mono ?_); rintro e w' ⟨rfl, ⟨nd, rfl⟩⟩; (try first | exact ⟨rfl, _, World.drewN_drewN _ _ _⟩ | exact ⟨rfl, _, Eq.trans (World.drewN_drewN _ _ _) (congrArg (World.drewN _) (Nat.add_assoc _ _ _))⟩); have p191 : 0 ≤ ((ji9) : Int) := of_decide_eq_true (by first | (with_reducible assumption) | assumption); have q191 : (ji9) < (l1.length : Int) := of_decide_eq_true (by first | (with_reducible assumption) | assumption); obtain ⟨ad191, e191, hx191_0⟩ := Kd.at_int HR1.out (ji9) p191 q191; cases e191; replace p191 := eq_true p191; replace q191 := eq_true q191)))
                    go_ret
                    exact ⟨by first | rfl | (simp; done) | (simp only [← hji9, ← hji12, ← hji14] <;> (first | rfl | simp)) | (simp [*]; done), by repeat (first | exact Drawn0.refl _ | apply Drawn0.step)⟩
                · rw [if_neg c13] at H
                  exact absurd H (by simp)
              · rw [if_neg c11] at H
                exact absurd H (by simp)
            · rw [if_neg c10] at H
              exact absurd H (by simp)
        · rw [if_neg c7] at H
          have c7b0 : ((l1.length : Int) == t190) = false := beq_eq_false_iff_ne.mpr c7
          have c7b1 : ((l1.length : Int) != t190) = true := bne_iff_ne.mpr c7
          obtain rfl := Option.some.inj H
          go_wp2_with (first | (go_at_call 56; (with_reducible refine (bitset_size.calls a0 t190 _ A6.out).mono ?_); rintro e w' ⟨rfl, ⟨nd, rfl⟩⟩; (try first | exact ⟨rfl, _, World.drewN_drewN _ _ _⟩ | exact ⟨rfl, _, Eq.trans (World.drewN_drewN _ _ _) (congrArg (World.drewN _) (Nat.add_assoc _ _ _))⟩)))
          repeat (go_quiet (first | (go_at_call 56; (with_reducible refine (bitset_size.calls a0 t190 _ A6.out).mono ?_); rintro e w' ⟨rfl, ⟨nd, rfl⟩⟩; (try first | exact ⟨rfl, _, World.drewN_drewN _ _ _⟩ | exact ⟨rfl, _, Eq.trans (World.drewN_drewN _ _ _) (congrArg (World.drewN _) (Nat.add_assoc _ _ _))⟩))); try go_wp2_with (first | (go_at_call 56; (with_reducible refine (bitset_size.calls a0 t190 _ A6.out).mono ?_); rintro e w' ⟨rfl, ⟨nd, rfl⟩⟩; (try first | exact ⟨rfl, _, World.drewN_drewN _ _ _⟩ | exact ⟨rfl, _, Eq.trans (World.drewN_drewN _ _ _) (congrArg (World.drewN _) (Nat.add_assoc _ _ _))⟩))))
          go_ret
          exact ⟨by first | rfl | (simp; done) | (simp [*]; done), by repeat (first | exact Drawn0.refl _ | apply Drawn0.step)⟩

end Go.Proofs.Ytoohpdamndgdlaa.P

/- Plain arithmetic of bytes and bits for the statements of chapter 4: a list of bytes as a sequence of bits, the high bit first. No condition, no program. -/
set_option linter.unusedVariables false
set_option linter.unusedSimpArgs false
namespace Go.Proofs.Ytoohpdamndgdlaa.B
open Go.RowKit Go.Proofs.YtoohpdamndgdlaaW.PrintWords Go.Proofs.YtoohpdamndgdlaaW.PrintLast Go.Proofs.YtoohpdamndgdlaaW.PrintMore

/-! ### whole numbers -/
theorem w64 (n : Int) (h0 : -9223372036854775808 ≤ n) (h1 : n ≤ 9223372036854775807) : wrap64 n = n := by unfold wrap64; omega
theorem wf64 {n : Int} (h : (Lit.int .i64 n).wf = true) : -9223372036854775808 ≤ n ∧ n ≤ 9223372036854775807 := by
  simp [Lit.wf, IntKind.min, IntKind.max, IntKind.bits, IntKind.signed] at h
  omega
theorem wf8 {n : Int} (h : (Lit.int .u8 n).wf = true) : 0 ≤ n ∧ n < 256 := by
  simp [Lit.wf, IntKind.min, IntKind.max, IntKind.bits, IntKind.signed] at h
  omega

/-! ### one byte -/
theorem tb8 (m i : Nat) (h : m < 256) (hi : 8 ≤ i) : m.testBit i = false := by
  refine Nat.testBit_lt_two_pow (Nat.lt_of_lt_of_le h ?_)
  exact (show 256 = 2 ^ 8 by decide) ▸ Nat.pow_le_pow_right (by decide) hi
theorem nat_ext8 (m n : Nat) (hm : m < 256) (hn : n < 256) (h : ∀ i, i < 8 → m.testBit i = n.testBit i) : m = n := by
  refine Nat.eq_of_testBit_eq fun i => ?_
  by_cases hi : i < 8
  · exact h i hi
  · rw [tb8 m i hm (by omega), tb8 n i hn (by omega)]
theorem bits_and8 (a b : Nat) (ha : a < 256) (hb : b < 256) : Go.bits .and .u8 a b = ((a &&& b : Nat) : Int) := (bits_nat .u8 8 (by decide) wraps_u8 a b ha hb).1
theorem bits_or8 (a b : Nat) (ha : a < 256) (hb : b < 256) : Go.bits .or .u8 a b = ((a ||| b : Nat) : Int) := (bits_nat .u8 8 (by decide) wraps_u8 a b ha hb).2
theorem bits_not8 (a b : Nat) (ha : a < 256) (hb : b < 256) : ∃ r : Nat, Go.bits .andNot .u8 a b = (r : Int) ∧ r < 256 ∧ ∀ i, i < 8 → r.testBit i = (a.testBit i && !b.testBit i) := by
  refine ⟨(BitVec.ofNat 8 a &&& ~~~ BitVec.ofNat 8 b).toNat, ?_, ?_, ?_⟩
  · simp only [Go.bits, BitVec.ofInt_natCast]
    exact wraps_u8 _ (Int.natCast_nonneg _) (by exact_mod_cast (BitVec.ofNat 8 a &&& ~~~ BitVec.ofNat 8 b).isLt)
  · exact (BitVec.ofNat 8 a &&& ~~~ BitVec.ofNat 8 b).isLt
  · intro i hi
    have e : ∀ x : BitVec 8, x.toNat.testBit i = x.getLsbD i := fun x => rfl
    rw [e, BitVec.getLsbD_and, BitVec.getLsbD_not, BitVec.getLsbD_ofNat, BitVec.getLsbD_ofNat]
    simp [hi]

/-- What an operation on two bytes gives, bit by bit. -/
def opb : BinOp → Bool → Bool → Bool
  | .and, x, y => x && y
  | .or, x, y => x || y
  | _, x, y => x && !y
theorem bits_byte (op : BinOp) (hop : op = .and ∨ op = .or ∨ op = .andNot) (x y : Int) (hx : 0 ≤ x ∧ x < 256) (hy : 0 ≤ y ∧ y < 256) :
    (0 ≤ Go.bits op .u8 x y ∧ Go.bits op .u8 x y < 256) ∧ ∀ i, i < 8 → (Go.bits op .u8 x y).toNat.testBit i = opb op (x.toNat.testBit i) (y.toNat.testBit i) := by
  obtain ⟨a, rfl⟩ : ∃ a : Nat, x = a := ⟨x.toNat, by omega⟩
  obtain ⟨b, rfl⟩ : ∃ b : Nat, y = b := ⟨y.toNat, by omega⟩
  have ha : a < 256 := by omega
  have hb : b < 256 := by omega
  simp only [Int.toNat_natCast]
  rcases hop with rfl | rfl | rfl
  · rw [bits_and8 a b ha hb]
    have h : a &&& b < 256 := Nat.and_lt_two_pow (n := 8) _ hb
    exact ⟨by omega, fun i _ => by simp [opb, Nat.testBit_and]⟩
  · rw [bits_or8 a b ha hb]
    have h : a ||| b < 256 := Nat.or_lt_two_pow (n := 8) ha hb
    exact ⟨by omega, fun i _ => by simp [opb, Nat.testBit_or]⟩
  · obtain ⟨r, hr, hl, ht⟩ := bits_not8 a b ha hb
    rw [hr]
    exact ⟨by omega, fun i hi => by simpa [opb] using ht i hi⟩

/-! ### the masks -/
def mk8 (t : Nat) : Int := (2 ^ (7 - t) : Nat)
theorem shr_mask (t : Nat) (h : t < 8) : shr .u8 128 (t : Int) = mk8 t := by
  match t, h with
  | 0, _ | 1, _ | 2, _ | 3, _ | 4, _ | 5, _ | 6, _ | 7, _ => decide
theorem mk8_range (t : Nat) (h : t < 8) : 0 ≤ mk8 t ∧ mk8 t < 256 := by
  match t, h with
  | 0, _ | 1, _ | 2, _ | 3, _ | 4, _ | 5, _ | 6, _ | 7, _ => decide
theorem mk8_bit (t i : Nat) (h : t < 8) : (mk8 t).toNat.testBit i = decide (i = 7 - t) := by
  unfold mk8
  rw [Int.toNat_natCast, Nat.testBit_two_pow]
  exact decide_eq_decide.mpr ⟨fun h => h.symm, fun h => h.symm⟩
/-- A byte and a mask: is the bit set? -/
theorem and_mask (x : Int) (hx : 0 ≤ x ∧ x < 256) (t : Nat) (h : t < 8) : (Go.bits .and .u8 x (mk8 t) = 0) ↔ x.toNat.testBit (7 - t) = false := by
  obtain ⟨hr, hb⟩ := bits_byte .and (.inl rfl) x (mk8 t) hx (mk8_range t h)
  constructor
  · intro h0
    have := hb (7 - t) (by omega)
    rw [h0, mk8_bit t _ h] at this
    simpa [opb] using this.symm
  · intro h0
    have : (Go.bits .and .u8 x (mk8 t)).toNat = 0 := nat_ext8 _ _ (by omega) (by decide) fun i hi => by
      rw [hb i hi, mk8_bit t _ h]
      by_cases hit : i = 7 - t
      · subst hit; simp [opb, h0]
      · simp [opb, hit]
    omega
theorem add_bit (a t : Nat) (ha : a < 256) (ht : t < 8) (h : a.testBit t = false) : a + 2 ^ t = a ||| 2 ^ t := by
  have key : ∀ t : Fin 8, ∀ a : Fin 256, a.val.testBit t.val = false → a.val + 2 ^ t.val = a.val ||| 2 ^ t.val := by decide +kernel
  exact key ⟨t, ht⟩ ⟨a, ha⟩ h
/-- A mask is added to a byte that lacks the bit. -/
theorem add_mask (x : Int) (hx : 0 ≤ x ∧ x < 256) (t : Nat) (h : t < 8) (h0 : x.toNat.testBit (7 - t) = false) :
    (x + mk8 t % 256) % 256 = Go.bits .or .u8 x (mk8 t) := by
  obtain ⟨a, rfl⟩ : ∃ a : Nat, x = a := ⟨x.toNat, by omega⟩
  have hm := mk8_range t h
  rw [Int.toNat_natCast] at h0
  have ha : a < 256 := by omega
  have e := add_bit a (7 - t) ha (by omega) h0
  have hl : a ||| 2 ^ (7 - t) < 256 := Nat.or_lt_two_pow (n := 8) ha (by unfold mk8 at hm; omega)
  have e2 : Go.bits .or .u8 (a : Int) (mk8 t) = ((a ||| 2 ^ (7 - t) : Nat) : Int) := bits_or8 a _ ha (by unfold mk8 at hm; omega)
  rw [e2, ← e]
  have e3 : mk8 t % 256 = mk8 t := by omega
  rw [e3]
  unfold mk8
  rw [← Int.natCast_add]
  omega

/-! ### a list of bytes as bits -/
def gbit (xs : List Int) (i : Nat) : Bool := (xs.getD (i / 8) 0).toNat.testBit (7 - i % 8)
def IsB (xs : List Int) : Prop := ∀ x ∈ xs, 0 ≤ x ∧ x < 256
theorem IsB.nil : IsB [] := fun x hx => by simp at hx
theorem IsB.getD {xs : List Int} (h : IsB xs) (j : Nat) : 0 ≤ xs.getD j 0 ∧ xs.getD j 0 < 256 := by
  by_cases hj : j < xs.length
  · rw [List.getD_eq_getElem?_getD, List.getElem?_eq_getElem hj, Option.getD_some]
    exact h _ (List.getElem_mem hj)
  · rw [List.getD_eq_getElem?_getD, List.getElem?_eq_none (by omega)]
    exact ⟨by simp, by simp⟩
theorem IsB.set {xs : List Int} (h : IsB xs) (j : Nat) {v : Int} (hv : 0 ≤ v ∧ v < 256) : IsB (xs.set j v) := fun x hx => by
  rcases List.mem_or_eq_of_mem_set hx with hx | rfl
  · exact h x hx
  · exact hv
theorem IsB.append {xs ys : List Int} (h : IsB xs) (k : IsB ys) : IsB (xs ++ ys) := fun x hx => by
  rcases List.mem_append.1 hx with hx | hx
  · exact h x hx
  · exact k x hx
theorem IsB.replicate (n : Nat) : IsB (List.replicate n 0) := fun x hx => by
  obtain rfl := List.eq_of_mem_replicate hx
  decide
theorem IsB.of_wf {xs : List Int} (h : ∀ x ∈ xs, (Lit.int .u8 x).wf = true) : IsB xs := fun x hx => wf8 (h x hx)
theorem gbit_ext {xs ys : List Int} (hl : xs.length = ys.length) (hx : IsB xs) (hy : IsB ys) (h : ∀ i, i < 8 * xs.length → gbit xs i = gbit ys i) : xs = ys := by
  refine List.ext_getElem hl fun j h1 h2 => ?_
  have ex : xs.getD j 0 = xs[j] := by rw [List.getD_eq_getElem?_getD, List.getElem?_eq_getElem h1, Option.getD_some]
  have ey : ys.getD j 0 = ys[j] := by rw [List.getD_eq_getElem?_getD, List.getElem?_eq_getElem h2, Option.getD_some]
  have bx := hx.getD j
  have by_ := hy.getD j
  have : (xs.getD j 0).toNat = (ys.getD j 0).toNat := nat_ext8 _ _ (by omega) (by omega) fun i hi => by
    have := h (8 * j + (7 - i)) (by omega)
    unfold gbit at this
    rw [show (8 * j + (7 - i)) / 8 = j by omega, show 7 - (8 * j + (7 - i)) % 8 = i by omega] at this
    exact this
  rw [← ex, ← ey]
  omega
theorem gbit_set (xs : List Int) (q : Nat) (v : Int) (j : Nat) (hq : q < xs.length) : gbit (xs.set q v) j = if j / 8 = q then v.toNat.testBit (7 - j % 8) else gbit xs j := by
  unfold gbit
  by_cases h : j / 8 = q
  · subst h
    rw [if_pos rfl, List.getD_eq_getElem?_getD, List.getElem?_set_self hq, Option.getD_some]
  · rw [if_neg h, List.getD_eq_getElem?_getD, List.getElem?_set_ne (Ne.symm h), ← List.getD_eq_getElem?_getD]
theorem gbit_replicate (n i : Nat) : gbit (List.replicate n 0) i = false := by
  unfold gbit
  have : (List.replicate n (0 : Int)).getD (i / 8) 0 = 0 := by
    rw [List.getD_eq_getElem?_getD, List.getElem?_replicate]
    split <;> rfl
  rw [this]
  simp
theorem gbit_append_zero (xs : List Int) (i : Nat) : gbit (xs ++ [0]) i = gbit xs i := by
  unfold gbit
  have : (xs ++ [(0 : Int)]).getD (i / 8) 0 = xs.getD (i / 8) 0 := by
    simp only [List.getD_eq_getElem?_getD]
    by_cases h : i / 8 < xs.length
    · rw [List.getElem?_append_left h]
    · rw [List.getElem?_eq_none (by omega : xs.length ≤ i / 8)]
      by_cases h2 : i / 8 = xs.length
      · rw [h2, List.getElem?_append_right (by omega)]
        simp
      · rw [List.getElem?_eq_none (by simp; omega)]
  rw [this]
theorem gbit_beyond (xs : List Int) (i : Nat) (h : 8 * xs.length ≤ i) : gbit xs i = false := by
  unfold gbit
  rw [List.getD_eq_getElem?_getD, List.getElem?_eq_none (by omega)]
  simp

/-! ### the bit i set, taken out -/
def put1 (xs : List Int) (i : Nat) : List Int := xs.set (i / 8) (Go.bits .or .u8 (xs.getD (i / 8) 0) (mk8 (i % 8)))
def put0 (xs : List Int) (i : Nat) : List Int := xs.set (i / 8) (Go.bits .andNot .u8 (xs.getD (i / 8) 0) (mk8 (i % 8)))
theorem put1_length (xs : List Int) (i : Nat) : (put1 xs i).length = xs.length := by simp [put1]
theorem put0_length (xs : List Int) (i : Nat) : (put0 xs i).length = xs.length := by simp [put0]
theorem put1_isB {xs : List Int} (h : IsB xs) (i : Nat) : IsB (put1 xs i) := h.set _ (bits_byte .or (.inr (.inl rfl)) _ _ (h.getD _) (mk8_range _ (Nat.mod_lt _ (by decide)))).1
theorem put0_isB {xs : List Int} (h : IsB xs) (i : Nat) : IsB (put0 xs i) := h.set _ (bits_byte .andNot (.inr (.inr rfl)) _ _ (h.getD _) (mk8_range _ (Nat.mod_lt _ (by decide)))).1
theorem put1_bit {xs : List Int} (h : IsB xs) (i j : Nat) (hi : i < 8 * xs.length) : gbit (put1 xs i) j = (gbit xs j || decide (j = i)) := by
  unfold put1
  rw [gbit_set _ _ _ _ (by omega)]
  split
  · rename_i hj
    rw [(bits_byte .or (.inr (.inl rfl)) _ _ (h.getD _) (mk8_range _ (Nat.mod_lt _ (by decide)))).2 _ (by omega), mk8_bit _ _ (Nat.mod_lt _ (by decide))]
    show (_ || _) = _
    unfold gbit
    rw [hj]
    congr 1
    exact decide_eq_decide.mpr ⟨fun h => by omega, fun h => by subst h; rfl⟩
  · rename_i hj
    have : ¬ j = i := fun e => hj (by rw [e])
    simp [this]
theorem put0_bit {xs : List Int} (h : IsB xs) (i j : Nat) (hi : i < 8 * xs.length) : gbit (put0 xs i) j = (gbit xs j && !decide (j = i)) := by
  unfold put0
  rw [gbit_set _ _ _ _ (by omega)]
  split
  · rename_i hj
    rw [(bits_byte .andNot (.inr (.inr rfl)) _ _ (h.getD _) (mk8_range _ (Nat.mod_lt _ (by decide)))).2 _ (by omega), mk8_bit _ _ (Nat.mod_lt _ (by decide))]
    show (_ && !_) = _
    unfold gbit
    rw [hj]
    congr 2
    exact decide_eq_decide.mpr ⟨fun h => by omega, fun h => by subst h; rfl⟩
  · rename_i hj
    have : ¬ j = i := fun e => hj (by rw [e])
    simp [this]

/-! ### Go's spellings -/
theorem quo8 (n : Nat) (h : n ≤ 9223372036854775807) : wrap64 (Int.tdiv (n : Int) 8) = ((n / 8 : Nat) : Int) := by
  have : Int.tdiv (n : Int) 8 = ((n / 8 : Nat) : Int) := by
    rw [Int.tdiv_eq_ediv_of_nonneg (by omega)]
    omega
  rw [this, w64 _ (by omega) (by omega)]
theorem rem8 (n : Nat) : Int.tmod (n : Int) 8 = ((n % 8 : Nat) : Int) := by
  rw [Int.tmod_eq_emod_of_nonneg (by omega)]
  omega
theorem rd_nat (xs : List Int) (n : Nat) : rd xs (n : Int) = xs.getD n 0 := by unfold rd; rw [Int.toNat_natCast]
theorem inc (n : Nat) (h : n < 9223372036854775807) : wrap64 ((n : Int) + 1) = ((n + 1 : Nat) : Int) := by rw [w64 _ (by omega) (by omega)]; omega

/-! ### what a packed list of bits is -/
structure Packed (p : Nat → Bool) (n : Nat) (r : List Int) : Prop where
  len : r.length = (n + 7) / 8
  isB : IsB r
  bit : ∀ i, i < 8 * r.length → gbit r i = (decide (i < n) && p i)
theorem Packed.unique {p q : Nat → Bool} {n : Nat} {r s : List Int} (h : Packed p n r) (k : Packed q n s) (e : ∀ i, i < n → p i = q i) : r = s :=
  gbit_ext (h.len.trans k.len.symm) h.isB k.isB fun i hi => by
    rw [h.bit i hi, k.bit i (by have := h.len.trans k.len.symm; omega)]
    by_cases hn : i < n
    · rw [e i hn]
    · simp [hn]
theorem Packed.congr {p q : Nat → Bool} {n : Nat} {r : List Int} (h : Packed p n r) (e : ∀ i, i < n → p i = q i) : Packed q n r :=
  ⟨h.len, h.isB, fun i hi => by
    rw [h.bit i hi]
    by_cases hn : i < n
    · rw [e i hn]
    · simp [hn]⟩
end Go.Proofs.Ytoohpdamndgdlaa.B

/- The call of bitset.masks: it answers the array of the eight masks, and what stood in memory stays. No condition. -/
namespace Go.Proofs.Ytoohpdamndgdlaa.P
open Go.RowKit Go.Proofs.YtoohpdamndgdlaaW.PrintWords Go.Proofs.YtoohpdamndgdlaaW.PrintMore

/-- The eight masks, as one value. -/
def maskV : Value := .agg #[.int .u8 128, .int .u8 64, .int .u8 32, .int .u8 16, .int .u8 8, .int .u8 4, .int .u8 2, .int .u8 1]

theorem masks_calls (w : World) : Calls Try.prog 58 #[] w fun e w' => e = .returned maskV ∧ Below w.heap.size w w' := by
  go_enter Try.func58, Try.ntmps58
  go_wp2
  refine bodyPost_ret (v := maskV) (by simp [results, Try.results58, go_sem, maskV]) rfl ⟨rfl, ?_⟩
  exact (Below.refl _ _).alloc (Nat.le_refl _) _

def MaskAt (j : Int) : Prop := ∀ w : World, (Instr.index 68 maskV (.int .i64 j)).run Try.prog w = .ok (.int .u8 (shr .u8 128 j)) w
theorem mask_at0 : MaskAt 0 := fun w => by kernel_rfl
theorem mask_at1 : MaskAt 1 := fun w => by kernel_rfl
theorem mask_at2 : MaskAt 2 := fun w => by kernel_rfl
theorem mask_at3 : MaskAt 3 := fun w => by kernel_rfl
theorem mask_at4 : MaskAt 4 := fun w => by kernel_rfl
theorem mask_at5 : MaskAt 5 := fun w => by kernel_rfl
theorem mask_at6 : MaskAt 6 := fun w => by kernel_rfl
theorem mask_at7 : MaskAt 7 := fun w => by kernel_rfl
theorem mask_at (j : Int) (h0 : 0 ≤ j) (h8 : j < 8) : MaskAt j := by
  have h : j = 0 ∨ j = 1 ∨ j = 2 ∨ j = 3 ∨ j = 4 ∨ j = 5 ∨ j = 6 ∨ j = 7 := by omega
  rcases h with rfl | rfl | rfl | rfl | rfl | rfl | rfl | rfl
  · exact mask_at0
  · exact mask_at1
  · exact mask_at2
  · exact mask_at3
  · exact mask_at4
  · exact mask_at5
  · exact mask_at6
  · exact mask_at7
theorem tmod8_lt (x : Int) : Int.tmod x 8 < 8 := Int.tmod_lt_of_pos x (by decide)
end Go.Proofs.Ytoohpdamndgdlaa.P

/- bitset.Walk's iterator: it yields the places of the set bits, rising, and stops where a round says 'no more'. Conditions: at most 65536 bits, the bytes reach. -/
namespace Go.Proofs.Ytoohpdamndgdlaa.P
open Go.RowKit Go.Proofs.YtoohpdamndgdlaaW.PrintWords Go.Proofs.YtoohpdamndgdlaaW.PrintMore Go.Proofs.Ytoohpdamndgdlaa.B
attribute [local go_sem] Oper.semAt_some

/-- Is the bit set, as the program asks it? (Whatever numbers the list holds.) -/
def hit (xs : List Int) (k : Nat) : Bool := Go.bits .and .u8 (xs.getD (k / 8) 0) (mk8 (k % 8)) != 0
/-- The places below k of the set bits. -/
def onesTo (xs : List Int) (k : Nat) : List Int := ((List.range k).filter (hit xs)).map (fun i : Nat => (i : Int))
theorem onesTo_hit {xs : List Int} {k : Nat} (h : hit xs k = true) : onesTo xs (k + 1) = onesTo xs k ++ [(k : Int)] := by simp [onesTo, List.range_succ, h]
theorem onesTo_miss {xs : List Int} {k : Nat} (h : hit xs k = false) : onesTo xs (k + 1) = onesTo xs k := by simp [onesTo, List.range_succ, h]
theorem onesTo_length (xs : List Int) (k : Nat) : (onesTo xs k).length ≤ k := by
  unfold onesTo
  rw [List.length_map]
  exact Nat.le_trans (List.length_filter_le _ _) (by simp)
theorem onesTo_prefix (xs : List Int) {j k : Nat} (h : j ≤ k) : onesTo xs j <+: onesTo xs k := by
  obtain ⟨d, rfl⟩ := Nat.exists_eq_add_of_le h
  induction d with
  | zero => exact List.prefix_refl _
  | succ d ih =>
    refine (ih (by omega)).trans ?_
    cases hb : hit xs (j + d) with
    | true => rw [← Nat.add_assoc, onesTo_hit hb]; exact List.prefix_append _ _
    | false => rw [← Nat.add_assoc, onesTo_miss hb]; exact List.prefix_refl _
theorem onesTo_length_lt (xs : List Int) {k n : Nat} (h : k < n) (hb : hit xs k = true) : (onesTo xs k).length < (onesTo xs n).length := by
  have := (onesTo_prefix xs (show k + 1 ≤ n by omega)).length_le
  rw [onesTo_hit hb, List.length_append] at this
  simp at this
  omega

/-- The blocks from lo on, below hi, are as they were. -/
def Keeps (lo hi : Nat) (W W' : World) : Prop := ∀ b, lo ≤ b → b < hi → W'.heap[b]? = W.heap[b]?
theorem Keeps.refl (lo hi : Nat) (W : World) : Keeps lo hi W W := fun _ _ _ => rfl
theorem Keeps.trans {lo hi : Nat} {A B C : World} (h : Keeps lo hi A B) (k : Keeps lo hi B C) : Keeps lo hi A C := fun b h1 h2 => (k b h1 h2).trans (h b h1 h2)
theorem Keeps.of_below {lo hi B : Nat} {W W' : World} (h : Below B W W') (hB : hi ≤ B) : Keeps lo hi W W' := fun b _ h2 => h.block b (by omega)
theorem Keeps.drew (lo hi : Nat) (W : World) : Keeps lo hi W W.drew := fun _ _ _ => rfl
theorem Keeps.cell {lo hi : Nat} {W W' : World} (h : Keeps lo hi W W') {b o : Nat} (h1 : lo ≤ b) (h2 : b < hi) : W'.cell? ⟨b, o, none⟩ = W.cell? ⟨b, o, none⟩ := by
  simp only [World.cell?, h b h1 h2]
theorem Keeps.size {lo hi : Nat} {W W' : World} (h : Keeps lo hi W W') (hl : lo < hi) (hs : hi ≤ W.heap.size) : hi ≤ W'.heap.size := by
  have e := h (hi - 1) (by omega) (by omega)
  rw [Array.getElem?_eq_getElem (show hi - 1 < W.heap.size by omega)] at e
  have := (Array.getElem?_eq_some_iff.1 e).1
  omega
theorem Keeps.putObj (lo hi : Nat) (W : World) (l : Nat) (o : Obj) (h : hi ≤ l) : Keeps lo hi W (W.putObj l o) := fun b _ h2 => World.putObj_heap_other (by omega)

set_option maxRecDepth 100000 in
set_option maxHeartbeats 4000000 in
theorem walk2_in (m : Nat) (hm : 1 ≤ m) (l Bn Bo lo hi g cap n : Nat) (xs : List Int) (hn : n ≤ 65536) (hlen : n ≤ 8 * xs.length) (J Jx : List Int → World → Prop)
    (hJ : ∀ s W W', J s W → W.grownBy W' none → J s W')
    (hY : ∀ pre x W, J pre W → pre.length < (onesTo xs n).length → YieldAt Fence.wide (m - 1) Try.prog l #[.int .i64 x] W fun e W' =>
      (e = .returned (.bool true) ∧ J (pre ++ [x]) W' ∧ Keeps lo hi W W') ∨ (e = .returned (.bool false) ∧ Jx (pre ++ [x]) W'))
    (W : World) (hn0 : hi ≤ W.heap.size) (hBo : lo ≤ Bo ∧ Bo < hi) (hg : 0 < n → lo ≤ g ∧ g < hi) (hcn : W.cell? ⟨Bn, 0, none⟩ = some (.int .i64 n)) (hco : 0 < n → W.cell? ⟨Bo, 0, none⟩ = some (.slice (some ⟨g, 0, none⟩) xs.length cap))
    (hc : 0 < n → ∀ j, j < xs.length → W.cell? ⟨g, j, none⟩ = some (.int .u8 (xs.getD j 0))) (h0 : J [] W) :
    CallsIn Fence.wide m Try.prog 62 #[.func (.yield l) #[] #[], .pointer (some ⟨Bn, 0, none⟩), .pointer (some ⟨Bo, 0, none⟩)] W fun e W' => (∃ v, e = .returned v) ∧
      ((∃ ys, ys = onesTo xs n ∧ J ys W') ∨ (∃ pre, pre <+: onesTo xs n ∧ Jx pre W')) := by
  refine callsIn_of_wp Try.func62 rfl trivial ?_ rfl
  simp only [Try.ntmps62, List.size_toArray, List.length_cons, List.length_nil, Nat.reduceAdd, Nat.reduceSub, Array.replicate_succ, Array.replicate_zero, List.push_toArray, List.append_toArray, List.nil_append, List.cons_append]
  gi_wp2
  gi_loopw [6] (fun i wr => ∃ k : Nat, k ≤ n ∧ i = .int .i64 k ∧ J (onesTo xs k) wr ∧ Keeps lo hi W wr)
    (fun i _ => n - (intOf i).toNat)
  case atStart => exact ⟨0, Nat.zero_le _, rfl, by simpa [onesTo] using h0, Keeps.refl _ _ _⟩
  case round =>
    obtain ⟨k, hk, rfl, hJs, hnx⟩ := hrel
    by_cases hlt : k < n
    · have hco1 : wr.cell? ⟨Bo, 0, none⟩ = some (.slice (some ⟨g, 0, none⟩) xs.length cap) := (hnx.cell hBo.1 hBo.2).trans (hco (by omega))
      obtain ⟨y, hy⟩ : ∃ y : Int, xs.getD (k / 8) 0 = y := ⟨_, rfl⟩
      have hc1 : wr.cell? ⟨g, k / 8, none⟩ = some (.int .u8 y) := by rw [← hy]; exact (hnx.cell (hg (by omega)).1 (hg (by omega)).2).trans (hc (by omega) (k / 8) (by omega))
      have hand : (Go.bits .and .u8 (xs.getD (k / 8) 0) (mk8 (k % 8)) != 0) = hit xs k := rfl
      rw [hy] at hand
      have HY := Lib.hid hy
      clear hy hc hcn hco h0
      have hmk : ∀ W1 : World, (Instr.index 68 maskV (.int .i64 ((k : Int) % 8))).run Try.prog W1 = .ok (.int .u8 (mk8 (k % 8))) W1 := by
        have e : (k : Int) % 8 = ((k % 8 : Nat) : Int) := by omega
        rw [e, ← shr_mask _ (Nat.mod_lt _ (by decide))]
        exact mask_at _ (by omega) (by omega)
      have hq1 : IntKind.i64.wrap ((k : Int) / 8) = (k : Int) / 8 := by rw [IntWalk.i64_left, w64 _ (by omega) (by omega)]
      have hq3 : (0 : Int) ≤ (k : Int) / 8 := by omega
      have hq4 : (k : Int) / 8 < (xs.length : Int) := by omega
      have hq5 : ((k : Int) / 8).toNat = k / 8 := by omega
      have hmk2 : ∀ W1 : World, (Instr.index 68 maskV (.int .i64 (Int.tmod (k : Int) 8))).run Try.prog W1 = .ok (.int .u8 (mk8 (k % 8))) W1 := by
        intro W1
        rw [show Int.tmod (k : Int) 8 = (k : Int) % 8 from Int.tmod_eq_emod_of_nonneg (by omega)]
        exact hmk W1
      have HS := Lib.hid (hnx.size (by omega) hn0)
      have hlo : Bo < wr.heap.size := World.block_lt_of_cell? wr ⟨Bo, 0, none⟩ hco1
      have hlg : g < wr.heap.size := World.block_lt_of_cell? wr ⟨g, k / 8, none⟩ hc1
      have hJd : J (onesTo xs k) wr.drew := hJ _ _ _ hJs ⟨rfl, rfl, rfl, Nat.le_refl _, fun _ _ _ => rfl⟩
      have hmo : Try.prog.follows .mixedOrders = true := by kernel_rfl
      clear hg
      cases hb : hit xs k with
      | true =>
        rw [hb] at hand
        have HB := Lib.hid hb
        clear hb
        have HT := Lib.hid (onesTo_length_lt xs hlt HB.out)
        gi_wp2
        gi_region_with_o (first | (refine ⟨trivial, ?_⟩; gi_at_call 58; refine (callsIn_wide.2 (masks_calls _)).mono ?_; rintro e w1 ⟨rfl, hb1⟩; have hco2 := (hb1.cell (p := ⟨Bo, 0, none⟩) hlo).trans hco1; have hc2 := (hb1.cell (p := ⟨g, k / 8, none⟩) hlg).trans hc1; have hJ1 := hJ _ _ _ hJd (grown_of_below hb1 none); obtain ⟨fn, tmps, assign, body, hy, hR⟩ := hY _ (k : Int) w1 hJ1 HT.out; have HR2 := hR.mono (R' := fun e W' => ∃ b : Bool, e = .returned (.bool b) ∧ ((b = true ∧ J (onesTo xs k ++ [(k : Int)]) W' ∧ Keeps lo hi w1 W') ∨ (b = false ∧ Jx (onesTo xs k ++ [(k : Int)]) W'))) (fun e W' h => h.elim (fun h => ⟨true, h.1, .inl ⟨rfl, h.2⟩⟩) (fun h => ⟨false, h.1, .inr ⟨rfl, h.2⟩⟩))) | (refine HR2.mono ?_; rintro e W3 ⟨b, rfl, hd⟩))
        all_goals
          have hB1 : Keeps lo hi W w1 := hnx.trans ((Keeps.drew lo hi wr).trans (Keeps.of_below hb1 HS.out))
          rcases hd with ⟨rfl, hJ3, hk3⟩ | ⟨rfl, hJx3⟩
          · gi_wp2
            go_roundw
            case rel => exact ⟨k + 1, by omega, by go_num, by rw [onesTo_hit HB.out]; exact hJ3, hB1.trans hk3⟩
            case measure => simp [intOf]; omega
          · gi_wp2
            refine bodyPost_ret (results_none rfl _ _ _) rfl ?_
            exact ⟨⟨_, rfl⟩, .inr ⟨_, by rw [← onesTo_hit HB.out]; exact onesTo_prefix xs (by omega), hJx3⟩⟩
      | false =>
        rw [hb] at hand
        have HB := Lib.hid hb
        clear hb
        gi_wp2
        first | (gi_region_with_o (first | (refine ⟨trivial, ?_⟩; gi_at_call 58; refine (callsIn_wide.2 (masks_calls _)).mono ?_; rintro e w1 ⟨rfl, hb1⟩; have hco2 := (hb1.cell (p := ⟨Bo, 0, none⟩) hlo).trans hco1; have hc2 := (hb1.cell (p := ⟨g, k / 8, none⟩) hlg).trans hc1; have hJ1 := hJ _ _ _ hJd (grown_of_below hb1 none)) | (refine ⟨fun _ h => (by cases h), ?_⟩; gi_wp2))) | (fail "no")
        all_goals
          have hB1 : Keeps lo hi W w1 := hnx.trans ((Keeps.drew lo hi wr).trans (Keeps.of_below hb1 HS.out))
          gi_wp2
          go_roundw
          case rel => exact ⟨k + 1, by omega, by go_num, by rw [onesTo_miss HB.out]; exact hJ1, hB1⟩
          case measure => simp [intOf]; omega
    · obtain rfl : k = n := by omega
      gi_wp2
      go_end0
      exact ⟨⟨_, rfl⟩, .inl ⟨_, rfl, hJs⟩⟩
end Go.Proofs.Ytoohpdamndgdlaa.P

-- Made by a program of this session (the print of the kit over a neighbour), for this claim.
namespace Go.Proofs.Ytoohpdamndgdlaa.P
open Go.RowKit Go.Proofs.YtoohpdamndgdlaaW.PrintWords Go.Proofs.YtoohpdamndgdlaaW.PrintLast Go.Proofs.YtoohpdamndgdlaaW.PrintMore
attribute [local go_sem] max2_int min2_int max_two min_two max_three min_three max_four min_four   -- for this text's walks alone
set_option linter.unusedVariables false
set_option linter.unusedSimpArgs false

/-! ### torrentref4_weight: function 71 -/
def torrentref4_weight.l0 : Nat → Int → Int → Int → Option (Int)
  | 0, _, _, _ => none
  | k + 1, x0, x3, x4 => if x4 < (Int.tmod x0 8) then (torrentref4_weight.l0 k x0 (wrap64 (Int.tdiv x3 2)) (wrap64 (x4 + 1))) else (some x3)
def torrentref4_weight.f (k : Nat) (a0 : Int) : Option (Int) := torrentref4_weight.l0 k a0 128 0
theorem torrentref4_weight.mono_l : ∀ k, (∀ y0 y1 y2, LeO (torrentref4_weight.l0 k y0 y1 y2) (torrentref4_weight.l0 (k + 1) y0 y1 y2))
  | 0 => fun _ _ _ r h => by simp [torrentref4_weight.l0] at h
  | k + 1 => by
    have ih0 := torrentref4_weight.mono_l k
    · intro y0 y1 y2
      unfold torrentref4_weight.l0
      repeat' first
      | (with_reducible exact ih0 _ _ _)
      | (with_reducible exact LeO.refl _)
      | (with_reducible exact LeO.none _)
      | (with_reducible refine LeO.ite ?_ ?_)
      | (with_reducible refine LeO.bind ?_ (fun _ => ?_))
      | exact ih0 _ _ _
      | exact LeO.none _
      | refine LeO.ite ?_ ?_
      | refine LeO.bind ?_ (fun _ => ?_)
theorem torrentref4_weight.mono : ∀ a0 k, LeO (torrentref4_weight.f k a0) (torrentref4_weight.f (k + 1) a0) := by
  intro a0 k
  have ih0 := torrentref4_weight.mono_l k
  unfold torrentref4_weight.f
  repeat' first
      | (with_reducible exact ih0 _ _ _)
      | (with_reducible exact LeO.refl _)
      | (with_reducible exact LeO.none _)
      | (with_reducible refine LeO.ite ?_ ?_)
      | (with_reducible refine LeO.bind ?_ (fun _ => ?_))
      | exact ih0 _ _ _
      | exact LeO.none _
      | refine LeO.ite ?_ ?_
      | refine LeO.bind ?_ (fun _ => ?_)
set_option maxHeartbeats 8000000 in
set_option maxRecDepth 100000 in
theorem torrentref4_weight.calls (k : Nat) (a0 : Int) (r : Int) (w : World) (h : torrentref4_weight.f k a0 = some r) :
    Calls Try.prog 71 #[.int .i64 a0] w fun e w' => e = .returned (.int .i64 r) ∧ Drawn0 w w' := by
  have H : (torrentref4_weight.l0 k a0 128 0) = some r := h
  clear h
  have H' := Aside0.mk H
  clear H
  go_enter Try.func71, Try.ntmps71
  go_wp2
  go_loopg [3, 4] k (fun kq v3 v4 w' => ∃ (x3_1 : Int) (x4_1 : Int), v3 = .int .i64 x3_1 ∧ v4 = .int .i64 x4_1 ∧ Aside0 (torrentref4_weight.l0 kq a0 x3_1 x4_1 = some r) ∧ Aside0 (kq ≤ k) ∧ Drawn0 w w')
  case atStart => exact ⟨(128), (0), (by first | rfl | (simp; done) | (simp [*]; done)), (by first | rfl | (simp; done) | (simp [*]; done)), H', ⟨Nat.le_refl _⟩, by repeat (first | exact Drawn0.refl _ | apply Drawn0.step)⟩
  case round =>
    clear H'
    obtain ⟨x3_1, x4_1, rfl, rfl, HA, HK1, ⟨m1, rfl⟩⟩ := hrel
    cases gk with
    | zero => exact absurd HA.out (by simp [torrentref4_weight.l0])
    | succ k1 =>
      have H := HA.out
      clear HA
      simp only [torrentref4_weight.l0] at H
      by_cases c2 : x4_1 < (Int.tmod a0 8)
      · rw [if_pos c2] at H
        have c2b0 : decide (x4_1 < (Int.tmod a0 8)) = true := decide_eq_true c2
        clear c2
        have H' := Aside0.mk H
        clear H
        go_wp2
        go_roundg k1
        case measure => have := HK1.out; omega
        case rel => exact ⟨(wrap64 (Int.tdiv x3_1 2)), (wrap64 (x4_1 + 1)), (by first | rfl | (simp; done) | (simp [*]; done)), (by first | rfl | (simp; done) | (simp [*]; done)), H', ⟨by have := HK1.out; omega⟩, by repeat (first | exact Drawn0.refl _ | apply Drawn0.step)⟩
      · rw [if_neg c2] at H
        have c2b0 : decide (x4_1 < (Int.tmod a0 8)) = false := decide_eq_false c2
        clear c2
        obtain rfl := Option.some.inj H
        go_wp2
        go_ret
        exact ⟨by first | rfl | (simp; done) | (simp [*]; done), by repeat (first | exact Drawn0.refl _ | apply Drawn0.step)⟩

end Go.Proofs.Ytoohpdamndgdlaa.P

-- Made by a program of this session (the print of the kit over a neighbour), for this claim.
namespace Go.Proofs.Ytoohpdamndgdlaa.P
open Go.RowKit Go.Proofs.YtoohpdamndgdlaaW.PrintWords Go.Proofs.YtoohpdamndgdlaaW.PrintLast Go.Proofs.YtoohpdamndgdlaaW.PrintMore
attribute [local go_sem] max2_int min2_int max_two min_two max_three min_three max_four min_four   -- for this text's walks alone
set_option linter.unusedVariables false
set_option linter.unusedSimpArgs false

/-! ### torrentref4_pack: function 57 -/
def torrentref4_pack.l0 : Nat → List Bool → List Int → Int → Option (List Int)
  | 0, _, _, _ => none
  | k + 1, x0, x3, x4 => if x4 < (x0.length : Int) then (if (Int.tmod x4 8) = 0 then (if x3.length < 140737488355328 then ((some (x3 ++ [0] : List Int)).bind fun y105 => (if 0 ≤ x4 then (if rdOf false x0 x4 = true then (if 0 ≤ (wrap64 (Int.tdiv x4 8)) then (if (wrap64 (Int.tdiv x4 8)) < (y105.length : Int) then ((torrentref4_weight.f k x4).bind fun t110 => (torrentref4_pack.l0 k x0 (y105.set ((wrap64 (Int.tdiv x4 8)) : Int).toNat (((rd y105 (wrap64 (Int.tdiv x4 8))) + ((t110) % 256)) % 256)) (wrap64 (x4 + 1)))) else (none)) else (none)) else (torrentref4_pack.l0 k x0 y105 (wrap64 (x4 + 1)))) else (none))) else (none)) else (if 0 ≤ x4 then (if rdOf false x0 x4 = true then (if 0 ≤ (wrap64 (Int.tdiv x4 8)) then (if (wrap64 (Int.tdiv x4 8)) < (x3.length : Int) then ((torrentref4_weight.f k x4).bind fun t114 => (torrentref4_pack.l0 k x0 (x3.set ((wrap64 (Int.tdiv x4 8)) : Int).toNat (((rd x3 (wrap64 (Int.tdiv x4 8))) + ((t114) % 256)) % 256)) (wrap64 (x4 + 1)))) else (none)) else (none)) else (torrentref4_pack.l0 k x0 x3 (wrap64 (x4 + 1)))) else (none))) else (some x3)
def torrentref4_pack.f (k : Nat) (l0 : List Bool) : Option (List Int) := torrentref4_pack.l0 k l0 ([] : List Int) 0
theorem torrentref4_pack.mono_l : ∀ k, (∀ y0 y1 y2, LeO (torrentref4_pack.l0 k y0 y1 y2) (torrentref4_pack.l0 (k + 1) y0 y1 y2))
  | 0 => fun _ _ _ r h => by simp [torrentref4_pack.l0] at h
  | k + 1 => by
    have ih0 := torrentref4_pack.mono_l k
    · intro y0 y1 y2
      unfold torrentref4_pack.l0
      repeat' first
      | (with_reducible exact ih0 _ _ _)
      | (with_reducible exact torrentref4_weight.mono _ _)
      | (with_reducible exact LeO.refl _)
      | (with_reducible exact LeO.none _)
      | (with_reducible refine LeO.ite ?_ ?_)
      | (with_reducible refine LeO.bind ?_ (fun _ => ?_))
      | exact ih0 _ _ _
      | exact torrentref4_weight.mono _ _
      | exact LeO.none _
      | refine LeO.ite ?_ ?_
      | refine LeO.bind ?_ (fun _ => ?_)
theorem torrentref4_pack.mono : ∀ a0 k, LeO (torrentref4_pack.f k a0) (torrentref4_pack.f (k + 1) a0) := by
  intro a0 k
  have ih0 := torrentref4_pack.mono_l k
  unfold torrentref4_pack.f
  repeat' first
      | (with_reducible exact ih0 _ _ _)
      | (with_reducible exact torrentref4_weight.mono _ _)
      | (with_reducible exact LeO.refl _)
      | (with_reducible exact LeO.none _)
      | (with_reducible refine LeO.ite ?_ ?_)
      | (with_reducible refine LeO.bind ?_ (fun _ => ?_))
      | exact ih0 _ _ _
      | exact torrentref4_weight.mono _ _
      | exact LeO.none _
      | refine LeO.ite ?_ ?_
      | refine LeO.bind ?_ (fun _ => ?_)
def torrentref4_pack.T8 : Bool × List (List Nat × List Nat) := (true, [([], []), ([], []), ([1], [1]), ([], []), ([], []), ([4], [4]), ([3, 5], [3, 5]), ([6], [6]), ([], []), ([8], [8]), ([9], [9]), ([7, 10], [7, 10]), ([0, 2, 0, 1, 2, 3, 4, 5, 6, 7, 8, 9, 10, 11], [0, 2]), ([12, 11, 9, 0, 1, 2, 3, 4, 5, 6, 7, 8, 9, 10, 11], [11, 12])])
def torrentref4_pack.B8 : List Nat := [0, 0, 2, 0, 0, 16, 56, 120, 0, 256, 768, 2040, 4095, 8191]
theorem torrentref4_pack.tab8 : rtab .any (opsOf Try.f57 8) = torrentref4_pack.T8 := by kernel_rfl
theorem torrentref4_pack.bits8 : waitsOk torrentref4_pack.T8.2 torrentref4_pack.B8 = true := by kernel_rfl
set_option maxHeartbeats 8000000 in
set_option maxRecDepth 100000 in
theorem torrentref4_pack.calls (k : Nat) (A0 : Option Addr) (c0 : Nat) (l0 : List Bool) (r : List Int) (w : World) (hr0 : Kd.C Kd.bool w A0 l0.length l0) (hc0 : l0.length ≤ c0) (h : torrentref4_pack.f k l0 = some r) :
    Calls Try.prog 57 #[.slice A0 l0.length c0] w fun e w' => ∃ v0_ : Value, e = .returned (v0_) ∧ Kd.R (Kd.int .u8) 5 w' w.heap.size (fun _ => True) v0_ r ∧ Below w.heap.size w w' := by
  have HR0 := Aside0.mk hr0
  have HC0 := Aside0.mk hc0
  clear hr0 hc0
  have HB := Aside0.mk (Below.refl w.heap.size w)
  have H : (torrentref4_pack.l0 k l0 ([] : List Int) 0) = some r := h
  clear h
  have H' := Aside0.mk H
  clear H
  go_enter Try.func57, Try.ntmps57
  go_wp2
  go_loopg [3, 4] k (fun kq v3 v4 w' => ∃ (x3_1 : List Int) (x4_1 : Int), v4 = .int .i64 x4_1 ∧ Aside0 (torrentref4_pack.l0 kq l0 x3_1 x4_1 = some r) ∧ Aside0 (kq ≤ k) ∧ Aside0 (Kd.R (Kd.int .u8) 5 w' w.heap.size (fun _ => True) v3 x3_1) ∧ Aside0 (Below w.heap.size w w'))
  case atStart => exact ⟨(([] : List Int)), (0), (by first | rfl | (simp; done) | (simp [*]; done)), H', ⟨Nat.le_refl _⟩, ⟨by first | exact Kd.R_nil _ _ _ _ _ | exact Kd.N_nil _ _ _ _ _ | exact Kd.V_nil _ _ _ _ _ | exact Kd.Q_nil _ _ _ _ _ | exact Kd.S_nil _ _ _ _ _⟩, ⟨by repeat (first | (with_reducible first | exact HB.out | apply below_alloc | apply pw_below_drewN | apply below_drew1) | exact HB.out)⟩⟩
  case round =>
    clear H'
    obtain ⟨x3_1, x4_1, rfl, HA, HK1, HO_3, HB⟩ := hrel
    cases gk with
    | zero => exact absurd HA.out (by simp [torrentref4_pack.l0])
    | succ k1 =>
      have H := HA.out
      clear HA
      simp only [torrentref4_pack.l0] at H
      by_cases c2 : x4_1 < (l0.length : Int)
      · rw [if_pos c2] at H
        have c2b0 : decide (x4_1 < (l0.length : Int)) = true := decide_eq_true c2
        clear c2
        by_cases c3 : (Int.tmod x4_1 8) = 0
        · rw [if_pos c3] at H
          have c3b0 : ((Int.tmod x4_1 8) == 0) = true := beq_iff_eq.mpr c3
          have c3b1 : ((Int.tmod x4_1 8) != 0) = false := bne_eq_false_iff_eq.mpr c3
          clear c3
          by_cases c4 : x3_1.length < 140737488355328
          · rw [if_pos c4] at H
            have LMc4 := Aside0.mk c4
            clear c4
            obtain ⟨y105, hy105⟩ : ∃ y_ : List Int, y_ = (x3_1 ++ [0]) := ⟨_, rfl⟩
            replace H : (if 0 ≤ x4_1 then (if rdOf false l0 x4_1 = true then (if 0 ≤ (wrap64 (Int.tdiv x4_1 8)) then (if (wrap64 (Int.tdiv x4_1 8)) < (y105.length : Int) then ((torrentref4_weight.f k1 x4_1).bind fun t110 => (torrentref4_pack.l0 k1 l0 (y105.set ((wrap64 (Int.tdiv x4_1 8)) : Int).toNat (((rd y105 (wrap64 (Int.tdiv x4_1 8))) + ((t110) % 256)) % 256)) (wrap64 (x4_1 + 1)))) else (none)) else (none)) else (torrentref4_pack.l0 k1 l0 y105 (wrap64 (x4_1 + 1)))) else (none)) = some r := by first | (rw [hy105]; with_reducible exact H) | (have H2_ := (Option.bind_some _ _).symm.trans H; rw [hy105]; with_reducible exact H2_) | (have H2_ := (Option.bind_some _ _).symm.trans H; with_reducible exact H2_) | with_reducible exact H | (rw [hy105]; exact H) | exact H
            have Ny105 := Aside0.mk hy105
            clear hy105
            by_cases c5 : 0 ≤ x4_1
            · rw [if_pos c5] at H
              have c5b0 : decide (0 ≤ x4_1) = true := decide_eq_true c5
              clear c5
              obtain ⟨bq6, hbq6⟩ : ∃ b_ : Bool, b_ = (rdOf false l0 x4_1) := ⟨_, rfl⟩
              replace H : (if bq6 = true then (if 0 ≤ (wrap64 (Int.tdiv x4_1 8)) then (if (wrap64 (Int.tdiv x4_1 8)) < (y105.length : Int) then ((torrentref4_weight.f k1 x4_1).bind fun t110 => (torrentref4_pack.l0 k1 l0 (y105.set ((wrap64 (Int.tdiv x4_1 8)) : Int).toNat (((rd y105 (wrap64 (Int.tdiv x4_1 8))) + ((t110) % 256)) % 256)) (wrap64 (x4_1 + 1)))) else (none)) else (none)) else (torrentref4_pack.l0 k1 l0 y105 (wrap64 (x4_1 + 1)))) = some r := by rw [← hbq6] at H; exact H
              have Nbq6 := Aside0.mk hbq6
              clear hbq6
              by_cases c7 : bq6 = true
              · subst c7
                have H1 : (if 0 ≤ (wrap64 (Int.tdiv x4_1 8)) then (if (wrap64 (Int.tdiv x4_1 8)) < (y105.length : Int) then ((torrentref4_weight.f k1 x4_1).bind fun t110 => (torrentref4_pack.l0 k1 l0 (y105.set ((wrap64 (Int.tdiv x4_1 8)) : Int).toNat (((rd y105 (wrap64 (Int.tdiv x4_1 8))) + ((t110) % 256)) % 256)) (wrap64 (x4_1 + 1)))) else (none)) else (none)) = some r := by rw [if_pos rfl] at H; exact H
                clear H
                have H := H1
                clear H1
                obtain ⟨ji8, hji8⟩ : ∃ j_ : Int, (wrap64 (Int.tdiv x4_1 8)) = j_ := ⟨_, rfl⟩
                replace H : (if 0 ≤ (ji8) then (if (ji8) < (y105.length : Int) then ((torrentref4_weight.f k1 x4_1).bind fun t110 => (torrentref4_pack.l0 k1 l0 (y105.set ((ji8) : Int).toNat (((rd y105 (ji8)) + ((t110) % 256)) % 256)) (wrap64 (x4_1 + 1)))) else (none)) else (none)) = some r := by first | (rw [hji8] at H; exact H) | (simp only [hji8] at H ⊢; exact H)
                have hji8w : (IntKind.i64.wrap (Int.tdiv x4_1 8)) = ji8 := (i64_w _).trans hji8
                by_cases c9 : 0 ≤ (ji8)
                · rw [if_pos c9] at H
                  have c9b0 : decide (0 ≤ (ji8)) = true := decide_eq_true c9
                  clear c9
                  by_cases c10 : (ji8) < (y105.length : Int)
                  · rw [if_pos c10] at H
                    have c10b0 : decide ((ji8) < (y105.length : Int)) = true := decide_eq_true c10
                    clear c10
                    replace H := Option.bind_eq_some_iff.mp H
                    obtain ⟨t110, A110, H⟩ := H
                    replace H : (torrentref4_pack.l0 k1 l0 (y105.set ((ji8) : Int).toNat (((rd y105 (ji8)) + ((t110) % 256)) % 256)) (wrap64 (x4_1 + 1))) = some r := H
                    have A11 := Aside0.mk A110
                    clear A110
                    obtain ⟨y111, hy111⟩ : ∃ y_ : List Int, y_ = (y105.set ((ji8) : Int).toNat (((rd y105 (ji8)) + ((t110) % 256)) % 256)) := ⟨_, rfl⟩
                    replace H : (torrentref4_pack.l0 k1 l0 y111 (wrap64 (x4_1 + 1))) = some r := by first | (rw [hy111]; with_reducible exact H) | (have H2_ := (Option.bind_some _ _).symm.trans H; rw [hy111]; with_reducible exact H2_) | (have H2_ := (Option.bind_some _ _).symm.trans H; with_reducible exact H2_) | with_reducible exact H | (rw [hy111]; exact H) | exact H
                    have Ny111 := Aside0.mk hy111
                    clear hy111
                    have H' := Aside0.mk H
                    clear H
                    try go_wp2_with (first | ((with_reducible refine gate_builtin (b := .append) (xs := #[.tmp 14, .tmp 15]) rfl ?_); at_builtin; refine Kd.R_append (Kd.int .u8) (w0 := w) w.heap.size rfl (.tmp 14) (.tmp 15) 22 5 (.int .u8 0) 1 rfl Try.underlying22 info5 rfl (by decide) (by omega) u3 x3_1 0 [.int .u8 0] (fun _ => True) (fun _ => False) rfl rfl ?aP (fun _ hk => hk.elim) ?aF ?aO ?aB ?aS ?aL ?_; (case aP => exact rfl); (case aB => exact (by repeat (first | (with_reducible first | exact HB.out | apply below_alloc | apply pw_below_drewN | apply below_drew1) | exact HB.out))); (case aF => exact (fun _ _ => trivial)); (case aO => exact (by (with_reducible repeat (first | apply Kd.R_alloc | apply Kd.R_drewN | apply Kd.R_drew)); exact HO_3.out)); (case aS => exact (below_size (by repeat (first | (with_reducible first | exact HB.out | apply below_alloc | apply pw_below_drewN | apply below_drew1) | exact HB.out)))); (case aL => have := LMc4.out; omega); intro v106 w13 ho hb hg hat; rw [← Ny105.out] at ho; have n0_ := Aside0.mk (hb); have n1_ := Aside0.mk (ho); clear HB; clear HO_3; have HB := n0_; have HO107 := n1_; clear n0_ n1_; clear ho hb hg hat; have p108 : 0 ≤ (x4_1 : Int) := of_decide_eq_true (by first | (with_reducible assumption) | assumption); have q108 : x4_1 < (l0.length : Int) := of_decide_eq_true (by first | (with_reducible assumption) | assumption); obtain ⟨ad108, e108, hx108_0⟩ := Kd.at_bool HR0.out x4_1 p108 q108; (try rw [← Nbq6.out] at hx108_0); cases e108; replace hx108_0 := (HB.out.cell (World.block_lt_of_cell? w _ hx108_0)).trans hx108_0; replace p108 := eq_true p108; replace q108 := eq_true q108))
                    have n0_ := Aside0.mk (Kd.R_drew HO107.out)
                    have n1_ := Aside0.mk (below_drew1 HB.out)
                    clear HO107
                    clear HB
                    have HO107 := n0_
                    have HB := n1_
                    clear n0_ n1_
                    obtain ⟨Ao15, co15, eo15⟩ := Kd.R_slice HO107.out
                    (first | subst eo15 | (injection eo15 with f1_ f2_ f3_; have f4_ := f1_.symm; have f5_ := f3_.symm; clear f1_ f2_ f3_; subst f4_; subst f5_))
                    have p109 : 0 ≤ ((ji8) : Int) := of_decide_eq_true (by first | (with_reducible assumption) | assumption)
                    have q109 : (ji8) < (y105.length : Int) := of_decide_eq_true (by first | (with_reducible assumption) | assumption)
                    obtain ⟨ad109, e109, hx109_0⟩ := Kd.at_int (Kd.R_reads' HO107.out).2.2 (ji8) p109 q109
                    cases e109
                    replace p109 := eq_true p109
                    replace q109 := eq_true q109
                    refine start_ (n := 14) (S := fun w' => w'.cell? (ad109.add ((ji8)).toNat) = some (.int .u8 (rd y105 (ji8)))) (ds := [13]) #[false, false, false, false, false, false, false, false, false, false, false, false, false, false] (by kernel_rfl) rfl rfl (hx109_0) (fun hHeld => ?_); refine with_tabW torrentref4_pack.tab8 torrentref4_pack.bits8 (fun HT_ HW_ => ?_)
                    generalize w13.drew = w14 at HO107 HB hx109_0 hHeld ⊢
                    refine pure_ (i := 0) (N := some 21) (v := ?_) (a' := ?_) #[true, false, false, false, false, false, false, false, false, false, false, false, false, false] rfl rfl (any_of HT_.out (by kernel_rfl)) (fun _ _ _ h => h) (Or.inl ⟨by rfl, ?_⟩) ?_ ?_
                    rotate_left
                    · intro w'
                      go_simp
                      with_reducible rfl
                    rotate_left
                    · simp only [Act.put, List.setIfInBounds_toArray, List.set_cons_zero, List.set_cons_succ, i64_w, i32_w]
                      rfl
                    refine pure_ (i := 1) (N := some 22) (v := ?_) (a' := ?_) #[true, true, false, false, false, false, false, false, false, false, false, false, false, false] rfl rfl (any_of HT_.out (by kernel_rfl)) (fun _ _ _ h => h) (Or.inl ⟨by rfl, ?_⟩) ?_ ?_
                    rotate_left
                    · intro w'
                      go_simp
                      with_reducible rfl
                    rotate_left
                    · simp only [Act.put, List.setIfInBounds_toArray, List.set_cons_zero, List.set_cons_succ, i64_w, i32_w]
                      rfl
                    refine pure_ (i := 2) (N := some 23) (v := ?_) (a' := ?_) #[true, true, true, false, false, false, false, false, false, false, false, false, false, false] rfl rfl (any_of HT_.out (by kernel_rfl)) (fun _ _ _ h => h) (Or.inl ⟨by rfl, ?_⟩) ?_ ?_
                    rotate_left
                    · intro w'
                      go_simp
                      with_reducible rfl
                    rotate_left
                    · simp only [Act.put, List.setIfInBounds_toArray, List.set_cons_zero, List.set_cons_succ, i64_w, i32_w]
                      rfl
                    refine pure_ (i := 3) (N := some 24) (v := ?_) (a' := ?_) #[true, true, true, true, false, false, false, false, false, false, false, false, false, false] rfl rfl (any_of HT_.out (by kernel_rfl)) (fun _ _ _ h => h) (Or.inl ⟨by rfl, ?_⟩) ?_ ?_
                    rotate_left
                    · intro w'
                      go_simp
                      with_reducible rfl
                    rotate_left
                    · simp only [Act.put, List.setIfInBounds_toArray, List.set_cons_zero, List.set_cons_succ, i64_w, i32_w]
                      rfl
                    refine pure_ (i := 4) (N := some 25) (v := ?_) (a' := ?_) #[true, true, true, true, true, false, false, false, false, false, false, false, false, false] rfl rfl (any_of HT_.out (by kernel_rfl)) (fun _ _ _ h => h) (Or.inl ⟨by rfl, ?_⟩) ?_ ?_
                    rotate_left
                    · intro w'
                      go_simp
                      with_reducible rfl
                    rotate_left
                    · simp only [Act.put, List.setIfInBounds_toArray, List.set_cons_zero, List.set_cons_succ, i64_w, i32_w]
                      rfl
                    refine pure_ (i := 5) (N := some 26) (v := ?_) (a' := ?_) #[true, true, true, true, true, true, false, false, false, false, false, false, false, false] rfl rfl (any_of HT_.out (by kernel_rfl)) (fun _ _ _ h => h) (Or.inl ⟨by rfl, ?_⟩) ?_ ?_
                    rotate_left
                    · intro w'
                      go_simp
                      with_reducible rfl
                    rotate_left
                    · simp only [Act.put, List.setIfInBounds_toArray, List.set_cons_zero, List.set_cons_succ, i64_w, i32_w]
                      rfl
                    refine pure_ (i := 6) (N := some 27) (v := ?_) (a' := ?_) #[true, true, true, true, true, true, true, false, false, false, false, false, false, false] rfl rfl (any_of HT_.out (by kernel_rfl)) (fun _ _ _ h => h) (Or.inl ⟨by rfl, ?_⟩) ?_ ?_
                    rotate_left
                    · intro w'
                      go_simp
                      with_reducible rfl
                    rotate_left
                    · simp only [Act.put, List.setIfInBounds_toArray, List.set_cons_zero, List.set_cons_succ, i64_w, i32_w]
                      rfl
                    refine pure_ (i := 8) (N := some 29) (v := ?_) (a' := ?_) #[true, true, true, true, true, true, true, false, true, false, false, false, false, false] rfl rfl (any_of HT_.out (by kernel_rfl)) (fun _ _ _ h => h) (Or.inl ⟨by rfl, ?_⟩) ?_ ?_
                    rotate_left
                    · intro w'
                      go_simp
                      with_reducible rfl
                    rotate_left
                    · simp only [Act.put, List.setIfInBounds_toArray, List.set_cons_zero, List.set_cons_succ, i64_w, i32_w]
                      rfl
                    refine take_ (i := 7) (N := some 28) (v := ?_) (a' := ?_) #[true, true, true, true, true, true, true, true, true, false, false, false, false, false] rfl rfl (take_ofW HT_.out HW_.out (by kernel_rfl)) (fun _ _ _ h => h) (Or.inl ⟨by rfl, ?_⟩) hHeld ?_ ?_
                    rotate_left
                    · intro w' s0
                      go_simp
                      with_reducible rfl
                    rotate_left
                    · simp only [Act.put, List.setIfInBounds_toArray, List.set_cons_zero, List.set_cons_succ, i64_w, i32_w]
                      rfl
                    refine one_ (i := 9) (N := some 30) #[true, true, true, true, true, true, true, true, true, true, false, false, false, false] rfl rfl (one_of HT_.out (by kernel_rfl)) (by decide) (fun K hK => ?_)
                    refine goes_ Try.func71 (by kernel_rfl) rfl #[.int .i64 x4_1] (by rfl) rfl rfl (by (try simp only [List.map_toArray, List.map_cons, List.map_nil]); first | done | rfl | (simp only [List.length_drop, List.length_take]; rfl)) ?_
                    with_reducible refine (torrentref4_weight.calls k1 x4_1 t110 _ A11.out).mono ?_
                    rintro e w' ⟨rfl, ⟨nd, rfl⟩⟩
                    refine ⟨_, rfl, ?_⟩
                    have p12 : 0 ≤ ((ji8) : Int) := of_decide_eq_true (by first | (with_reducible assumption) | assumption)
                    have q12 : ((ji8) : Int) < ((y105.length : Int) : Int) := of_decide_eq_true (by first | (with_reducible assumption) | assumption)
                    obtain ⟨go12, co12, eo12, gb12, gl12, cl12, HG12⟩ := Kd.R_form HO107.out (by omega)
                    (first | cases eo12 | (injection eo12 with ea_ en_ ec_; (first | subst ea_ | (injection ea_ with ea_; subst ea_)); subst ec_; clear en_))
                    have GB12 := Aside0.mk gb12
                    have GG12 := Aside0.mk HG12
                    clear gb12 gl12 HG12
                    (first | simp only [add_plain] at hx109_0 | skip)
                    obtain ⟨hx12_0, hf12_0⟩ := Kd.R_celln 0 HO107.out ((ji8) : Int) p12 q12
                    replace p12 := eq_true p12
                    replace q12 := eq_true q12
                    have HP16 := Kd.R_putn HO107.out ((ji8) : Int) (((rd y105 (ji8)) + ((t110) % 256)) % 256)
                    rw [← Ny111.out] at HP16
                    have HQ16 := Aside0.mk HP16
                    clear HP16
                    refine hK.out _ _ (hHeld) (fun hHeld => ?_)
                    clear hK K
                    refine norm_ (a' := ?_) ?_ ?_
                    rotate_left
                    · show Act.put _ (some 30) _ = _
                      simp only [Act.put, List.setIfInBounds_toArray, List.set_cons_zero, List.set_cons_succ, i64_w, i32_w]
                      rfl
                    refine pure_ (i := 10) (N := some 31) (v := ?_) (a' := ?_) #[true, true, true, true, true, true, true, true, true, true, true, false, false, false] rfl rfl (any_of HT_.out (by kernel_rfl)) (fun _ _ _ h => h) (Or.inl ⟨by rfl, ?_⟩) ?_ ?_
                    rotate_left
                    · intro w'
                      go_simp
                      with_reducible rfl
                    rotate_left
                    · simp only [Act.put, List.setIfInBounds_toArray, List.set_cons_zero, List.set_cons_succ, i64_w, i32_w]
                      rfl
                    refine pure_ (i := 11) (N := some 32) (v := ?_) (a' := ?_) #[true, true, true, true, true, true, true, true, true, true, true, true, false, false] rfl rfl (any_of HT_.out (by kernel_rfl)) (fun _ _ _ h => h) (Or.inl ⟨by rfl, ?_⟩) ?_ ?_
                    rotate_left
                    · intro w'
                      go_simp
                      with_reducible rfl
                    rotate_left
                    · simp only [Act.put, List.setIfInBounds_toArray, List.set_cons_zero, List.set_cons_succ, i64_w, i32_w]
                      rfl
                    refine pure_ (i := 12) (N := some 33) (v := ?_) (a' := ?_) #[true, true, true, true, true, true, true, true, true, true, true, true, true, false] rfl rfl (any_of HT_.out (by kernel_rfl)) (fun _ _ _ h => h) (Or.inl ⟨by rfl, ?_⟩) ?_ ?_
                    rotate_left
                    · intro w'
                      go_simp
                      with_reducible rfl
                    rotate_left
                    · simp only [Act.put, List.setIfInBounds_toArray, List.set_cons_zero, List.set_cons_succ, i64_w, i32_w]
                      rfl
                    refine last_ (i := 13) (N := none) #[true, true, true, true, true, true, true, true, true, true, true, true, true, true] rfl rfl (one_of HT_.out (by kernel_rfl)) (by decide) (fun K hK => ?_)
                    refine skip_ (w1 := ?_) (by rfl) rfl ?_ ?_
                    rotate_left
                    · go_simp
                      rfl
                    refine hK.out _ _ ?_
                    clear hK K
                    refine done_ (done_of HT_.out (by kernel_rfl)) ?_
                    try go_wp2
                    go_roundg k1
                    case measure => have := HK1.out; omega
                    case rel => exact ⟨(y111), (wrap64 (x4_1 + 1)), (by first | rfl | (simp; done) | (simp [*]; done)), H', ⟨by have := HK1.out; omega⟩, ⟨by (with_reducible repeat (first | apply Kd.R_alloc | apply Kd.R_drewN | apply Kd.R_drew)); exact HQ16.out⟩, ⟨by repeat (first | (with_reducible first | exact HB.out | apply below_alloc | apply pw_below_drewN | apply below_drew1 | refine below_set ?_ GB12.out) | exact HB.out)⟩⟩
                  · rw [if_neg c10] at H
                    exact absurd H (by simp)
                · rw [if_neg c9] at H
                  exact absurd H (by simp)
              · replace c7 := Bool.eq_false_iff.mpr c7
                subst c7
                have H1 : (torrentref4_pack.l0 k1 l0 y105 (wrap64 (x4_1 + 1))) = some r := by rw [if_neg (show ¬ (false = true) by decide)] at H; exact H
                clear H
                have H := H1
                clear H1
                have H' := Aside0.mk H
                clear H
                go_wp2_with (first | ((with_reducible refine gate_builtin (b := .append) (xs := #[.tmp 14, .tmp 15]) rfl ?_); at_builtin; refine Kd.R_append (Kd.int .u8) (w0 := w) w.heap.size rfl (.tmp 14) (.tmp 15) 22 5 (.int .u8 0) 1 rfl Try.underlying22 info5 rfl (by decide) (by omega) u3 x3_1 0 [.int .u8 0] (fun _ => True) (fun _ => False) rfl rfl ?aP (fun _ hk => hk.elim) ?aF ?aO ?aB ?aS ?aL ?_; (case aP => exact rfl); (case aB => exact (by repeat (first | (with_reducible first | exact HB.out | apply below_alloc | apply pw_below_drewN | apply below_drew1) | exact HB.out))); (case aF => exact (fun _ _ => trivial)); (case aO => exact (by (with_reducible repeat (first | apply Kd.R_alloc | apply Kd.R_drewN | apply Kd.R_drew)); exact HO_3.out)); (case aS => exact (below_size (by repeat (first | (with_reducible first | exact HB.out | apply below_alloc | apply pw_below_drewN | apply below_drew1) | exact HB.out)))); (case aL => have := LMc4.out; omega); intro v106 w17 ho hb hg hat; rw [← Ny105.out] at ho; have n0_ := Aside0.mk (hb); have n1_ := Aside0.mk (ho); clear HB; clear HO_3; have HB := n0_; have HO107 := n1_; clear n0_ n1_; clear ho hb hg hat; have p108 : 0 ≤ (x4_1 : Int) := of_decide_eq_true (by first | (with_reducible assumption) | assumption); have q108 : x4_1 < (l0.length : Int) := of_decide_eq_true (by first | (with_reducible assumption) | assumption); obtain ⟨ad108, e108, hx108_0⟩ := Kd.at_bool HR0.out x4_1 p108 q108; (try rw [← Nbq6.out] at hx108_0); cases e108; replace hx108_0 := (HB.out.cell (World.block_lt_of_cell? w _ hx108_0)).trans hx108_0; replace p108 := eq_true p108; replace q108 := eq_true q108))
                go_roundg k1
                case measure => have := HK1.out; omega
                case rel => exact ⟨(y105), (wrap64 (x4_1 + 1)), (by first | rfl | (simp; done) | (simp [*]; done)), H', ⟨by have := HK1.out; omega⟩, ⟨by (with_reducible repeat (first | apply Kd.R_alloc | apply Kd.R_drewN | apply Kd.R_drew)); exact HO107.out⟩, ⟨by repeat (first | (with_reducible first | exact HB.out | apply below_alloc | apply pw_below_drewN | apply below_drew1) | exact HB.out)⟩⟩
            · rw [if_neg c5] at H
              exact absurd H (by simp)
          · rw [if_neg c4] at H
            exact absurd H (by simp)
        · rw [if_neg c3] at H
          have c3b0 : ((Int.tmod x4_1 8) == 0) = false := beq_eq_false_iff_ne.mpr c3
          have c3b1 : ((Int.tmod x4_1 8) != 0) = true := bne_iff_ne.mpr c3
          by_cases c18 : 0 ≤ x4_1
          · rw [if_pos c18] at H
            have c18b0 : decide (0 ≤ x4_1) = true := decide_eq_true c18
            clear c18
            obtain ⟨bq19, hbq19⟩ : ∃ b_ : Bool, b_ = (rdOf false l0 x4_1) := ⟨_, rfl⟩
            replace H : (if bq19 = true then (if 0 ≤ (wrap64 (Int.tdiv x4_1 8)) then (if (wrap64 (Int.tdiv x4_1 8)) < (x3_1.length : Int) then ((torrentref4_weight.f k1 x4_1).bind fun t114 => (torrentref4_pack.l0 k1 l0 (x3_1.set ((wrap64 (Int.tdiv x4_1 8)) : Int).toNat (((rd x3_1 (wrap64 (Int.tdiv x4_1 8))) + ((t114) % 256)) % 256)) (wrap64 (x4_1 + 1)))) else (none)) else (none)) else (torrentref4_pack.l0 k1 l0 x3_1 (wrap64 (x4_1 + 1)))) = some r := by rw [← hbq19] at H; exact H
            have Nbq19 := Aside0.mk hbq19
            clear hbq19
            by_cases c20 : bq19 = true
            · subst c20
              have H1 : (if 0 ≤ (wrap64 (Int.tdiv x4_1 8)) then (if (wrap64 (Int.tdiv x4_1 8)) < (x3_1.length : Int) then ((torrentref4_weight.f k1 x4_1).bind fun t114 => (torrentref4_pack.l0 k1 l0 (x3_1.set ((wrap64 (Int.tdiv x4_1 8)) : Int).toNat (((rd x3_1 (wrap64 (Int.tdiv x4_1 8))) + ((t114) % 256)) % 256)) (wrap64 (x4_1 + 1)))) else (none)) else (none)) = some r := by rw [if_pos rfl] at H; exact H
              clear H
              have H := H1
              clear H1
              obtain ⟨ji21, hji21⟩ : ∃ j_ : Int, (wrap64 (Int.tdiv x4_1 8)) = j_ := ⟨_, rfl⟩
              replace H : (if 0 ≤ (ji21) then (if (ji21) < (x3_1.length : Int) then ((torrentref4_weight.f k1 x4_1).bind fun t114 => (torrentref4_pack.l0 k1 l0 (x3_1.set ((ji21) : Int).toNat (((rd x3_1 (ji21)) + ((t114) % 256)) % 256)) (wrap64 (x4_1 + 1)))) else (none)) else (none)) = some r := by first | (rw [hji21] at H; exact H) | (simp only [hji21] at H ⊢; exact H)
              have hji21w : (IntKind.i64.wrap (Int.tdiv x4_1 8)) = ji21 := (i64_w _).trans hji21
              by_cases c22 : 0 ≤ (ji21)
              · rw [if_pos c22] at H
                have c22b0 : decide (0 ≤ (ji21)) = true := decide_eq_true c22
                clear c22
                by_cases c23 : (ji21) < (x3_1.length : Int)
                · rw [if_pos c23] at H
                  have c23b0 : decide ((ji21) < (x3_1.length : Int)) = true := decide_eq_true c23
                  clear c23
                  replace H := Option.bind_eq_some_iff.mp H
                  obtain ⟨t114, A240, H⟩ := H
                  replace H : (torrentref4_pack.l0 k1 l0 (x3_1.set ((ji21) : Int).toNat (((rd x3_1 (ji21)) + ((t114) % 256)) % 256)) (wrap64 (x4_1 + 1))) = some r := H
                  have A24 := Aside0.mk A240
                  clear A240
                  obtain ⟨y115, hy115⟩ : ∃ y_ : List Int, y_ = (x3_1.set ((ji21) : Int).toNat (((rd x3_1 (ji21)) + ((t114) % 256)) % 256)) := ⟨_, rfl⟩
                  replace H : (torrentref4_pack.l0 k1 l0 y115 (wrap64 (x4_1 + 1))) = some r := by first | (rw [hy115]; with_reducible exact H) | (have H2_ := (Option.bind_some _ _).symm.trans H; rw [hy115]; with_reducible exact H2_) | (have H2_ := (Option.bind_some _ _).symm.trans H; with_reducible exact H2_) | with_reducible exact H | (rw [hy115]; exact H) | exact H
                  have Ny115 := Aside0.mk hy115
                  clear hy115
                  have H' := Aside0.mk H
                  clear H
                  have p112 : 0 ≤ (x4_1 : Int) := of_decide_eq_true (by first | (with_reducible assumption) | assumption)
                  have q112 : x4_1 < (l0.length : Int) := of_decide_eq_true (by first | (with_reducible assumption) | assumption)
                  obtain ⟨ad112, e112, hx112_0⟩ := Kd.at_bool HR0.out x4_1 p112 q112
                  (try rw [← Nbq19.out] at hx112_0)
                  cases e112
                  replace hx112_0 := (HB.out.cell (World.block_lt_of_cell? w _ hx112_0)).trans hx112_0
                  replace p112 := eq_true p112
                  replace q112 := eq_true q112
                  try go_wp2
                  have n0_ := Aside0.mk (Kd.R_drew HO_3.out)
                  have n1_ := Aside0.mk (below_drew1 HB.out)
                  clear HO_3
                  clear HB
                  have HO_3 := n0_
                  have HB := n1_
                  clear n0_ n1_
                  obtain ⟨Ao27, co27, eo27⟩ := Kd.R_slice HO_3.out
                  (first | subst eo27 | (injection eo27 with f1_ f2_ f3_; have f4_ := f1_.symm; have f5_ := f3_.symm; clear f1_ f2_ f3_; subst f4_; subst f5_))
                  have p113 : 0 ≤ ((ji21) : Int) := of_decide_eq_true (by first | (with_reducible assumption) | assumption)
                  have q113 : (ji21) < (x3_1.length : Int) := of_decide_eq_true (by first | (with_reducible assumption) | assumption)
                  obtain ⟨ad113, e113, hx113_0⟩ := Kd.at_int (Kd.R_reads' HO_3.out).2.2 (ji21) p113 q113
                  cases e113
                  replace p113 := eq_true p113
                  replace q113 := eq_true q113
                  refine start_ (n := 14) (S := fun w' => w'.cell? (ad113.add ((ji21)).toNat) = some (.int .u8 (rd x3_1 (ji21)))) (ds := [13]) #[false, false, false, false, false, false, false, false, false, false, false, false, false, false] (by kernel_rfl) rfl rfl (hx113_0) (fun hHeld => ?_); refine with_tabW torrentref4_pack.tab8 torrentref4_pack.bits8 (fun HT_ HW_ => ?_)
                  generalize wr.drew = w26 at HO_3 HB hx113_0 hHeld ⊢
                  refine pure_ (i := 0) (N := some 21) (v := ?_) (a' := ?_) #[true, false, false, false, false, false, false, false, false, false, false, false, false, false] rfl rfl (any_of HT_.out (by kernel_rfl)) (fun _ _ _ h => h) (Or.inl ⟨by rfl, ?_⟩) ?_ ?_
                  rotate_left
                  · intro w'
                    go_simp
                    with_reducible rfl
                  rotate_left
                  · simp only [Act.put, List.setIfInBounds_toArray, List.set_cons_zero, List.set_cons_succ, i64_w, i32_w]
                    rfl
                  refine pure_ (i := 1) (N := some 22) (v := ?_) (a' := ?_) #[true, true, false, false, false, false, false, false, false, false, false, false, false, false] rfl rfl (any_of HT_.out (by kernel_rfl)) (fun _ _ _ h => h) (Or.inl ⟨by rfl, ?_⟩) ?_ ?_
                  rotate_left
                  · intro w'
                    go_simp
                    with_reducible rfl
                  rotate_left
                  · simp only [Act.put, List.setIfInBounds_toArray, List.set_cons_zero, List.set_cons_succ, i64_w, i32_w]
                    rfl
                  refine pure_ (i := 2) (N := some 23) (v := ?_) (a' := ?_) #[true, true, true, false, false, false, false, false, false, false, false, false, false, false] rfl rfl (any_of HT_.out (by kernel_rfl)) (fun _ _ _ h => h) (Or.inl ⟨by rfl, ?_⟩) ?_ ?_
                  rotate_left
                  · intro w'
                    go_simp
                    with_reducible rfl
                  rotate_left
                  · simp only [Act.put, List.setIfInBounds_toArray, List.set_cons_zero, List.set_cons_succ, i64_w, i32_w]
                    rfl
                  refine pure_ (i := 3) (N := some 24) (v := ?_) (a' := ?_) #[true, true, true, true, false, false, false, false, false, false, false, false, false, false] rfl rfl (any_of HT_.out (by kernel_rfl)) (fun _ _ _ h => h) (Or.inl ⟨by rfl, ?_⟩) ?_ ?_
                  rotate_left
                  · intro w'
                    go_simp
                    with_reducible rfl
                  rotate_left
                  · simp only [Act.put, List.setIfInBounds_toArray, List.set_cons_zero, List.set_cons_succ, i64_w, i32_w]
                    rfl
                  refine pure_ (i := 4) (N := some 25) (v := ?_) (a' := ?_) #[true, true, true, true, true, false, false, false, false, false, false, false, false, false] rfl rfl (any_of HT_.out (by kernel_rfl)) (fun _ _ _ h => h) (Or.inl ⟨by rfl, ?_⟩) ?_ ?_
                  rotate_left
                  · intro w'
                    go_simp
                    with_reducible rfl
                  rotate_left
                  · simp only [Act.put, List.setIfInBounds_toArray, List.set_cons_zero, List.set_cons_succ, i64_w, i32_w]
                    rfl
                  refine pure_ (i := 5) (N := some 26) (v := ?_) (a' := ?_) #[true, true, true, true, true, true, false, false, false, false, false, false, false, false] rfl rfl (any_of HT_.out (by kernel_rfl)) (fun _ _ _ h => h) (Or.inl ⟨by rfl, ?_⟩) ?_ ?_
                  rotate_left
                  · intro w'
                    go_simp
                    with_reducible rfl
                  rotate_left
                  · simp only [Act.put, List.setIfInBounds_toArray, List.set_cons_zero, List.set_cons_succ, i64_w, i32_w]
                    rfl
                  refine pure_ (i := 6) (N := some 27) (v := ?_) (a' := ?_) #[true, true, true, true, true, true, true, false, false, false, false, false, false, false] rfl rfl (any_of HT_.out (by kernel_rfl)) (fun _ _ _ h => h) (Or.inl ⟨by rfl, ?_⟩) ?_ ?_
                  rotate_left
                  · intro w'
                    go_simp
                    with_reducible rfl
                  rotate_left
                  · simp only [Act.put, List.setIfInBounds_toArray, List.set_cons_zero, List.set_cons_succ, i64_w, i32_w]
                    rfl
                  refine pure_ (i := 8) (N := some 29) (v := ?_) (a' := ?_) #[true, true, true, true, true, true, true, false, true, false, false, false, false, false] rfl rfl (any_of HT_.out (by kernel_rfl)) (fun _ _ _ h => h) (Or.inl ⟨by rfl, ?_⟩) ?_ ?_
                  rotate_left
                  · intro w'
                    go_simp
                    with_reducible rfl
                  rotate_left
                  · simp only [Act.put, List.setIfInBounds_toArray, List.set_cons_zero, List.set_cons_succ, i64_w, i32_w]
                    rfl
                  refine take_ (i := 7) (N := some 28) (v := ?_) (a' := ?_) #[true, true, true, true, true, true, true, true, true, false, false, false, false, false] rfl rfl (take_ofW HT_.out HW_.out (by kernel_rfl)) (fun _ _ _ h => h) (Or.inl ⟨by rfl, ?_⟩) hHeld ?_ ?_
                  rotate_left
                  · intro w' s0
                    go_simp
                    with_reducible rfl
                  rotate_left
                  · simp only [Act.put, List.setIfInBounds_toArray, List.set_cons_zero, List.set_cons_succ, i64_w, i32_w]
                    rfl
                  refine one_ (i := 9) (N := some 30) #[true, true, true, true, true, true, true, true, true, true, false, false, false, false] rfl rfl (one_of HT_.out (by kernel_rfl)) (by decide) (fun K hK => ?_)
                  refine goes_ Try.func71 (by kernel_rfl) rfl #[.int .i64 x4_1] (by rfl) rfl rfl (by (try simp only [List.map_toArray, List.map_cons, List.map_nil]); first | done | rfl | (simp only [List.length_drop, List.length_take]; rfl)) ?_
                  with_reducible refine (torrentref4_weight.calls k1 x4_1 t114 _ A24.out).mono ?_
                  rintro e w' ⟨rfl, ⟨nd, rfl⟩⟩
                  refine ⟨_, rfl, ?_⟩
                  have p25 : 0 ≤ ((ji21) : Int) := of_decide_eq_true (by first | (with_reducible assumption) | assumption)
                  have q25 : ((ji21) : Int) < ((x3_1.length : Int) : Int) := of_decide_eq_true (by first | (with_reducible assumption) | assumption)
                  obtain ⟨go25, co25, eo25, gb25, gl25, cl25, HG25⟩ := Kd.R_form HO_3.out (by omega)
                  (first | cases eo25 | (injection eo25 with ea_ en_ ec_; (first | subst ea_ | (injection ea_ with ea_; subst ea_)); subst ec_; clear en_))
                  have GB25 := Aside0.mk gb25
                  have GG25 := Aside0.mk HG25
                  clear gb25 gl25 HG25
                  (first | simp only [add_plain] at hx113_0 | skip)
                  obtain ⟨hx25_0, hf25_0⟩ := Kd.R_celln 0 HO_3.out ((ji21) : Int) p25 q25
                  replace p25 := eq_true p25
                  replace q25 := eq_true q25
                  have HP28 := Kd.R_putn HO_3.out ((ji21) : Int) (((rd x3_1 (ji21)) + ((t114) % 256)) % 256)
                  rw [← Ny115.out] at HP28
                  have HQ28 := Aside0.mk HP28
                  clear HP28
                  refine hK.out _ _ (hHeld) (fun hHeld => ?_)
                  clear hK K
                  refine norm_ (a' := ?_) ?_ ?_
                  rotate_left
                  · show Act.put _ (some 30) _ = _
                    simp only [Act.put, List.setIfInBounds_toArray, List.set_cons_zero, List.set_cons_succ, i64_w, i32_w]
                    rfl
                  refine pure_ (i := 10) (N := some 31) (v := ?_) (a' := ?_) #[true, true, true, true, true, true, true, true, true, true, true, false, false, false] rfl rfl (any_of HT_.out (by kernel_rfl)) (fun _ _ _ h => h) (Or.inl ⟨by rfl, ?_⟩) ?_ ?_
                  rotate_left
                  · intro w'
                    go_simp
                    with_reducible rfl
                  rotate_left
                  · simp only [Act.put, List.setIfInBounds_toArray, List.set_cons_zero, List.set_cons_succ, i64_w, i32_w]
                    rfl
                  refine pure_ (i := 11) (N := some 32) (v := ?_) (a' := ?_) #[true, true, true, true, true, true, true, true, true, true, true, true, false, false] rfl rfl (any_of HT_.out (by kernel_rfl)) (fun _ _ _ h => h) (Or.inl ⟨by rfl, ?_⟩) ?_ ?_
                  rotate_left
                  · intro w'
                    go_simp
                    with_reducible rfl
                  rotate_left
                  · simp only [Act.put, List.setIfInBounds_toArray, List.set_cons_zero, List.set_cons_succ, i64_w, i32_w]
                    rfl
                  refine pure_ (i := 12) (N := some 33) (v := ?_) (a' := ?_) #[true, true, true, true, true, true, true, true, true, true, true, true, true, false] rfl rfl (any_of HT_.out (by kernel_rfl)) (fun _ _ _ h => h) (Or.inl ⟨by rfl, ?_⟩) ?_ ?_
                  rotate_left
                  · intro w'
                    go_simp
                    with_reducible rfl
                  rotate_left
                  · simp only [Act.put, List.setIfInBounds_toArray, List.set_cons_zero, List.set_cons_succ, i64_w, i32_w]
                    rfl
                  refine last_ (i := 13) (N := none) #[true, true, true, true, true, true, true, true, true, true, true, true, true, true] rfl rfl (one_of HT_.out (by kernel_rfl)) (by decide) (fun K hK => ?_)
                  refine skip_ (w1 := ?_) (by rfl) rfl ?_ ?_
                  rotate_left
                  · go_simp
                    rfl
                  refine hK.out _ _ ?_
                  clear hK K
                  refine done_ (done_of HT_.out (by kernel_rfl)) ?_
                  try go_wp2
                  go_roundg k1
                  case measure => have := HK1.out; omega
                  case rel => exact ⟨(y115), (wrap64 (x4_1 + 1)), (by first | rfl | (simp; done) | (simp [*]; done)), H', ⟨by have := HK1.out; omega⟩, ⟨by (with_reducible repeat (first | apply Kd.R_alloc | apply Kd.R_drewN | apply Kd.R_drew)); exact HQ28.out⟩, ⟨by repeat (first | (with_reducible first | exact HB.out | apply below_alloc | apply pw_below_drewN | apply below_drew1 | refine below_set ?_ GB25.out) | exact HB.out)⟩⟩
                · rw [if_neg c23] at H
                  exact absurd H (by simp)
              · rw [if_neg c22] at H
                exact absurd H (by simp)
            · replace c20 := Bool.eq_false_iff.mpr c20
              subst c20
              have H1 : (torrentref4_pack.l0 k1 l0 x3_1 (wrap64 (x4_1 + 1))) = some r := by rw [if_neg (show ¬ (false = true) by decide)] at H; exact H
              clear H
              have H := H1
              clear H1
              have H' := Aside0.mk H
              clear H
              have p112 : 0 ≤ (x4_1 : Int) := of_decide_eq_true (by first | (with_reducible assumption) | assumption)
              have q112 : x4_1 < (l0.length : Int) := of_decide_eq_true (by first | (with_reducible assumption) | assumption)
              obtain ⟨ad112, e112, hx112_0⟩ := Kd.at_bool HR0.out x4_1 p112 q112
              (try rw [← Nbq19.out] at hx112_0)
              cases e112
              replace hx112_0 := (HB.out.cell (World.block_lt_of_cell? w _ hx112_0)).trans hx112_0
              replace p112 := eq_true p112
              replace q112 := eq_true q112
              go_wp2
              go_roundg k1
              case measure => have := HK1.out; omega
              case rel => exact ⟨(x3_1), (wrap64 (x4_1 + 1)), (by first | rfl | (simp; done) | (simp [*]; done)), H', ⟨by have := HK1.out; omega⟩, ⟨by (with_reducible repeat (first | apply Kd.R_alloc | apply Kd.R_drewN | apply Kd.R_drew)); exact HO_3.out⟩, ⟨by repeat (first | (with_reducible first | exact HB.out | apply below_alloc | apply pw_below_drewN | apply below_drew1) | exact HB.out)⟩⟩
          · rw [if_neg c18] at H
            exact absurd H (by simp)
      · rw [if_neg c2] at H
        have c2b0 : decide (x4_1 < (l0.length : Int)) = false := decide_eq_false c2
        clear c2
        obtain rfl := Option.some.inj H
        go_wp2
        go_ret
        exact ⟨_, by first | rfl | (simp [errW_none, errW_some] <;> rfl) | (simp [*, errW_none, errW_some] <;> rfl), by (with_reducible repeat (first | apply Kd.R_alloc | apply Kd.R_drewN | apply Kd.R_drew)); exact HO_3.out, by repeat (first | (with_reducible first | exact HB.out | apply below_alloc | apply pw_below_drewN | apply below_drew1) | exact HB.out)⟩

end Go.Proofs.Ytoohpdamndgdlaa.P

/- What the reference's weight and pack and the law's sameBytes, sameInts answer, told in plain words. Condition of pack: at most 65536 bits. -/
set_option linter.unusedVariables false
set_option linter.unusedSimpArgs false
namespace Go.Proofs.Ytoohpdamndgdlaa.B
open Go.RowKit Go.Proofs.Ytoohpdamndgdlaa.P Go.Proofs.YtoohpdamndgdlaaW.PrintWords Go.Proofs.YtoohpdamndgdlaaW.PrintLast Go.Proofs.YtoohpdamndgdlaaW.PrintMore

/-! ### weight -/
theorem weight_l (i : Nat) : ∀ (d j : Nat), j + d = i % 8 → Ev (fun k => torrentref4_weight.l0 k (i : Int) (2 ^ (7 - j) : Nat) (j : Int)) (mk8 (i % 8))
  | 0, j, h => Ev.step (f := fun _ => some (mk8 (i % 8))) (fun k => by
      simp only [torrentref4_weight.l0]
      rw [rem8, if_neg (by omega), ← h]
      rfl) (Ev.now _)
  | d + 1, j, h => Ev.step (f := fun k => torrentref4_weight.l0 k (i : Int) (2 ^ (7 - (j + 1)) : Nat) ((j + 1 : Nat) : Int)) (fun k => by
      simp only [torrentref4_weight.l0]
      have h8 := Nat.mod_lt i (show 8 > 0 by decide)
      have e : wrap64 (Int.tdiv ((2 ^ (7 - j) : Nat) : Int) 2) = ((2 ^ (7 - (j + 1)) : Nat) : Int) := by
        have h7 : j < 7 := by omega
        match j, h7 with
        | 0, _ | 1, _ | 2, _ | 3, _ | 4, _ | 5, _ | 6, _ => decide +kernel
      rw [rem8, if_pos (by omega), e, inc j (by omega)]) (weight_l i d (j + 1) (by omega))
theorem weight_f (i : Nat) : Ev (fun k => torrentref4_weight.f k (i : Int)) (mk8 (i % 8)) := weight_l i (i % 8) 0 (by omega)

/-! ### pack -/
theorem rdOf_nat (l : List Bool) (i : Nat) : rdOf false l (i : Int) = l.getD i false := by unfold rdOf; rw [Int.toNat_natCast]
theorem pack_step (l : List Bool) (xs : List Int) (i : Nat) (hi : i < l.length) (hl : l.length ≤ 65536) (hx : IsB xs) (hlen : xs.length = (i + 7) / 8) (hb : ∀ j, j < 8 * xs.length → gbit xs j = (decide (j < i) && l.getD j false)) (r : List Int)
    (go : ∀ ys : List Int, IsB ys → ys.length = (i + 8) / 8 → (∀ j, j < 8 * ys.length → gbit ys j = (decide (j < i + 1) && l.getD j false)) → Ev (fun k => torrentref4_pack.l0 k l ys ((i + 1 : Nat) : Int)) r) :
    Ev (fun k => torrentref4_pack.l0 k l xs (i : Int)) r := by
  have hq : wrap64 (Int.tdiv (i : Int) 8) = ((i / 8 : Nat) : Int) := quo8 i (by omega)
  have hinc : wrap64 ((i : Int) + 1) = ((i + 1 : Nat) : Int) := inc i (by omega)
  -- what follows once the row is long enough
  have rest : ∀ ys : List Int, IsB ys → ys.length = (i + 8) / 8 → (∀ j, j < 8 * ys.length → gbit ys j = (decide (j < i) && l.getD j false)) →
      Ev (fun k => if l.getD i false = true then (torrentref4_weight.f k (i : Int)).bind fun t => torrentref4_pack.l0 k l (ys.set (i / 8) ((ys.getD (i / 8) 0 + t % 256) % 256)) ((i + 1 : Nat) : Int) else torrentref4_pack.l0 k l ys ((i + 1 : Nat) : Int)) r := by
    intro ys hy hyl hyb
    by_cases hon : l.getD i false = true
    · refine Ev.congr (fun k => if_pos hon) ?_
      refine Ev.bind (weight_f i) ?_
      have h8 := Nat.mod_lt i (show 8 > 0 by decide)
      have h0 : gbit ys i = false := by
        rw [hyb i (by omega)]
        simp
      rw [add_mask _ (hy.getD _) (i % 8) h8 h0]
      refine go (put1 ys i) (put1_isB hy i) (by rw [put1_length]; exact hyl) (fun j hj => ?_)
      rw [put1_length] at hj
      rw [put1_bit hy i j (by omega), hyb j hj]
      by_cases hji : j = i
      · subst hji; rw [hon]; simp
      · by_cases hlt : j < i
        · simp [hji, hlt, show j < i + 1 by omega]
        · simp [hji, hlt, show ¬ j < i + 1 by omega]
    · refine Ev.congr (fun k => if_neg hon) ?_
      refine go ys hy hyl (fun j hj => ?_)
      rw [hyb j hj]
      by_cases hji : j = i
      · subst hji; rw [Bool.eq_false_iff.mpr hon]; simp
      · by_cases hlt : j < i
        · simp [hlt, show j < i + 1 by omega]
        · simp [hlt, show ¬ j < i + 1 by omega]
  by_cases h8 : i % 8 = 0
  · refine Ev.step (f := fun k => if l.getD i false = true then (torrentref4_weight.f k (i : Int)).bind fun t => torrentref4_pack.l0 k l ((xs ++ [0]).set (i / 8) (((xs ++ [0]).getD (i / 8) 0 + t % 256) % 256)) ((i + 1 : Nat) : Int) else torrentref4_pack.l0 k l (xs ++ [0]) ((i + 1 : Nat) : Int)) (fun k => ?_) ?_
    · simp only [torrentref4_pack.l0]
      rw [if_pos (by omega), rem8, if_pos (by omega), if_pos (by omega)]
      simp only [Option.bind_some]
      have g1 : (0 : Int) ≤ ((i / 8 : Nat) : Int) := by omega
      have g2 : ((i / 8 : Nat) : Int) < (((xs ++ [0]).length : Nat) : Int) := by simp; omega
      rw [if_pos (by omega), rdOf_nat, hq, rd_nat, hinc, if_pos g1, if_pos g2, Int.toNat_natCast]
    · refine rest (xs ++ [0]) (hx.append (fun x h => by simp at h; subst h; decide)) (by simp; omega) (fun j hj => ?_)
      rw [gbit_append_zero]
      by_cases hj2 : j < 8 * xs.length
      · exact hb j hj2
      · rw [gbit_beyond _ _ (by omega)]
        simp [show ¬ j < i by omega]
  · refine Ev.step (f := fun k => if l.getD i false = true then (torrentref4_weight.f k (i : Int)).bind fun t => torrentref4_pack.l0 k l (xs.set (i / 8) ((xs.getD (i / 8) 0 + t % 256) % 256)) ((i + 1 : Nat) : Int) else torrentref4_pack.l0 k l xs ((i + 1 : Nat) : Int)) (fun k => ?_) ?_
    · simp only [torrentref4_pack.l0]
      rw [if_pos (by omega), rem8, if_neg (by omega)]
      have g1 : (0 : Int) ≤ ((i / 8 : Nat) : Int) := by omega
      have g2 : ((i / 8 : Nat) : Int) < ((xs.length : Nat) : Int) := by omega
      rw [if_pos (by omega), rdOf_nat, hq, rd_nat, hinc, if_pos g1, if_pos g2, Int.toNat_natCast]
    · exact rest xs hx (by omega) hb
theorem pack_l (l : List Bool) (hl : l.length ≤ 65536) : ∀ (d i : Nat) (xs : List Int), i + d = l.length → IsB xs → xs.length = (i + 7) / 8 → (∀ j, j < 8 * xs.length → gbit xs j = (decide (j < i) && l.getD j false)) →
    ∃ r, Ev (fun k => torrentref4_pack.l0 k l xs (i : Int)) r ∧ Packed (fun j => l.getD j false) l.length r
  | 0, i, xs, hd, hx, hlen, hb => by
    obtain rfl : i = l.length := by omega
    refine ⟨xs, Ev.step (f := fun _ => some xs) (fun k => ?_) (Ev.now _), hlen, hx, hb⟩
    simp only [torrentref4_pack.l0]
    rw [if_neg (by omega)]
  | d + 1, i, xs, hd, hx, hlen, hb => by
    have key : ∃ ys : List Int, IsB ys ∧ ys.length = (i + 8) / 8 ∧ (∀ j, j < 8 * ys.length → gbit ys j = (decide (j < i + 1) && l.getD j false)) := by
      have h8 : (i + 8) / 8 = (i + 7) / 8 ∨ (i + 8) / 8 = (i + 7) / 8 + 1 ∧ i % 8 = 0 := by omega
      have base : ∃ zs : List Int, IsB zs ∧ zs.length = (i + 8) / 8 ∧ (∀ j, j < 8 * zs.length → gbit zs j = (decide (j < i) && l.getD j false)) := by
        rcases h8 with h8 | ⟨h8, h9⟩
        · exact ⟨xs, hx, by omega, hb⟩
        · refine ⟨xs ++ [0], hx.append (fun x h => by simp at h; subst h; decide), by simp; omega, fun j hj => ?_⟩
          rw [gbit_append_zero]
          by_cases hj2 : j < 8 * xs.length
          · exact hb j hj2
          · rw [gbit_beyond _ _ (by omega)]
            simp [show ¬ j < i by omega]
      obtain ⟨zs, hz, hzl, hzb⟩ := base
      by_cases hon : l.getD i false = true
      · refine ⟨put1 zs i, put1_isB hz i, by rw [put1_length]; exact hzl, fun j hj => ?_⟩
        rw [put1_length] at hj
        rw [put1_bit hz i j (by omega), hzb j hj]
        by_cases hji : j = i
        · subst hji; rw [hon]; simp
        · by_cases hlt : j < i
          · simp [hji, hlt, show j < i + 1 by omega]
          · simp [hji, hlt, show ¬ j < i + 1 by omega]
      · refine ⟨zs, hz, hzl, fun j hj => ?_⟩
        rw [hzb j hj]
        by_cases hji : j = i
        · subst hji; rw [Bool.eq_false_iff.mpr hon]; simp
        · by_cases hlt : j < i
          · simp [hlt, show j < i + 1 by omega]
          · simp [hlt, show ¬ j < i + 1 by omega]
    obtain ⟨ys, hy, hyl, hyb⟩ := key
    obtain ⟨r, hr, hp⟩ := pack_l l hl d (i + 1) ys (by omega) hy (by omega) hyb
    refine ⟨r, pack_step l xs i (by omega) hl hx hlen hb r fun zs hz hzl hzb => ?_, hp⟩
    have : zs = ys := gbit_ext (by omega) hz hy fun j hj => by rw [hzb j hj, hyb j (by omega)]
    rw [this]
    exact hr
theorem pack_f (l : List Bool) (hl : l.length ≤ 65536) : ∃ r, Ev (fun k => torrentref4_pack.f k l) r ∧ Packed (fun j => l.getD j false) l.length r :=
  pack_l l hl l.length 0 [] (by omega) IsB.nil rfl (fun j hj => by simp at hj)

/-! ### sameBytes -/
theorem sameBytes_l (l : List Int) (hl : l.length ≤ 9223372036854775807) : ∀ (d i : Nat), i + d = l.length → Ev (fun k => torrentlaw4_sameBytes.l0 k l l (i : Int)) true
  | 0, i, h => Ev.step (f := fun _ => some true) (fun k => by
      simp only [torrentlaw4_sameBytes.l0]
      rw [if_neg (by omega)]) (Ev.now _)
  | d + 1, i, h => Ev.step (f := fun k => torrentlaw4_sameBytes.l0 k l l ((i + 1 : Nat) : Int)) (fun k => by
      simp only [torrentlaw4_sameBytes.l0]
      rw [if_pos (by omega), if_pos (by omega), if_pos (by omega), if_pos trivial, inc i (by omega)]) (sameBytes_l l hl d (i + 1) (by omega))
theorem sameBytes_f (l : List Int) (hl : l.length ≤ 9223372036854775807) : Ev (fun k => torrentlaw4_sameBytes.f k l l) true := by
  unfold torrentlaw4_sameBytes.f
  refine Ev.congr (fun k => if_pos rfl) ?_
  exact sameBytes_l l hl l.length 0 (by omega)
end Go.Proofs.Ytoohpdamndgdlaa.B

-- Made by a program of this session (the print of the kit over a neighbour), for this claim.
namespace Go.Proofs.Ytoohpdamndgdlaa.P
open Go.RowKit Go.Proofs.YtoohpdamndgdlaaW.PrintWords Go.Proofs.YtoohpdamndgdlaaW.PrintLast Go.Proofs.YtoohpdamndgdlaaW.PrintMore
attribute [local go_sem] max2_int min2_int max_two min_two max_three min_three max_four min_four   -- for this text's walks alone
set_option linter.unusedVariables false
set_option linter.unusedSimpArgs false

/-! ### bitset_Make: function 15 -/
def bitset_Make.f (a0 : Int) : Option (List Int × Int) := if a0 < 0 then (some (([] : List Int), 40)) else (if a0 > 65536 then (some (([] : List Int), 40)) else ((bitset_size.f a0).bind fun t101 => (if 0 ≤ t101 then (if (t101 : Int).toNat ≤ 281474976710656 then (some ((List.replicate (t101 : Int).toNat 0), 0)) else (none)) else (none))))
set_option maxHeartbeats 8000000 in
set_option maxRecDepth 100000 in
theorem bitset_Make.calls (a0 : Int) (r1 : List Int) (r2 : Int) (w : World) (h : bitset_Make.f a0 = some (r1, r2)) :
    Calls Try.prog 15 #[.int .i64 a0] w fun e w' => ∃ v0_ : Value, e = .returned (.tuple #[v0_, .int .i64 r2]) ∧ Kd.R (Kd.int .u8) 5 w' w.heap.size (fun _ => True) v0_ r1 ∧ Below w.heap.size w w' := by
  have HB := Aside0.mk (Below.refl w.heap.size w)
  have H : (if a0 < 0 then (some (([] : List Int), 40)) else (if a0 > 65536 then (some (([] : List Int), 40)) else ((bitset_size.f a0).bind fun t101 => (if 0 ≤ t101 then (if (t101 : Int).toNat ≤ 281474976710656 then (some ((List.replicate (t101 : Int).toNat 0), 0)) else (none)) else (none))))) = some (r1, r2) := h
  clear h
  by_cases c2 : a0 < 0
  · rw [if_pos c2] at H
    have c2b0 : decide (a0 < 0) = true := decide_eq_true c2
    clear c2
    simp only [Option.some.injEq, Prod.mk.injEq] at H
    obtain ⟨rfl, rfl⟩ := H
    go_enter Try.func15, Try.ntmps15
    go_wp2
    go_ret2
    exact ⟨_, by first | rfl | (simp [errW_none, errW_some] <;> rfl) | (simp [*, errW_none, errW_some] <;> rfl), by first | exact Kd.R_nil _ _ _ _ _ | exact Kd.N_nil _ _ _ _ _ | exact Kd.V_nil _ _ _ _ _ | exact Kd.Q_nil _ _ _ _ _ | exact Kd.S_nil _ _ _ _ _, by repeat (first | (with_reducible first | exact HB.out | apply below_alloc | apply pw_below_drewN | apply below_drew1) | exact HB.out)⟩
  · rw [if_neg c2] at H
    have c2b0 : decide (a0 < 0) = false := decide_eq_false c2
    clear c2
    by_cases c3 : a0 > 65536
    · rw [if_pos c3] at H
      have c3b0 : decide (65536 < a0) = true := decide_eq_true c3
      clear c3
      simp only [Option.some.injEq, Prod.mk.injEq] at H
      obtain ⟨rfl, rfl⟩ := H
      go_enter Try.func15, Try.ntmps15
      go_wp2
      go_ret2
      exact ⟨_, by first | rfl | (simp [errW_none, errW_some] <;> rfl) | (simp [*, errW_none, errW_some] <;> rfl), by first | exact Kd.R_nil _ _ _ _ _ | exact Kd.N_nil _ _ _ _ _ | exact Kd.V_nil _ _ _ _ _ | exact Kd.Q_nil _ _ _ _ _ | exact Kd.S_nil _ _ _ _ _, by repeat (first | (with_reducible first | exact HB.out | apply below_alloc | apply pw_below_drewN | apply below_drew1) | exact HB.out)⟩
    · rw [if_neg c3] at H
      have c3b0 : decide (65536 < a0) = false := decide_eq_false c3
      clear c3
      replace H := Option.bind_eq_some_iff.mp H
      obtain ⟨t101, A40, H⟩ := H
      replace H : (if 0 ≤ t101 then (if (t101 : Int).toNat ≤ 281474976710656 then (some ((List.replicate (t101 : Int).toNat 0), 0)) else (none)) else (none)) = some (r1, r2) := H
      have A4 := Aside0.mk A40
      clear A40
      by_cases c5 : 0 ≤ t101
      · rw [if_pos c5] at H
        have c5b0 := eq_true c5
        have c5b1 : decide (0 ≤ t101) = true := decide_eq_true c5
        clear c5
        by_cases c6 : (t101 : Int).toNat ≤ 281474976710656
        · rw [if_pos c6] at H
          have c6b0 := eq_true c6
          have c6b1 : decide ((t101 : Int).toNat ≤ 281474976710656) = true := decide_eq_true c6
          clear c6
          obtain ⟨y102, hy102⟩ : ∃ y_ : List Int, y_ = (List.replicate (t101 : Int).toNat 0) := ⟨_, rfl⟩
          replace H : (some (y102, 0)) = some (r1, r2) := by first | (rw [hy102]; with_reducible exact H) | (have H2_ := (Option.bind_some _ _).symm.trans H; rw [hy102]; with_reducible exact H2_) | (have H2_ := (Option.bind_some _ _).symm.trans H; with_reducible exact H2_) | with_reducible exact H | (rw [hy102]; exact H) | exact H
          have Ny102 := Aside0.mk hy102
          clear hy102
          simp only [Option.some.injEq, Prod.mk.injEq] at H
          obtain ⟨rfl, rfl⟩ := H
          go_enter Try.func15, Try.ntmps15
          go_wp2_with (first | ((with_reducible refine gate_callee (f := 56) rfl ?_); refine goesL_ (some 11) rfl rfl Try.func56 (by kernel_rfl) rfl #[.int .i64 a0] rfl (by (try simp only [List.map_toArray, List.map_cons, List.map_nil]); first | done | rfl | (simp only [List.length_drop, List.length_take]; rfl)) ?_; (with_reducible refine (bitset_size.calls a0 t101 _ A4.out).mono ?_); rintro e w' ⟨rfl, ⟨nd, rfl⟩⟩; refine ⟨_, rfl, ?_⟩) | ((with_reducible refine gate_dst (N := 12) rfl ?_); refine Kd.R_make (Kd.int .u8) _ 5 rfl (N := 12) rfl 22 _ _ rfl t101 rfl rfl Try.underlying22 (.int .u8 0) 1 info5 rfl (by decide) (by omega) 0 (ok := fun _ => True) (okp := fun _ => True) rfl (fun _ hk => hk) trivial (of_decide_eq_true (by first | (with_reducible assumption) | assumption)) (Nat.le_trans (Nat.mul_le_mul_right _ (of_decide_eq_true (by first | (with_reducible assumption) | assumption) : t101.toNat ≤ 281474976710656)) (by omega)) (Below.refl _ _) (Nat.le_refl _) ?_; intro v103 w7 ho8 hb hg_ hnew_; clear hg_ hnew_; (first | rw [← Ny102.out] at ho8 | (simp only [Int.reduceToNat] at ho8; rw [← Ny102.out] at ho8)); have n0_ := Aside0.mk (Kd.R_lower ho8 (below_size (by repeat (first | (with_reducible first | exact HB.out | apply below_alloc | apply pw_below_drewN | apply below_drew1) | exact HB.out)))); have n1_ := Aside0.mk (below_step (by repeat (first | (with_reducible first | exact HB.out | apply below_alloc | apply pw_below_drewN | apply below_drew1) | exact HB.out)) hb); clear HB; have HO104 := n0_; have HB := n1_; clear n0_ n1_; clear hb ho8))
          go_ret2
          exact ⟨_, by first | rfl | (simp [errW_none, errW_some] <;> rfl) | (simp [*, errW_none, errW_some] <;> rfl), by (with_reducible repeat (first | apply Kd.R_alloc | apply Kd.R_drewN | apply Kd.R_drew)); exact HO104.out, by repeat (first | (with_reducible first | exact HB.out | apply below_alloc | apply pw_below_drewN | apply below_drew1) | exact HB.out)⟩
        · rw [if_neg c6] at H
          exact absurd H (by simp)
      · rw [if_neg c5] at H
        exact absurd H (by simp)

end Go.Proofs.Ytoohpdamndgdlaa.P

/- What Make answers, and one step of a loop that sets bits, in plain words. -/
set_option linter.unusedVariables false
set_option linter.unusedSimpArgs false
namespace Go.Proofs.Ytoohpdamndgdlaa.B
open Go.RowKit Go.Proofs.Ytoohpdamndgdlaa.P Go.Proofs.YtoohpdamndgdlaaW.PrintWords Go.Proofs.YtoohpdamndgdlaaW.PrintLast Go.Proofs.YtoohpdamndgdlaaW.PrintMore

theorem size_f (n : Nat) (h : n ≤ 65536) : bitset_size.f (n : Int) = some (((n + 7) / 8 : Nat) : Int) := by
  unfold bitset_size.f
  have e : wrap64 ((n : Int) + 7) = ((n + 7 : Nat) : Int) := by rw [w64 _ (by omega) (by omega)]; omega
  rw [e, quo8 _ (by omega)]
theorem make_ok (n : Nat) (h : n ≤ 65536) : bitset_Make.f (n : Int) = some (List.replicate ((n + 7) / 8) 0, 0) := by
  unfold bitset_Make.f
  rw [if_neg (by omega), if_neg (by omega), size_f n h]
  simp only [Option.bind_some]
  rw [if_pos (by omega), if_pos (by omega), Int.toNat_natCast]
theorem make_no (n : Int) (h : n < 0 ∨ 65536 < n) : bitset_Make.f n = some ([], 40) := by
  unfold bitset_Make.f
  by_cases h0 : n < 0
  · rw [if_pos h0]
  · rw [if_neg h0, if_pos (by omega)]
theorem isPacked_zero (n : Nat) : Packed (fun _ => false) n (List.replicate ((n + 7) / 8) 0) :=
  ⟨by simp, IsB.replicate _, fun i _ => by rw [gbit_replicate]; simp⟩
/-- The program's own spelling of 'the bit i set'. -/
theorem set_mask (xs : List Int) (i : Nat) (hi : i ≤ 65536) :
    xs.set (wrap64 (Int.tdiv (i : Int) 8)).toNat (Go.bits .or .u8 (rd xs (wrap64 (Int.tdiv (i : Int) 8))) (shr .u8 128 (Int.tmod (i : Int) 8))) = put1 xs i := by
  rw [quo8 i (by omega), rem8, shr_mask _ (Nat.mod_lt _ (by decide)), rd_nat, Int.toNat_natCast]
  rfl
theorem clear_mask (xs : List Int) (i : Nat) (hi : i ≤ 65536) :
    xs.set (wrap64 (Int.tdiv (i : Int) 8)).toNat (Go.bits .andNot .u8 (rd xs (wrap64 (Int.tdiv (i : Int) 8))) (shr .u8 128 (Int.tmod (i : Int) 8))) = put0 xs i := by
  rw [quo8 i (by omega), rem8, shr_mask _ (Nat.mod_lt _ (by decide)), rd_nat, Int.toNat_natCast]
  rfl
/-- The program's own spelling of 'is the bit i set?'. -/
theorem get_mask (xs : List Int) (hx : IsB xs) (i : Nat) (hi : i ≤ 65536) :
    (Go.bits .and .u8 (rd xs (wrap64 (Int.tdiv (i : Int) 8))) (shr .u8 128 (Int.tmod (i : Int) 8)) = 0) ↔ gbit xs i = false := by
  rw [quo8 i (by omega), rem8, shr_mask _ (Nat.mod_lt _ (by decide)), rd_nat]
  exact and_mask _ (hx.getD _) _ (Nat.mod_lt _ (by decide))
theorem tests_in (xs : List Int) (i : Nat) (hi : i ≤ 65536) (hl : i < 8 * xs.length) :
    0 ≤ wrap64 (Int.tdiv (i : Int) 8) ∧ wrap64 (Int.tdiv (i : Int) 8) < (xs.length : Int) ∧ 0 ≤ Int.tmod (i : Int) 8 := by
  rw [quo8 i (by omega), rem8]
  omega
end Go.Proofs.Ytoohpdamndgdlaa.B

/- What Check's 0 says of its arguments. -/
set_option linter.unusedVariables false
namespace Go.Proofs.Ytoohpdamndgdlaa.B
open Go.RowKit Go.Proofs.Ytoohpdamndgdlaa.P Go.Proofs.YtoohpdamndgdlaaW.PrintWords Go.Proofs.YtoohpdamndgdlaaW.PrintLast Go.Proofs.YtoohpdamndgdlaaW.PrintMore
theorem check_zero {k : Nat} {a : Int} {l : List Int} (h : bitset_Check.f k a l = some 0) : ∃ n : Nat, a = n ∧ n ≤ 65536 ∧ l.length = (n + 7) / 8 := by
  have h40 : ∀ (k : Nat), bitset_Check.j0 k a l true ≠ some 0 := fun k => by
    cases k with
    | zero => simp [bitset_Check.j0]
    | succ k =>
      simp only [bitset_Check.j0]
      rw [if_pos trivial]
      simp
  unfold bitset_Check.f at h
  by_cases h0 : a < 0
  · rw [if_pos h0] at h
    exact absurd h (h40 k)
  · rw [if_neg h0] at h
    by_cases h1 : a > 65536
    · rw [decide_eq_true h1] at h
      exact absurd h (h40 k)
    · rw [decide_eq_false h1] at h
      obtain ⟨n, rfl⟩ : ∃ n : Nat, a = n := ⟨a.toNat, by omega⟩
      refine ⟨n, rfl, by omega, ?_⟩
      cases k with
      | zero => simp [bitset_Check.j0] at h
      | succ k =>
        simp only [bitset_Check.j0] at h
        rw [if_neg (by decide), size_f n (by omega)] at h
        simp only [Option.bind_some] at h
        by_cases h2 : (l.length : Int) = (((n + 7) / 8 : Nat) : Int)
        · omega
        · rw [if_neg h2] at h
          simp at h
end Go.Proofs.Ytoohpdamndgdlaa.B

/- The call of bitset.Walk: what it hands back, where Check is content and where it is not. Condition: at most 8192 bytes. -/
set_option linter.unusedVariables false
namespace Go.Proofs.Ytoohpdamndgdlaa.P
open Go.RowKit Go.Proofs.YtoohpdamndgdlaaW.PrintWords Go.Proofs.YtoohpdamndgdlaaW.PrintLast Go.Proofs.YtoohpdamndgdlaaW.PrintMore Go.Proofs.Ytoohpdamndgdlaa.B

/-- What Walk hands back, where Check is content. -/
def WalkGives (n : Int) (l1 : List Int) (w : World) (e : Ending) (w' : World) : Prop :=
  ∃ Bn Bo v, e = .returned (.func (.func 62) #[] #[.pointer (some ⟨Bn, 0, none⟩), .pointer (some ⟨Bo, 0, none⟩)]) ∧ (w.heap.size ≤ Bn ∧ Bn < w'.heap.size) ∧ (w.heap.size ≤ Bo ∧ Bo < w'.heap.size) ∧ w'.cell? ⟨Bn, 0, none⟩ = some (.int .i64 n) ∧ w'.cell? ⟨Bo, 0, none⟩ = some v ∧ Kd.R (Kd.int .u8) 5 w' w.heap.size (fun _ => True) v l1 ∧ Below w.heap.size w w'

set_option maxRecDepth 100000 in
set_option maxHeartbeats 4000000 in
theorem walk_ok (k : Nat) (a0 : Int) (A1 : Option Addr) (c1 : Nat) (l1 : List Int) (w : World) (hr1 : Kd.C (Kd.int .u8) w A1 l1.length l1) (hc1 : l1.length ≤ c1) (h : bitset_Check.f k a0 l1 = some 0) (hl : l1.length ≤ 8192) :
    Calls Try.prog 25 #[.int .i64 a0, .slice A1 l1.length c1] w (WalkGives a0 l1 w) := by
  have HR1 := Aside0.mk hr1
  have HC1 := Aside0.mk hc1
  have HK := Aside0.mk h
  have HL := Aside0.mk hl
  clear hr1 hc1 h hl
  have HB := Aside0.mk ((Below.refl w.heap.size w).alloc (Nat.le_refl _) (.cells #[.int .i64 a0] 3))
  go_enter Try.func25, Try.ntmps25
  go_wp2_with (first | ((with_reducible refine gate_callee (f := 48) rfl ?_); refine goesL_ (some 8) rfl rfl Try.func48 (by kernel_rfl) rfl #[.int .i64 a0, .slice A1 l1.length c1] rfl (by (try simp only [List.map_toArray, List.map_cons, List.map_nil]); first | done | rfl) ?_; (with_reducible refine (bitset_Check.calls k a0 _ _ l1 0 _ ?side1 ?side2 HK.out).mono ?_); (case side1 => repeat (first | exact HR1.out | (with_reducible refine Kd.C_alloc ?_ _) | (with_reducible refine Kd.C_drewN ?_ _) | (with_reducible refine Kd.C_drew ?_))); (case side2 => exact HC1.out); rintro e w' ⟨rfl, ⟨nd, rfl⟩⟩; refine ⟨_, rfl, ?_⟩) | ((with_reducible refine gate_builtin (b := .append) (xs := #[.const (.slice none 0 0), .tmp 10]) rfl ?_); at_builtin; go_must (refine Kd.R_append_rows (Kd.int .u8) (w0 := w) w.heap.size rfl (.const (.slice none 0 0)) (.tmp 10) 22 5 (.int .u8 0) 1 rfl Try.underlying22 info5 rfl (by decide) (by omega) (.slice none 0 0) ([] : List Int) l1 _ _ _ (fun _ => True) (fun _ => False) rfl rfl ?aO ?aR (fun _ _ h => h) (fun _ h => h.elim) ?aF ?aB ?aS ?aL ?_; (case aR => exact (Kd.C_drewN (Kd.C_alloc HR1.out _) _)); (case aB => exact (by repeat (first | (with_reducible first | exact HB.out | apply below_alloc | apply pw_below_drewN | apply below_drew1) | exact HB.out))); (case aF => exact (fun _ _ => trivial)); (case aO => exact ((Kd.R_nil _ _ _ _ (fun _ => True)))); (case aS => exact (below_size (by repeat (first | (with_reducible first | exact HB.out | apply below_alloc | apply pw_below_drewN | apply below_drew1) | exact HB.out)))); (case aL => have := HL.out; show (0 + l1.length) * 1 ≤ _; omega); intro v1 w1 ho hb hg hat; obtain ⟨Av, cv, ev⟩ := Kd.R_slice ho; subst ev; have HO := Aside0.mk ho; have HB2 := Aside0.mk hb; have HG := Aside0.mk hg; clear HB; clear ho hb hg hat)))
  refine bodyPost_ret (v := .func (.func 62) #[] #[.pointer (some ⟨w.heap.size, 0, none⟩), .pointer (some ⟨w1.heap.size, 0, none⟩)]) (by simp [results, Try.results25, go_sem]) rfl ?_
  have hbs := HB2.out.size
  have hlt : w.heap.size < w1.heap.size := by
    have := HG.out.size
    simp at this
    omega
  have hb0 : Boxed ((w.alloc (.cells #[.int .i64 a0] 3)).drewN nd) w.heap.size 3 (.int .i64 a0) := Boxed.new w 3 (.int .i64 a0)
  have hbn : Boxed w1 w.heap.size 3 (.int .i64 a0) := hb0.kept HG.out (by simp [Value.ownBlock])
  refine ⟨_, _, _, rfl, ⟨Nat.le_refl _, by simp; omega⟩, ⟨hbs, by simp⟩, (hbn.alloc _).cell, (Boxed.new w1 22 _).cell, Kd.R_alloc HO.out _, HB2.out.alloc hbs _⟩

set_option maxRecDepth 100000 in
set_option maxHeartbeats 4000000 in
theorem walk_no (k : Nat) (a0 : Int) (A1 : Option Addr) (c1 : Nat) (l1 : List Int) (w : World) (r : Int) (hr1 : Kd.C (Kd.int .u8) w A1 l1.length l1) (hc1 : l1.length ≤ c1) (h : bitset_Check.f k a0 l1 = some r) (hr : (r == 0) = false) :
    Calls Try.prog 25 #[.int .i64 a0, .slice A1 l1.length c1] w fun e w' => e = .returned (.func (.func 61) #[] #[]) ∧ Below w.heap.size w w' := by
  have HR1 := Aside0.mk hr1
  have HC1 := Aside0.mk hc1
  have HK := Aside0.mk h
  have hr2 : (r != 0) = true := by simpa using hr
  clear hr1 hc1 h
  have HB := Aside0.mk ((Below.refl w.heap.size w).alloc (Nat.le_refl _) (.cells #[.int .i64 a0] 3))
  go_enter Try.func25, Try.ntmps25
  go_wp2_with ((with_reducible refine gate_callee (f := 48) rfl ?_); refine goesL_ (some 8) rfl rfl Try.func48 (by kernel_rfl) rfl #[.int .i64 a0, .slice A1 l1.length c1] rfl (by (try simp only [List.map_toArray, List.map_cons, List.map_nil]); first | done | rfl) ?_; (with_reducible refine (bitset_Check.calls k a0 _ _ l1 r _ ?side1 ?side2 HK.out).mono ?_); (case side1 => repeat (first | exact HR1.out | (with_reducible refine Kd.C_alloc ?_ _) | (with_reducible refine Kd.C_drewN ?_ _) | (with_reducible refine Kd.C_drew ?_))); (case side2 => exact HC1.out); rintro e w' ⟨rfl, ⟨nd, rfl⟩⟩; refine ⟨_, rfl, ?_⟩)
  go_ret
  exact ⟨rfl, pw_below_drewN HB.out _⟩

/-- Walk's function where there is nothing. -/
theorem walk1_in (m : Nat) (l : Nat) (W : World) : CallsIn Fence.wide m Try.prog 61 #[.func (.yield l) #[] #[]] W fun e W' => (∃ v, e = .returned v) ∧ W = W' := by
  refine callsIn_wide.2 ?_
  go_enter Try.func61, Try.ntmps61
  go_wp2
  go_end0
  exact ⟨⟨_, rfl⟩, rfl⟩

/-- What a loop over a walk asks. -/
def Seq (gf : Nat) (lb : Array Value) (lo hi : Nat) (L : List Int) (w : World) : Prop :=
  ∀ m, 1 ≤ m → SeqStopsK Fence.wide m Try.prog gf lb (fun x : Int => #[Value.int .i64 x]) (Keeps lo hi) (fun ys => ys = L) (fun pre => pre <+: L) L.length w
theorem seq_no (lo hi : Nat) (w : World) : Seq 61 #[] lo hi [] w := fun m _ l J Jx W _ _ _ _ h0 =>
  (walk1_in m l W).mono fun e W' h => ⟨h.1, .inl ⟨[], rfl, h.2 ▸ h0⟩⟩
theorem seq_ok {n : Nat} {l1 : List Int} {w w' : World} {Bn Bo : Nat} {v : Value} (hn : n ≤ 65536) (hlen : n ≤ 8 * l1.length) (h1 : w.heap.size ≤ Bn ∧ Bn < w'.heap.size) (h2 : w.heap.size ≤ Bo ∧ Bo < w'.heap.size) (h3 : w'.cell? ⟨Bn, 0, none⟩ = some (.int .i64 n)) (h4 : w'.cell? ⟨Bo, 0, none⟩ = some v) (hR : Kd.R (Kd.int .u8) 5 w' w.heap.size (fun _ => True) v l1) :
    Seq 62 #[.pointer (some ⟨Bn, 0, none⟩), .pointer (some ⟨Bo, 0, none⟩)] w.heap.size w'.heap.size (onesTo l1 n) w' := fun m hm l J Jx W hW hJ hJx hY h0 => by
  have cell : ∀ b o, b < w'.heap.size → W.cell? ⟨b, o, none⟩ = w'.cell? ⟨b, o, none⟩ := fun b o hb => hW.cell (p := ⟨b, o, none⟩) hb
  have hJ' : ∀ s A B, J s A → A.grownBy B none → J s B := fun s A B hs hg => hJ s A B none hs hg (fun r e => by cases e)
  rcases Nat.eq_zero_or_pos l1.length with hz | hz
  · exact walk2_in m hm l Bn Bo w.heap.size w'.heap.size 0 0 n l1 hn hlen J Jx hJ' hY W hW.size h2 (fun h => by omega) (by rw [cell _ _ h1.2]; exact h3) (fun h => by omega) (fun h => by omega) h0
  · obtain ⟨g, cap, rfl, hg1, hg2, _⟩ := Kd.R_form hR hz
    refine walk2_in m hm l Bn Bo w.heap.size w'.heap.size g cap n l1 hn hlen J Jx hJ' hY W hW.size h2 (fun _ => ⟨hg1, hg2⟩) (by rw [cell _ _ h1.2]; exact h3) (fun _ => by rw [cell _ _ h2.2]; exact h4) (fun _ j hj => ?_) h0
    have := (Kd.R_celln 0 hR (j : Int) (by omega) (by omega)).1
    rw [Int.toNat_natCast] at this
    rw [cell _ _ hg2, this]
    rfl

/-- The program's own spelling of a bit's test. -/
theorem hit_is (xs : List Int) (i : Nat) (hi : i ≤ 65536) : (Go.bits .and .u8 (rd xs (wrap64 (Int.tdiv (i : Int) 8))) (shr .u8 128 (Int.tmod (i : Int) 8)) = 0) ↔ hit xs i = false := by
  rw [quo8 i (by omega), rem8, shr_mask _ (Nat.mod_lt _ (by decide)), rd_nat]
  unfold hit
  rw [bne_eq_false_iff_eq]
/-- What Walk hands back, either way: a function that yields L. -/
def WalkSays (L : List Int) (w : World) (e : Ending) (w' : World) : Prop :=
  ∃ gf lb, e = .returned (.func (.func gf) #[] lb) ∧ (∀ args W, (callFunc gf args).run Try.prog W = .ok (.enter gf args) W) ∧ Below w.heap.size w w' ∧ Seq gf lb w.heap.size w'.heap.size L w'
/-- What comes of a walk: the places of the set bits, or nothing. -/
def walked (r : Int) (a0 : Int) (l1 : List Int) : List Int := if r = 0 then onesTo l1 a0.toNat else []
theorem walk_says (k : Nat) (a0 : Int) (A1 : Option Addr) (c1 : Nat) (l1 : List Int) (w : World) (r : Int) (hr1 : Kd.C (Kd.int .u8) w A1 l1.length l1) (hc1 : l1.length ≤ c1) (h : bitset_Check.f k a0 l1 = some r) :
    Calls Try.prog 25 #[.int .i64 a0, .slice A1 l1.length c1] w (WalkSays (walked r a0 l1) w) := by
  by_cases hr : r = 0
  · subst hr
    obtain ⟨n, rfl, hn, hl⟩ := check_zero h
    refine (walk_ok k n A1 c1 l1 w hr1 hc1 h (by omega)).mono ?_
    rintro e w' ⟨Bn, Bo, v, rfl, h1, h2, h3, h4, hR, hB⟩
    refine ⟨62, _, rfl, enters_of Try.func62 (by kernel_rfl) rfl, hB, ?_⟩
    unfold walked
    rw [if_pos rfl, Int.toNat_natCast]
    exact seq_ok hn (by omega) h1 h2 h3 h4 hR
  · refine (walk_no k a0 A1 c1 l1 w r hr1 hc1 h (beq_eq_false_iff_ne.mpr hr)).mono ?_
    rintro e w' ⟨rfl, hB⟩
    refine ⟨61, #[], rfl, enters_of Try.func61 (by kernel_rfl) rfl, hB, ?_⟩
    unfold walked
    rw [if_neg hr]
    exact seq_no _ _ _
end Go.Proofs.Ytoohpdamndgdlaa.P

/- bitset.Ones, a loop over Walk that collects: the places the walk yields, and Check's answer. Condition: at most 65536 places. -/
set_option linter.unusedVariables false
namespace Go.Proofs.Ytoohpdamndgdlaa.P
open Go.RowKit Go.Proofs.YtoohpdamndgdlaaW.PrintWords Go.Proofs.YtoohpdamndgdlaaW.PrintLast Go.Proofs.YtoohpdamndgdlaaW.PrintMore Go.Proofs.Ytoohpdamndgdlaa.B
attribute [local go_sem] Oper.semAt_some

/-- 'list = append(list, ..)' in a loop over a walk: what the round owes, the list's box ahead of the walk's blocks, its row behind them. -/
theorem appended2 {w W w1 : World} {lo hi B : Nat} {t e : TypeId} {size : Nat} {v v' : Value} {k m : Nat} {xs ys : List Value} {tmp : Obj}
    (hv : Boxed W B t v) (hte : t ≠ e) (hrow : W.ownsRow hi e size v k xs) (hb1 : w.heap.size ≤ B) (hb2 : B < lo) (hb3 : w.heap.size ≤ hi) (hhi : hi ≤ W.heap.size) (hw : w.heap.size ≤ W.heap.size)
    (hown' : w1.ownsRow hi e size v' m ys) (hgrow : (W.alloc tmp).grownBy w1 v.ownBlock) :
    Boxed w1 B t v ∧ Boxed (w1.setCell ⟨B, 0, none⟩ v') B t v' ∧ (w1.setCell ⟨B, 0, none⟩ v').ownsRow hi e size v' m ys ∧ KeepsOthers W (w1.setCell ⟨B, 0, none⟩ v') ∧ Below w.heap.size W (w1.setCell ⟨B, 0, none⟩ v') ∧ Keeps lo hi W (w1.setCell ⟨B, 0, none⟩ v') := by
  have hv1 : Boxed w1 B t v := (hv.alloc tmp).kept hgrow (hv.not_row hte hrow)
  have hrb : ∀ j, v.ownBlock = some j → hi ≤ j := fun j ej => own_base hrow j ej
  refine ⟨hv1, hv1.set v', hown'.kept (grownBy_setCell' w1 B v') (.inr (hv1.not_row hte hown').symm), ?_, ?_, ?_⟩
  · refine ((KeepsOthers.alloc W tmp).trans (KeepsOthers.of_grownBy hgrow fun j o ej hj => ?_)).trans (KeepsOthers.setCell _ _ _)
    rcases (hrow.alloc tmp).2 with ⟨rfl, _⟩ | ⟨g, cap, cur, rfl, _, hgb, _⟩
    · simp [Value.ownBlock] at ej
    · obtain rfl : g = j := by simpa [Value.ownBlock] using ej
      rw [hgb] at hj; cases hj; rfl
  · exact (((Below.refl w.heap.size W).alloc hw tmp).grown hgrow (by simp; omega) fun j ej => Nat.le_trans hb3 (hrb j ej)).setCell (p := ⟨B, 0, none⟩) hb1 v'
  · intro b h1 h2
    rw [Below.heap_setCell _ _ _ _ (by simp; omega), hgrow.block b (by simp; omega) (fun e => by have := hrb b e.symm; omega)]
    exact (Below.heap_alloc W tmp b (by omega))
theorem int_row {W : World} {base hi : Nat} {e : TypeId} {v : Value} {xs : List Int} (h : W.ownsRow hi e 1 v xs.length (xs.map (Value.int .i64))) (hb : base ≤ hi) : Kd.R (Kd.int .i64) e W base (fun _ => True) v xs := by
  refine ⟨fun _ _ => trivial, xs.map (Value.int .i64), own_weaken h hb, (by rw [List.length_map]; exact (Nat.mul_one _).symm), fun j p hp => ?_⟩
  show ((xs.map (Value.int .i64)).drop (j * 1)).take 1 = [Value.int .i64 p]
  have hj := (List.getElem?_eq_some_iff.1 hp).1
  rw [Nat.mul_one, List.drop_eq_getElem_cons (by simpa using hj)]
  simp only [List.take_succ_cons, List.take_zero, List.getElem_map]
  rw [(List.getElem?_eq_some_iff.1 hp).2]

theorem info3' : (Try.prog.info? 3).map (fun i => (i.zero, i.size, i.bytes)) = some (some (.int .i64 0), 1, 8) := by kernel_rfl

def OnesSay (L : List Int) (r : Int) (w : World) (e : Ending) (w' : World) : Prop :=
  ∃ v, e = .returned (.tuple #[v, .int .i64 r]) ∧ Kd.R (Kd.int .i64) 3 w' w.heap.size (fun _ => True) v L ∧ Below w.heap.size w w'

set_option maxRecDepth 100000 in
set_option maxHeartbeats 4000000 in
theorem ones_in (k : Nat) (a0 : Int) (A1 : Option Addr) (c1 : Nat) (l1 : List Int) (w : World) (r : Int) (hr1 : Kd.C (Kd.int .u8) w A1 l1.length l1) (hc1 : l1.length ≤ c1) (h : bitset_Check.f k a0 l1 = some r) (hL : (walked r a0 l1).length ≤ 65536) :
    CallsIn Fence.wide 3 Try.prog 37 #[.int .i64 a0, .slice A1 l1.length c1] w (OnesSay (walked r a0 l1) r w) := by
  have HR1 := Aside0.mk hr1
  have HC1 := Aside0.mk hc1
  have HK := Aside0.mk h
  have HL := Aside0.mk hL
  clear hr1 hc1 h hL
  obtain ⟨i0, hi, hz0, hz1, hz2⟩ := info_parts info3'
  have HI := Aside0.mk hi
  have HZ0 := Aside0.mk hz0
  have HZ1 := Aside0.mk hz1
  have HZ2 := Aside0.mk hz2
  clear hi hz0 hz1 hz2
  refine callsIn_of_wp_marks Try.func37 rfl trivial ?_ rfl
  simp only [Try.ntmps37, List.size_toArray, List.length_cons, List.length_nil, Nat.reduceAdd, Nat.reduceSub, Array.replicate_succ, Array.replicate_zero, List.push_toArray, List.append_toArray, List.nil_append, List.cons_append]
  gi_wp2_with (refine ⟨trivial, ?_⟩; gi_at_call 25; refine (callsIn_wide.2 (walk_says k a0 A1 c1 l1 _ r (Kd.C_alloc HR1.out _) HC1.out HK.out)).mono ?_; rintro e w1 ⟨gf, lb, rfl, heg, hB1, hseq⟩; have HEG := Aside0.mk heg; have HB1 := Aside0.mk hB1; have HSQ := Aside0.mk hseq; clear heg hB1 hseq)
  have hlo : (w.alloc (.cells #[.slice none 0 0] 28)).heap.size = w.heap.size + 1 := by simp
  rw [hlo] at HSQ
  have hB0 := below_step ((Below.refl w.heap.size w).alloc (Nat.le_refl _) _) HB1.out
  have hv0 : Boxed w1 w.heap.size 28 (.slice none 0 0) := (HB1.out.block w.heap.size (by simp)).trans (Boxed.new w 28 _)
  have hlt1 : w.heap.size < w1.heap.size := hv0.lt
  refine wpIn_rangeFunc_ownG rfl (by decide) (gf := gf) (lb := lb) rfl trivial HEG.out (HSQ.out (3 - 1) (by decide)) (fun h k => h.trans k) (fun W l o o' hl _ _ _ => Keeps.putObj _ _ W l o' hl) (Below.refl _ _) (fun _ => rfl)
    (fun pre W => (∃ v, Boxed W w.heap.size 28 v ∧ W.ownsRow w1.heap.size 3 1 v pre.length (pre.map (Value.int .i64)) ∧ True) ∧ (Below w.heap.size w W ∧ w1.heap.size ≤ W.heap.size))
    (fun _ _ _ => False)
    (OwnFrom.and (Own.from (holdsRow_own w1.heap.size w.heap.size 28 3 1 (fun pre : List Int => pre.length) (fun pre => pre.map (Value.int .i64)) (fun _ _ => True)) _) (OwnFrom.and (ownFrom_below (Nat.le_refl _) (by omega)) (fun s A B row hs hg hr => Nat.le_trans hs hg.size)))
    (fun _ _ _ _ _ hs _ _ => hs)
    ⟨⟨_, hv0, World.ownsRow_nil _ _ _ _, trivial⟩, hB0, Nat.le_refl _⟩
    (fun x => { tmps := #[.int .i64 a0, .slice A1 l1.length c1, undef, undef, .slice none 0 0, .int .i64 0, .pointer (some ⟨w.heap.size, 0, none⟩), .int .i64 x, .int .i64 a0, .slice A1 l1.length c1, .func (.func gf) #[] lb, .int .i64 x, undef, undef, undef, undef, undef, undef, undef, undef], defers := [] }) ?assign ?body ?done ?stop
  case assign =>
    intro l x W K hK
    gi_wp2
    first | exact hK | simpa using hK
  case body =>
    rintro l pre x W ⟨⟨v, hv, hrow, _⟩, hB, hsz⟩ hlt
    have hc := hv.cell
    have HP := Aside0.mk (show pre.length < 65536 by have := HL.out; omega)
    have HV := Aside0.mk hv
    have HROW := Aside0.mk hrow
    have HBB := Aside0.mk hB
    have HSZ := Aside0.mk hsz
    have HLT := Aside0.mk hlt1
    clear hv hrow hB hsz hlt
    gi_wp2_with (gi_at_builtin; refine wpListIn_append_own _ rfl _ _ 28 rfl w1.heap.size 3 i0 (.int .i64 0) 1 8 Try.underlying28 HI.out HZ0.out HZ1.out HZ2.out rfl (by decide) _ _ _ rfl (HROW.out.alloc _) ⟨W.heap.size, 0, none⟩ 1 1 [.int .i64 x] rfl rfl (cell_one_new _ _ _) (by simp [Value.oneCell']) (by have := HP.out; simp only [maxLen]; omega) (by have := HP.out; omega) (by have := HSZ.out; simp; omega) ?_; intro v' w2 hown' hgrow _; obtain ⟨g', cap', rfl⟩ := ownsRow_succ hown'; obtain ⟨hv1, hv2, hr2, hk2, hb2, hk3⟩ := appended2 (lo := w.heap.size + 1) HV.out (by decide) HROW.out (Nat.le_refl _) (by omega) (by have := HLT.out; omega) HSZ.out (by have := HSZ.out; have := HLT.out; omega) hown' hgrow; have hc1 := hv1.cell; have hf1 := hv1.frozen; have HH := Aside0.mk (And.intro hv2 (And.intro hr2 (And.intro hk2 (And.intro hb2 hk3)))); clear hv2 hr2 hk2 hb2 hk3 hown' hgrow)
    obtain ⟨hv2, hr2, hk2, hb2, hk3⟩ := HH.out
    exact ⟨hk2.from _, hk3, ⟨_, hv2, by simpa using hr2, trivial⟩, HBB.out.trans hb2, Nat.le_trans HSZ.out (hk2.size)⟩
  case done =>
    rintro D ys W hD rfl ⟨⟨v, hv, hrow, _⟩, hB, hsz⟩ hK
    have hc := hv.cell
    have hmo : Try.prog.follows .mixedOrders = true := by kernel_rfl
    have HBW := Aside0.mk hB
    have HKD := Aside0.mk hK
    have HROW := Aside0.mk hrow
    clear hK hB hrow
    gi_wp2
    first | (gi_region_with_o (refine ⟨trivial, ?_⟩; gi_at_call 48; refine (callsIn_wide.2 (bitset_Check.calls k a0 _ _ l1 r _ (Kd.C_drew (Kd.C_below HR1.out HBW.out)) HC1.out HK.out)).mono ?_; rintro e w2 ⟨rfl, ⟨nd, rfl⟩⟩)) | (fail "no")
    all_goals
      have hb9 : Below w.heap.size w (W.drewN (1 + nd)) := pw_below_drewN HBW.out _
      have hk9 : (W.drewN (1 + nd)).heap[D]? = some (.deferred (some [])) := HKD.out
      have hr9 : (W.drewN (1 + nd)).ownsRow w1.heap.size 3 1 v (walked r a0 l1).length ((walked r a0 l1).map (Value.int .i64)) := HROW.out
      gi_wp2
      refine ⟨by simp, .inl ⟨_, _, rfl, run_takeDeferred hk9, ?_⟩⟩
      exact ⟨_, results_tmp2 (show Try.f37.results = #[.tmp 4, .tmp 5] from rfl) _ _ _, v, rfl, int_row (ownsRow_putObj hr9 _ hk9 rfl) (by omega), hb9.trans (belowK_b (w := w) (Nat.le_refl _) _ D _ _ (by omega) hk9 rfl rfl)⟩
  case stop =>
    rintro D c pre W _ _ h _
    exact h.elim
end Go.Proofs.Ytoohpdamndgdlaa.P

/- A region that draws its order and only reads, in a round of a range over a function (the fence has a round; no operation is a defer statement): one walk of the text's order serves every order. Over the kit's Derived.Sort.QuietThIn, whose own law asks that the fence has no round. -/
namespace Go.Proofs.Ytoohpdamndgdlaa.P
section
variable {F : Fence} {n : Nat} {P : Program} {ops : Array Oper} {md : Region.Mode} {C : World → Prop}
theorem wpIn_of_quiet_round {o : Oper} {a : Act} {K : Act → Prop} {K' : Act → World → Prop} {Q' : Exit → Act → World → Prop} {w : World} (hnd : ∀ c, o.op ≠ .defer c) (hw : C w) (h : ∀ a w', C w' → K a → K' a w')
    (ha : o.askedIn F P a C) (hh : o.quietIn F n P a C K) : o.wpIn F n P a w K' Q' := by
  obtain ⟨v, h1, h2⟩ := hh
  have h3 := h1 w hw
  unfold Oper.quietAtIn at h3
  unfold Oper.wpIn
  refine ⟨ha w hw, ?_⟩
  rw [Oper.semAt_eq _ _ _ hnd]
  generalize (execOp a.eval o).run P w = r at *
  cases r with
  | halt x w' => exact absurd h3 (by simp [Oper.quietUponIn])
  | ok x w' =>
    cases x with
    | value u =>
      obtain ⟨rfl, rfl⟩ := h3
      exact h _ _ hw h2
    | skip =>
      obtain ⟨rfl, rfl⟩ := h3
      exact h _ _ hw h2
    | enter f args =>
      obtain ⟨rfl, hd, hc⟩ := h3
      refine ⟨hd, hc.mono fun e w'' he => ?_⟩
      obtain ⟨rfl, hw''⟩ := he
      exact h _ _ hw'' h2
    | _ => exact absurd h3 (by simp [Oper.quietUponIn])
theorem wpAnyIn_of_quiet_round {Q : Act → Prop} {Q' : Exit → Act → World → Prop} (hnd : ∀ (j : Nat) (o : Oper) c, ops[j]? = some o → o.op ≠ .defer c) (hQ : ∀ a w, C w → Q a → Q' .normal a w) : ∀ (fuel : Nat) (listed : Array Bool) (a : Act) (w : World), C w →
    wpAnyQIn F n P md ops C Q fuel listed a → wpAnyIn F n P md ops Q' fuel listed a w
  | 0, _, _, _, hw, h => ⟨h.1, hQ _ _ hw h.2⟩
  | fuel + 1, listed, a, w, hw, h => ⟨fun h0 => hQ _ _ hw (h.1 h0), fun i hi => by
      have h1 := h.2 i hi
      unfold qOpIn at h1
      unfold wpOpIn
      split
      · rename_i ho
        simp only [ho] at h1
        exact wpAnyIn_of_quiet_round hnd hQ fuel _ _ _ hw h1
      · rename_i o ho
        simp only [ho] at h1
        obtain ⟨ha, h2⟩ := h1
        split
        · rename_i hwd
          simp only [hwd, if_true] at h2
          exact wpIn_of_quiet_round (fun c => hnd i o c ho) hw (fun a' w' hw' => wpAnyIn_of_quiet_round hnd hQ fuel _ a' w' hw') ha h2
        · rename_i hwd
          simp only [hwd] at h2
          exact ⟨ha w hw, wpAnyIn_of_quiet_round hnd hQ fuel _ _ _ hw h2⟩⟩
theorem wpIn_region_quiet_round {id : Nat} {Q : Exit → Act → World → Prop} {a : Act} {w : World} {l : List Oper} (hnd : ∀ o ∈ l, ∀ c, o.op ≠ .defer c) (hm : P.follows .mixedOrders = true) (hB : Region.lexB .any l.toArray = true)
    (h : wpQuietIn F n P l.toArray (fun w' => ∃ n, w' = w.drewN n) (fun a' => ∀ w', (∃ n, w' = w.drewN n) → Q .normal a' w') l a) : (Code.region id l.toArray true).wpIn F n P Q a w := by
  simp only [Region.lexB, Bool.and_eq_true] at hB
  refine wpIn_region_any hm (wpAnyIn_of_quiet_round (C := fun w' => ∃ n, w' = w.drewN n) (Q := fun a' => ∀ w', (∃ n, w' = w.drewN n) → Q .normal a' w') (fun j o c hj => hnd o (List.mem_of_getElem? (by simpa using hj)) c) (fun _ w' hw' h => h w' hw') _ _ _ _ ⟨1, rfl⟩ ?_)
  have := wpAnyQIn_lex (F := F) (n := n) (C := fun w' => ∃ n, w' = w.drewN n) (md := .any) hB.1 l 0 (Array.replicate l.length false) a (by simp) (by simpa using hB.2) h
  simpa using this
end
end Go.Proofs.Ytoohpdamndgdlaa.P

/- bitset.Runs, a loop over Walk that collects runs: the runs of what the walk yields, and Check's answer. Condition: at most 65536 places. -/
set_option linter.unusedVariables false
namespace Go.Proofs.Ytoohpdamndgdlaa.P
open Go.RowKit Go.Proofs.YtoohpdamndgdlaaW.PrintWords Go.Proofs.YtoohpdamndgdlaaW.PrintLast Go.Proofs.YtoohpdamndgdlaaW.PrintMore Go.Proofs.Ytoohpdamndgdlaa.B
attribute [local go_sem] Oper.semAt_some

/-- One place more. -/
def rstep (rs : List S59) (i : Int) : List S59 :=
  if rs.length = 0 then rs ++ [⟨i, 1⟩] else if wrap64 ((rs.getD (rs.length - 1) z59).f0 + (rs.getD (rs.length - 1) z59).f1) = i then rs.set (rs.length - 1) ⟨(rs.getD (rs.length - 1) z59).f0, wrap64 ((rs.getD (rs.length - 1) z59).f1 + 1)⟩ else rs ++ [⟨i, 1⟩]
def runsOf (l : List Int) : List S59 := l.foldl rstep []
theorem runsOf_snoc (l : List Int) (x : Int) : runsOf (l ++ [x]) = rstep (runsOf l) x := by simp [runsOf, List.foldl_append]
theorem rstep_length (rs : List S59) (i : Int) : (rstep rs i).length ≤ rs.length + 1 := by
  unfold rstep
  split
  · simp
  · split
    · simp
    · simp
theorem runsOf_length (l : List Int) : (runsOf l).length ≤ l.length := by
  have key : ∀ (l : List Int) (rs : List S59), (l.foldl rstep rs).length ≤ rs.length + l.length := by
    intro l
    induction l with
    | nil => intro rs; simp
    | cons x l ih =>
      intro rs
      have h1 := ih (rstep rs x)
      have h2 := rstep_length rs x
      simp only [List.foldl_cons, List.length_cons]
      omega
  have := key l []
  simpa [runsOf] using this
def cells59 (rs : List S59) : List Value := rs.flatMap fun x => [.int .i64 x.f0, .int .i64 x.f1]
theorem cells59_snoc (rs : List S59) (x : S59) : cells59 (rs ++ [x]) = cells59 rs ++ [.int .i64 x.f0, .int .i64 x.f1] := by simp [cells59]
theorem cells59_length (rs : List S59) : (cells59 rs).length = rs.length * 2 := by
  induction rs with
  | nil => rfl
  | cons x rs ih =>
    have e : cells59 (x :: rs) = [.int .i64 x.f0, .int .i64 x.f1] ++ cells59 rs := by simp [cells59]
    rw [e, List.length_append, ih, List.length_cons]
    simp
    omega
theorem cells59_at (rs : List S59) (m : Nat) (h : m < rs.length) : (cells59 rs)[m * 2]? = some (.int .i64 (rs.getD m z59).f0) ∧ (cells59 rs)[m * 2 + 1]? = some (.int .i64 (rs.getD m z59).f1) := by
  induction rs generalizing m with
  | nil => simp at h
  | cons x rs ih =>
    have e : cells59 (x :: rs) = .int .i64 x.f0 :: .int .i64 x.f1 :: cells59 rs := by simp [cells59]
    rw [e]
    cases m with
    | zero => exact ⟨rfl, rfl⟩
    | succ m =>
      have := ih m (by simpa using h)
      rw [show (m + 1) * 2 = m * 2 + 1 + 1 by omega, show m * 2 + 1 + 1 + 1 = m * 2 + 1 + 1 + 1 from rfl]
      simpa using this
theorem cells59_set (rs : List S59) (m : Nat) (h : m < rs.length) (y : Int) : (cells59 rs).set (m * 2 + 1) (.int .i64 y) = cells59 (rs.set m ⟨(rs.getD m z59).f0, y⟩) := by
  induction rs generalizing m with
  | nil => simp at h
  | cons x rs ih =>
    have e : ∀ x rs, cells59 (x :: rs) = .int .i64 x.f0 :: .int .i64 x.f1 :: cells59 rs := fun x rs => by simp [cells59]
    rw [e]
    cases m with
    | zero =>
      rw [List.set_cons_zero, e]
      rfl
    | succ m =>
      rw [show (m + 1) * 2 + 1 = m * 2 + 1 + 1 + 1 by omega, List.set_cons_succ, List.set_cons_succ, List.set_cons_succ, e, ih m (by simpa using h)]
      rfl
theorem row59 {W : World} {base hi : Nat} {v : Value} {rs : List S59} (h : W.ownsRow hi 59 2 v rs.length (cells59 rs)) (hb : base ≤ hi) : Kd.R k59 59 W base (fun _ => True) v rs := by
  refine ⟨fun _ _ => trivial, cells59 rs, own_weaken h hb, cells59_length rs, fun j p hp => ?_⟩
  have hj := (List.getElem?_eq_some_iff.1 hp).1
  obtain ⟨e1, e2⟩ := cells59_at rs j hj
  have ep : rs.getD j z59 = p := by rw [List.getD_eq_getElem?_getD, hp]; rfl
  rw [ep] at e1 e2
  show k59.M W base _ p (((cells59 rs).drop (j * 2)).take 2)
  have hd : ((cells59 rs).drop (j * 2)).take 2 = [.int .i64 p.f0, .int .i64 p.f1] := by
    have h1 := (List.getElem?_eq_some_iff.1 e1)
    have h2 := (List.getElem?_eq_some_iff.1 e2)
    obtain ⟨l1, q1⟩ := h1
    obtain ⟨l2, q2⟩ := h2
    rw [List.drop_eq_getElem_cons l1, List.drop_eq_getElem_cons l2, q1, q2]
    rfl
  rw [hd]
  exact k59_mkM W base _ p
theorem info59' : (Try.prog.info? 59).map (fun i => (i.zero, i.size, i.bytes)) = some (some (.agg #[.int .i64 0, .int .i64 0]), 2, 16) := by kernel_rfl

theorem rstep_nil {rs : List S59} (h : rs.length = 0) (x : Int) : rstep rs x = rs ++ [⟨x, 1⟩] := by
  unfold rstep
  rw [if_pos h]
theorem rstep_hit {rs : List S59} {m : Nat} {q : S59} {x : Int} (h : rs.length = m + 1) (hq : rs.getD m z59 = q) (hs : wrap64 (q.f0 + q.f1) = x) : rstep rs x = rs.set m ⟨q.f0, wrap64 (q.f1 + 1)⟩ := by
  unfold rstep
  rw [if_neg (by omega), show rs.length - 1 = m by omega, hq, if_pos hs]
theorem rstep_miss {rs : List S59} {m : Nat} {q : S59} {x : Int} (h : rs.length = m + 1) (hq : rs.getD m z59 = q) (hs : ¬ wrap64 (q.f0 + q.f1) = x) : rstep rs x = rs ++ [⟨x, 1⟩] := by
  unfold rstep
  rw [if_neg (by omega), show rs.length - 1 = m by omega, hq, if_neg hs]
theorem keeps_drewN (W : World) (n : Nat) : KeepsOthers W (W.drewN n) := KeepsOthers.of_grownBy (row := none) ⟨rfl, rfl, rfl, Nat.le_refl _, fun _ _ _ => rfl⟩ (fun j o ej _ => by cases ej)

def RunsSay (L : List Int) (r : Int) (w : World) (e : Ending) (w' : World) : Prop :=
  ∃ v, e = .returned (.tuple #[v, .int .i64 r]) ∧ Kd.R k59 59 w' w.heap.size (fun _ => True) v (runsOf L) ∧ Below w.heap.size w w'

set_option maxRecDepth 100000 in
set_option maxHeartbeats 4000000 in
theorem runs_in (k : Nat) (a0 : Int) (A1 : Option Addr) (c1 : Nat) (l1 : List Int) (w : World) (r : Int) (hr1 : Kd.C (Kd.int .u8) w A1 l1.length l1) (hc1 : l1.length ≤ c1) (h : bitset_Check.f k a0 l1 = some r) (hL : (walked r a0 l1).length ≤ 65536) :
    CallsIn Fence.wide 3 Try.prog 28 #[.int .i64 a0, .slice A1 l1.length c1] w (RunsSay (walked r a0 l1) r w) := by
  have HR1 := Aside0.mk hr1
  have HC1 := Aside0.mk hc1
  have HK := Aside0.mk h
  have HL := Aside0.mk hL
  clear hr1 hc1 h hL
  obtain ⟨i0, hi, hz0, hz1, hz2⟩ := info_parts info59'
  have HI := Aside0.mk hi
  have HZ0 := Aside0.mk hz0
  have HZ1 := Aside0.mk hz1
  have HZ2 := Aside0.mk hz2
  clear hi hz0 hz1 hz2
  refine callsIn_of_wp_marks Try.func28 rfl trivial ?_ rfl
  simp only [Try.ntmps28, List.size_toArray, List.length_cons, List.length_nil, Nat.reduceAdd, Nat.reduceSub, Array.replicate_succ, Array.replicate_zero, List.push_toArray, List.append_toArray, List.nil_append, List.cons_append]
  gi_wp2_with (refine ⟨trivial, ?_⟩; gi_at_call 25; refine (callsIn_wide.2 (walk_says k a0 A1 c1 l1 _ r (Kd.C_alloc HR1.out _) HC1.out HK.out)).mono ?_; rintro e w1 ⟨gf, lb, rfl, heg, hB1, hseq⟩; have HEG := Aside0.mk heg; have HB1 := Aside0.mk hB1; have HSQ := Aside0.mk hseq; clear heg hB1 hseq)
  have hlo : (w.alloc (.cells #[.slice none 0 0] 42)).heap.size = w.heap.size + 1 := by simp
  rw [hlo] at HSQ
  have hB0 := below_step ((Below.refl w.heap.size w).alloc (Nat.le_refl _) _) HB1.out
  have hv0 : Boxed w1 w.heap.size 42 (.slice none 0 0) := (HB1.out.block w.heap.size (by simp)).trans (Boxed.new w 42 _)
  have hlt1 : w.heap.size < w1.heap.size := hv0.lt
  refine wpIn_rangeFunc_ownG rfl (by decide) (gf := gf) (lb := lb) rfl trivial HEG.out (HSQ.out (3 - 1) (by decide)) (fun h k => h.trans k) (fun W l o o' hl _ _ _ => Keeps.putObj _ _ W l o' hl) (Below.refl _ _) (fun _ => rfl)
    (fun pre W => (∃ v, Boxed W w.heap.size 42 v ∧ W.ownsRow w1.heap.size 59 2 v (runsOf pre).length (cells59 (runsOf pre)) ∧ True) ∧ (Below w.heap.size w W ∧ w1.heap.size ≤ W.heap.size))
    (fun _ _ _ => False)
    (OwnFrom.and (Own.from (holdsRow_own w1.heap.size w.heap.size 42 59 2 (fun pre : List Int => (runsOf pre).length) (fun pre => cells59 (runsOf pre)) (fun _ _ => True)) _) (OwnFrom.and (ownFrom_below (Nat.le_refl _) (by omega)) (fun s A B row hs hg hr => Nat.le_trans hs hg.size)))
    (fun _ _ _ _ _ hs _ _ => hs)
    ⟨⟨_, hv0, World.ownsRow_nil _ _ _ _, trivial⟩, hB0, Nat.le_refl _⟩
    (fun x => { tmps := #[.int .i64 a0, .slice A1 l1.length c1, undef, undef, .slice none 0 0, .int .i64 0, .pointer (some ⟨w.heap.size, 0, none⟩), .int .i64 x, undef, .int .i64 a0, .slice A1 l1.length c1, .func (.func gf) #[] lb, .int .i64 x, undef, undef, undef, undef, undef, undef, undef, undef, undef, undef, undef, undef, undef, undef, undef, undef, undef, undef, undef, undef, undef, undef, undef, undef, undef, undef, undef, undef, undef, undef, undef, undef, undef, undef, undef, undef, undef], defers := [] }) ?assign ?body ?done ?stop
  case assign =>
    intro l x W K hK
    gi_wp2
    first | exact hK | simpa using hK
  case body =>
    rintro l pre x W ⟨⟨v, hv, hrow, _⟩, hB, hsz⟩ hlt
    have hc := hv.cell
    have hmo : Try.prog.follows .mixedOrders = true := by kernel_rfl
    have HP := Aside0.mk (show pre.length < 65536 by have := HL.out; omega)
    have HPR := Aside0.mk (runsOf_length pre)
    have HBB := Aside0.mk hB
    have HSZ := Aside0.mk hsz
    have HLT := Aside0.mk hlt1
    clear hB hsz hlt hlt1 hB0 hv0 hlo
    obtain ⟨rs, hrs⟩ : ∃ rs, runsOf pre = rs := ⟨_, rfl⟩
    rw [hrs] at hrow HPR
    have HRS := Aside0.mk hrs
    clear hrs
    by_cases hz : rs.length = 0
    · rw [hz] at hrow
      obtain ⟨Av, cv, rfl⟩ := own_slice hrow
      have HM := Aside0.mk hz
      have HST := Aside0.mk (rstep_nil hz x)
      have HV := Aside0.mk hv
      have HROW := Aside0.mk hrow
      clear hz hv hrow
      gi_wp2
      refine wpIn_region_quiet_round (by simp) hmo (by kernel_rfl) ?_
      repeat (gi_big_quiet_step (fail))
      refine wpQuietIn_nil ?_
      intro _ hw'
      obtain ⟨nq, hw''⟩ := hw'
      subst hw''
      have HV2 : Aside0 (Boxed (W.drewN nq) w.heap.size 42 (.slice Av 0 cv)) := ⟨HV.out⟩
      have HROW2 : Aside0 ((W.drewN nq).ownsRow w1.heap.size 59 2 (.slice Av 0 cv) _ (cells59 rs)) := ⟨HROW.out⟩
      have HBB2 : Aside0 (Below w.heap.size w (W.drewN nq)) := ⟨pw_below_drewN HBB.out _⟩
      have HSZ2 : Aside0 (w1.heap.size ≤ (W.drewN nq).heap.size) := ⟨HSZ.out⟩
      have HKO := Aside0.mk (keeps_drewN W nq)
      have HKP : Aside0 (Keeps (w.heap.size + 1) w1.heap.size W (W.drewN nq)) := ⟨fun _ _ _ => rfl⟩
      have hc2 : (W.drewN nq).cell? ⟨w.heap.size, 0, none⟩ = some (.slice Av 0 cv) := HV2.out.cell
      generalize W.drewN nq = W2 at HV2 HROW2 HBB2 HSZ2 HKO HKP hc2 ⊢
      gi_wp2_with (gi_at_builtin; refine wpListIn_append_own _ rfl _ _ 42 rfl w1.heap.size 59 i0 (.agg #[.int .i64 0, .int .i64 0]) 2 16 Try.underlying42 HI.out HZ0.out HZ1.out HZ2.out rfl (by decide) _ _ _ rfl (HROW2.out.alloc _) ⟨W2.heap.size, 0, none⟩ 1 1 [.int .i64 x, .int .i64 1] rfl rfl (Go.cell_two_new _ _ _ _) (by simp [Value.oneCell']) (by have := HP.out; have := HPR.out; have := HM.out; simp only [maxLen]; omega) (by have := HP.out; have := HPR.out; have := HM.out; omega) (by have := HSZ2.out; simp; omega) ?_; intro v' w2 hown' hgrow _; obtain ⟨g', cap', rfl⟩ := ownsRow_succ hown'; obtain ⟨hv1, hv2, hr2, hk2, hb2, hk3⟩ := appended2 (lo := w.heap.size + 1) HV2.out (by decide) HROW2.out (Nat.le_refl _) (by omega) (by have := HLT.out; omega) HSZ2.out (by have := HSZ2.out; have := HLT.out; omega) hown' hgrow; have hc1 := hv1.cell; have hf1 := hv1.frozen; have HH := Aside0.mk (And.intro hv2 (And.intro hr2 (And.intro hk2 (And.intro hb2 hk3)))); clear hv2 hr2 hk2 hb2 hk3 hown' hgrow)
      obtain ⟨hv2, hr2, hk2, hb2, hk3⟩ := HH.out
      refine ⟨(HKO.out.trans hk2).from _, HKP.out.trans hk3, ⟨_, hv2, ?_, trivial⟩, HBB2.out.trans hb2, Nat.le_trans HSZ2.out hk2.size⟩
      rw [runsOf_snoc, HRS.out, HST.out, cells59_snoc, List.length_append, HM.out]
      exact hr2
    · obtain ⟨m, hm⟩ : ∃ m, rs.length = m + 1 := ⟨rs.length - 1, by omega⟩
      rw [hm] at hrow
      obtain ⟨g, cap, rfl⟩ := ownsRow_succ hrow
      obtain ⟨q, hq⟩ : ∃ q, rs.getD m z59 = q := ⟨_, rfl⟩
      obtain ⟨e1, e2⟩ := cells59_at rs m (by omega)
      rw [hq] at e1 e2
      have hx0 := (hrow.cellAt (m * 2) (by omega)).trans e1
      have hx1 := (hrow.cellAt (m * 2 + 1) (by omega)).trans e2
      have HM := Aside0.mk hm
      have HQ := Aside0.mk hq
      have HV := Aside0.mk hv
      have HROW := Aside0.mk hrow
      have hm2 : m < 65536 := by have := HP.out; have := HPR.out; omega
      clear hm hq hv hrow e1 e2 hz
      obtain ⟨s, hs⟩ : ∃ s, IntKind.i64.wrap (q.f0 + q.f1) = s := ⟨_, rfl⟩
      have HS := Aside0.mk (show wrap64 (q.f0 + q.f1) = s from (IntWalk.i64_left _).symm.trans hs)
      by_cases hsx : s = x
      · have hsb : (s == x) = true := beq_iff_eq.mpr hsx
        have HSX := Aside0.mk hsx
        clear hsx
        gi_wp2
        refine wpIn_region_quiet_round (by simp) hmo (by kernel_rfl) ?_
        repeat (gi_big_quiet_step (fail))
        refine wpQuietIn_nil ?_
        intro _ hw'
        obtain ⟨nq, hw''⟩ := hw'
        subst hw''
        have hfz : (W.drewN nq).frozen? ⟨g, m * 2 + 1, none⟩ = false := HROW.out.frozenAt (m * 2 + 1)
        gi_wp2
        obtain ⟨hr2, hg2⟩ := World.ownsRow.stored (w := W.drewN nq) HROW.out (m * 2 + 1) (.int .i64 (wrap64 (q.f1 + 1)))
        obtain ⟨hg1, hg3⟩ := HROW.out.lt g rfl
        have hne : w.heap.size ≠ g := by have := HLT.out; omega
        refine ⟨((keeps_drewN W nq).trans (KeepsOthers.setCell _ _ _)).from _, fun b h1 h2 => (Below.heap_setCell _ _ _ _ (by simp; omega)).trans rfl, ⟨_, (show Boxed (W.drewN nq) w.heap.size 42 _ from HV.out).kept hg2 (by simp; omega), ?_, trivial⟩, (pw_below_drewN HBB.out nq).setCell (by show w.heap.size ≤ g; have := HLT.out; omega) _, by simp; exact HSZ.out⟩
        have HST := rstep_hit HM.out HQ.out (HS.out.trans HSX.out)
        rw [runsOf_snoc, HRS.out, HST, ← HQ.out, ← cells59_set rs m (by have := HM.out; omega) _, HQ.out, List.length_set, HM.out]
        exact hr2
      · have hsb : (s == x) = false := beq_eq_false_iff_ne.mpr hsx
        have HST := Aside0.mk (rstep_miss HM.out HQ.out (fun e => hsx (HS.out.symm.trans e)))
        clear hsx
        gi_wp2
        refine wpIn_region_quiet_round (by simp) hmo (by kernel_rfl) ?_
        repeat (gi_big_quiet_step (fail))
        refine wpQuietIn_nil ?_
        intro _ hw'
        obtain ⟨nq, hw''⟩ := hw'
        subst hw''
        have HV2 : Aside0 (Boxed (W.drewN nq) w.heap.size 42 (.slice (some ⟨g, 0, none⟩) (m + 1) cap)) := ⟨HV.out⟩
        have HROW2 : Aside0 ((W.drewN nq).ownsRow w1.heap.size 59 2 (.slice (some ⟨g, 0, none⟩) (m + 1) cap) _ (cells59 rs)) := ⟨HROW.out⟩
        have HBB2 : Aside0 (Below w.heap.size w (W.drewN nq)) := ⟨pw_below_drewN HBB.out _⟩
        have HSZ2 : Aside0 (w1.heap.size ≤ (W.drewN nq).heap.size) := ⟨HSZ.out⟩
        have HKO := Aside0.mk (keeps_drewN W nq)
        have HKP : Aside0 (Keeps (w.heap.size + 1) w1.heap.size W (W.drewN nq)) := ⟨fun _ _ _ => rfl⟩
        have hc2 : (W.drewN nq).cell? ⟨w.heap.size, 0, none⟩ = some (.slice (some ⟨g, 0, none⟩) (m + 1) cap) := HV2.out.cell
        generalize W.drewN nq = W2 at HV2 HROW2 HBB2 HSZ2 HKO HKP hc2 ⊢
        gi_wp2_with (gi_at_builtin; refine wpListIn_append_own _ rfl _ _ 42 rfl w1.heap.size 59 i0 (.agg #[.int .i64 0, .int .i64 0]) 2 16 Try.underlying42 HI.out HZ0.out HZ1.out HZ2.out rfl (by decide) _ _ _ rfl (HROW2.out.alloc _) ⟨W2.heap.size, 0, none⟩ 1 1 [.int .i64 x, .int .i64 1] rfl rfl (Go.cell_two_new _ _ _ _) (by simp [Value.oneCell']) (by have := HP.out; have := HPR.out; have := HM.out; simp only [maxLen]; omega) (by have := HP.out; have := HPR.out; have := HM.out; omega) (by have := HSZ2.out; simp; omega) ?_; intro v' w2 hown' hgrow _; obtain ⟨g', cap', rfl⟩ := ownsRow_succ hown'; obtain ⟨hv1, hv2, hr2, hk2, hb2, hk3⟩ := appended2 (lo := w.heap.size + 1) HV2.out (by decide) HROW2.out (Nat.le_refl _) (by omega) (by have := HLT.out; omega) HSZ2.out (by have := HSZ2.out; have := HLT.out; omega) hown' hgrow; have hc1 := hv1.cell; have hf1 := hv1.frozen; have HH := Aside0.mk (And.intro hv2 (And.intro hr2 (And.intro hk2 (And.intro hb2 hk3)))); clear hv2 hr2 hk2 hb2 hk3 hown' hgrow)
        obtain ⟨hv2, hr2, hk2, hb2, hk3⟩ := HH.out
        refine ⟨(HKO.out.trans hk2).from _, HKP.out.trans hk3, ⟨_, hv2, ?_, trivial⟩, HBB2.out.trans hb2, Nat.le_trans HSZ2.out hk2.size⟩
        rw [runsOf_snoc, HRS.out, HST.out, cells59_snoc, List.length_append, HM.out]
        exact hr2
  case done =>
    rintro D ys W hD rfl ⟨⟨v, hv, hrow, _⟩, hB, hsz⟩ hK
    have hc := hv.cell
    have hmo : Try.prog.follows .mixedOrders = true := by kernel_rfl
    have HBW := Aside0.mk hB
    have HKD := Aside0.mk hK
    have HROW := Aside0.mk hrow
    clear hK hB hrow
    gi_wp2
    first | (gi_region_with_o (refine ⟨trivial, ?_⟩; gi_at_call 48; refine (callsIn_wide.2 (bitset_Check.calls k a0 _ _ l1 r _ (Kd.C_drew (Kd.C_below HR1.out HBW.out)) HC1.out HK.out)).mono ?_; rintro e w2 ⟨rfl, ⟨nd, rfl⟩⟩)) | (fail "no")
    all_goals
      have hb9 : Below w.heap.size w (W.drewN (1 + nd)) := pw_below_drewN HBW.out _
      have hk9 : (W.drewN (1 + nd)).heap[D]? = some (.deferred (some [])) := HKD.out
      have hr9 : (W.drewN (1 + nd)).ownsRow w1.heap.size 59 2 v (runsOf (walked r a0 l1)).length (cells59 (runsOf (walked r a0 l1))) := HROW.out
      gi_wp2
      refine ⟨by simp, .inl ⟨_, _, rfl, run_takeDeferred hk9, ?_⟩⟩
      exact ⟨_, results_tmp2 (show Try.f28.results = #[.tmp 4, .tmp 5] from rfl) _ _ _, v, rfl, row59 (ownsRow_putObj hr9 _ hk9 rfl) (by omega), hb9.trans (belowK_b (w := w) (Nat.le_refl _) _ D _ _ (by omega) hk9 rfl rfl)⟩
  case stop =>
    rintro D c pre W _ _ h _
    exact h.elim
end Go.Proofs.Ytoohpdamndgdlaa.P

-- Made by a program of this session (the print of the kit over a neighbour), for this claim.
namespace Go.Proofs.Ytoohpdamndgdlaa.P
open Go.RowKit Go.Proofs.YtoohpdamndgdlaaW.PrintWords Go.Proofs.YtoohpdamndgdlaaW.PrintLast Go.Proofs.YtoohpdamndgdlaaW.PrintMore
attribute [local go_sem] max2_int min2_int max_two min_two max_three min_three max_four min_four   -- for this text's walks alone
set_option linter.unusedVariables false
set_option linter.unusedSimpArgs false

/-! ### bitset_Runs: function 28 -/
def bitset_Runs.l0 : Nat → Int → List Int → List (S59) → Int → Option ((List (S59)) × Int)
  | 0, _, _, _, _ => none
  | k + 1, x0, x1, x7, x8 => if x8 < x0 then (if 0 ≤ (wrap64 (Int.tdiv x8 8)) then (if (wrap64 (Int.tdiv x8 8)) < (x1.length : Int) then (if 0 ≤ (Int.tmod x8 8) then (if (Go.bits .and .u8 (rd x1 (wrap64 (Int.tdiv x8 8))) (shr .u8 128 (Int.tmod x8 8))) = 0 then (bitset_Runs.l0 k x0 x1 x7 (wrap64 (x8 + 1))) else (if (wrap64 ((x7.length : Int) - 1)) ≥ 0 then (if 0 ≤ (wrap64 ((x7.length : Int) - 1)) then (if (wrap64 ((x7.length : Int) - 1)) < (x7.length : Int) then (if (wrap64 (((rd_T59 x7 (wrap64 ((x7.length : Int) - 1))).f0) + ((rd_T59 x7 (wrap64 ((x7.length : Int) - 1))).f1))) = x8 then (bitset_Runs.l0 k x0 x1 (x7.set ((wrap64 ((x7.length : Int) - 1)) : Int).toNat (⟨(rd_T59 x7 (wrap64 ((x7.length : Int) - 1))).f0, wrap64 (((rd_T59 x7 (wrap64 ((x7.length : Int) - 1))).f1) + 1)⟩ : S59)) (wrap64 (x8 + 1))) else (if x7.length < 8796093022208 then (bitset_Runs.l0 k x0 x1 (x7 ++ [(⟨x8, 1⟩ : S59)]) (wrap64 (x8 + 1))) else (none))) else (none)) else (none)) else (if x7.length < 8796093022208 then (bitset_Runs.l0 k x0 x1 (x7 ++ [(⟨x8, 1⟩ : S59)]) (wrap64 (x8 + 1))) else (none)))) else (none)) else (none)) else (none)) else (some (x7, 0))
def bitset_Runs.f (k : Nat) (a0 : Int) (l1 : List Int) : Option ((List (S59)) × Int) := (bitset_Check.f k a0 l1).bind fun t215 => (if t215 = 0 then (bitset_Runs.l0 k a0 l1 ([] : List (S59)) 0) else (some (([] : List (S59)), t215)))
theorem bitset_Runs.mono_l : ∀ k, (∀ y0 y1 y2 y3, LeO (bitset_Runs.l0 k y0 y1 y2 y3) (bitset_Runs.l0 (k + 1) y0 y1 y2 y3))
  | 0 => fun _ _ _ _ r h => by simp [bitset_Runs.l0] at h
  | k + 1 => by
    have ih0 := bitset_Runs.mono_l k
    · intro y0 y1 y2 y3
      unfold bitset_Runs.l0
      repeat' first
      | (with_reducible exact ih0 _ _ _ _)
      | (with_reducible exact bitset_Check.mono _ _ _)
      | (with_reducible exact LeO.refl _)
      | (with_reducible exact LeO.none _)
      | (with_reducible refine LeO.ite ?_ ?_)
      | (with_reducible refine LeO.bind ?_ (fun _ => ?_))
      | exact ih0 _ _ _ _
      | exact bitset_Check.mono _ _ _
      | exact LeO.none _
      | refine LeO.ite ?_ ?_
      | refine LeO.bind ?_ (fun _ => ?_)
theorem bitset_Runs.mono : ∀ a0 a1 k, LeO (bitset_Runs.f k a0 a1) (bitset_Runs.f (k + 1) a0 a1) := by
  intro a0 a1 k
  have ih0 := bitset_Runs.mono_l k
  unfold bitset_Runs.f
  repeat' first
      | (with_reducible exact ih0 _ _ _ _)
      | (with_reducible exact bitset_Check.mono _ _ _)
      | (with_reducible exact LeO.refl _)
      | (with_reducible exact LeO.none _)
      | (with_reducible refine LeO.ite ?_ ?_)
      | (with_reducible refine LeO.bind ?_ (fun _ => ?_))
      | exact ih0 _ _ _ _
      | exact bitset_Check.mono _ _ _
      | exact LeO.none _
      | refine LeO.ite ?_ ?_
      | refine LeO.bind ?_ (fun _ => ?_)
open Go.Proofs.Ytoohpdamndgdlaa.B in
theorem bitset_Runs.told_l (n : Nat) (hn : n ≤ 65536) (l : List Int) (hl : n ≤ 8 * l.length) : ∀ (k i : Nat) (r1 : List S59) (r2 : Int), i ≤ n → bitset_Runs.l0 k (n : Int) l (runsOf (onesTo l i)) (i : Int) = some (r1, r2) → r1 = runsOf (onesTo l n) ∧ r2 = 0
  | 0, _, _, _, _, h => by simp [bitset_Runs.l0] at h
  | k + 1, i, r1, r2, hi, h => by
    simp only [bitset_Runs.l0] at h
    by_cases hlt : i < n
    · obtain ⟨g1, g2, g3⟩ := tests_in l i (by omega) (by omega)
      have hin := onesTo_length l i
      have hrl := runsOf_length (onesTo l i)
      rw [if_pos (by omega), if_pos g1, if_pos g2, if_pos g3, inc i (by omega)] at h
      cases hb : hit l i with
      | false =>
        rw [if_pos ((hit_is l i (by omega)).2 hb), ← onesTo_miss hb] at h
        exact bitset_Runs.told_l n hn l hl k (i + 1) r1 r2 (by omega) h
      | true =>
        rw [if_neg (fun h0 => by rw [(hit_is l i (by omega)).1 h0] at hb; cases hb)] at h
        have key : ∀ rs : List S59, rs.length ≤ 65536 →
            (if wrap64 ((rs.length : Int) - 1) ≥ 0 then if 0 ≤ wrap64 ((rs.length : Int) - 1) then if wrap64 ((rs.length : Int) - 1) < (rs.length : Int) then if wrap64 ((rd_T59 rs (wrap64 ((rs.length : Int) - 1))).f0 + (rd_T59 rs (wrap64 ((rs.length : Int) - 1))).f1) = (i : Int) then bitset_Runs.l0 k (n : Int) l (rs.set (wrap64 ((rs.length : Int) - 1)).toNat ⟨(rd_T59 rs (wrap64 ((rs.length : Int) - 1))).f0, wrap64 ((rd_T59 rs (wrap64 ((rs.length : Int) - 1))).f1 + 1)⟩) ((i + 1 : Nat) : Int) else if rs.length < 8796093022208 then bitset_Runs.l0 k (n : Int) l (rs ++ [⟨(i : Int), 1⟩]) ((i + 1 : Nat) : Int) else none else none else none else if rs.length < 8796093022208 then bitset_Runs.l0 k (n : Int) l (rs ++ [⟨(i : Int), 1⟩]) ((i + 1 : Nat) : Int) else none) = bitset_Runs.l0 k (n : Int) l (rstep rs (i : Int)) ((i + 1 : Nat) : Int) := by
          intro rs hrs
          have e1 : wrap64 ((rs.length : Int) - 1) = (rs.length : Int) - 1 := w64 _ (by omega) (by omega)
          rw [e1]
          by_cases hz : rs.length = 0
          · rw [if_neg (by omega), if_pos (by omega), rstep_nil hz]
          · obtain ⟨m, hm⟩ : ∃ m, rs.length = m + 1 := ⟨rs.length - 1, by omega⟩
            have e2 : (rs.length : Int) - 1 = (m : Int) := by omega
            rw [e2, if_pos (by omega), if_pos (by omega), if_pos (by omega)]
            have e3 : rd_T59 rs (m : Int) = rs.getD m z59 := by unfold rd_T59; rw [Int.toNat_natCast]
            rw [e3, Int.toNat_natCast]
            by_cases hs : wrap64 ((rs.getD m z59).f0 + (rs.getD m z59).f1) = (i : Int)
            · rw [if_pos hs, rstep_hit hm rfl hs]
            · rw [if_neg hs, if_pos (by omega), rstep_miss hm rfl hs]
        rw [key _ (by omega), ← runsOf_snoc, ← onesTo_hit hb] at h
        exact bitset_Runs.told_l n hn l hl k (i + 1) r1 r2 (by omega) h
    · obtain rfl : i = n := by omega
      rw [if_neg (by omega)] at h
      simp only [Option.some.injEq, Prod.mk.injEq] at h
      exact ⟨h.1.symm, h.2.symm⟩
open Go.Proofs.Ytoohpdamndgdlaa.B in
theorem bitset_Runs.told {k : Nat} {a0 : Int} {l : List Int} {r1 : List S59} {r2 : Int} (h : bitset_Runs.f k a0 l = some (r1, r2)) : bitset_Check.f k a0 l = some r2 ∧ r1 = runsOf (walked r2 a0 l) ∧ (walked r2 a0 l).length ≤ 65536 := by
  unfold bitset_Runs.f at h
  obtain ⟨t, ht, h⟩ := Option.bind_eq_some_iff.mp h
  by_cases h0 : t = 0
  · subst h0
    rw [if_pos rfl] at h
    obtain ⟨n, rfl, hn, hl⟩ := check_zero ht
    obtain ⟨rfl, rfl⟩ := bitset_Runs.told_l n hn l (by omega) k 0 r1 r2 (by omega) h
    refine ⟨ht, ?_, ?_⟩
    · unfold walked
      rw [if_pos rfl, Int.toNat_natCast]
    · unfold walked
      rw [if_pos rfl, Int.toNat_natCast]
      exact Nat.le_trans (onesTo_length l n) hn
  · rw [if_neg h0] at h
    simp only [Option.some.injEq, Prod.mk.injEq] at h
    obtain ⟨rfl, rfl⟩ := h
    refine ⟨ht, ?_, ?_⟩
    · unfold walked
      rw [if_neg h0]
      rfl
    · unfold walked
      rw [if_neg h0]
      simp
set_option maxHeartbeats 4000000 in
set_option maxRecDepth 100000 in
theorem bitset_Runs.calls (k : Nat) (a0 : Int) (A1 : Option Addr) (c1 : Nat) (l1 : List Int) (r1 : List (S59)) (r2 : Int) (w : World) (hr1 : Kd.C (Kd.int .u8) w A1 l1.length l1) (hc1 : l1.length ≤ c1) (h : bitset_Runs.f k a0 l1 = some (r1, r2)) :
    Calls Try.prog 28 #[.int .i64 a0, .slice A1 l1.length c1] w fun e w' => ∃ v0_ : Value, e = .returned (.tuple #[v0_, .int .i64 r2]) ∧ Kd.R k59 59 w' w.heap.size (fun _ => True) v0_ r1 ∧ Below w.heap.size w w' := by
  obtain ⟨h1, rfl, h3⟩ := bitset_Runs.told h
  exact callsIn_wide.1 (runs_in k a0 A1 c1 l1 w r2 hr1 hc1 h1 h3)

end Go.Proofs.Ytoohpdamndgdlaa.P

-- Made by a program of this session (the print of the kit over a neighbour), for this claim.
namespace Go.Proofs.Ytoohpdamndgdlaa.P
open Go.RowKit Go.Proofs.YtoohpdamndgdlaaW.PrintWords Go.Proofs.YtoohpdamndgdlaaW.PrintLast Go.Proofs.YtoohpdamndgdlaaW.PrintMore
attribute [local go_sem] max2_int min2_int max_two min_two max_three min_three max_four min_four   -- for this text's walks alone
set_option linter.unusedVariables false
set_option linter.unusedSimpArgs false

/-! ### torrentref4_size: function 72 -/
def torrentref4_size.f (a0 : Int) : Option (Int) := if (Int.tmod a0 8) > 0 then (some (wrap64 ((wrap64 (Int.tdiv a0 8)) + 1))) else (some (wrap64 (Int.tdiv a0 8)))
set_option maxHeartbeats 8000000 in
set_option maxRecDepth 100000 in
theorem torrentref4_size.calls (a0 : Int) (r : Int) (w : World) (h : torrentref4_size.f a0 = some r) :
    Calls Try.prog 72 #[.int .i64 a0] w fun e w' => e = .returned (.int .i64 r) ∧ Drawn0 w w' := by
  have H : (if (Int.tmod a0 8) > 0 then (some (wrap64 ((wrap64 (Int.tdiv a0 8)) + 1))) else (some (wrap64 (Int.tdiv a0 8)))) = some r := h
  clear h
  by_cases c2 : (Int.tmod a0 8) > 0
  · rw [if_pos c2] at H
    have c2b0 : decide (0 < (Int.tmod a0 8)) = true := decide_eq_true c2
    clear c2
    obtain rfl := Option.some.inj H
    go_enter Try.func72, Try.ntmps72
    go_wp2
    go_ret
    exact ⟨by first | rfl | (simp; done) | (simp [*]; done), by repeat (first | exact Drawn0.refl _ | apply Drawn0.step)⟩
  · rw [if_neg c2] at H
    have c2b0 : decide (0 < (Int.tmod a0 8)) = false := decide_eq_false c2
    clear c2
    obtain rfl := Option.some.inj H
    go_enter Try.func72, Try.ntmps72
    go_wp2
    go_ret
    exact ⟨by first | rfl | (simp; done) | (simp [*]; done), by repeat (first | exact Drawn0.refl _ | apply Drawn0.step)⟩

end Go.Proofs.Ytoohpdamndgdlaa.P
