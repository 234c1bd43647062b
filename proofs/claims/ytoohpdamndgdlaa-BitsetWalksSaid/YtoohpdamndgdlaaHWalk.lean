/- bitset.Walk's iterator: it yields the places of the set bits, rising, and stops where a round says 'no more'. Conditions: at most 65536 bits, the bytes reach. -/
import Derived.RangeFuncBox
import Derived.RangeFuncLeaves
import Derived.RangeFuncBound
import Derived.RangeFuncCalls
import Derived.WalkKit
import Derived.OwnWalkIn
import Derived.TacticsInMore
import Derived.LoopNIn
import Derived.LoopIn
import Derived.Outline
import Derived.Lib.Hide
import Derived.Shelf.RegionOpen
import Derived.Test.YtoohpdamndgdlaaBits
import Derived.Test.YtoohpdamndgdlaaHMasks
namespace Go.Proofs.Ytoohpdamndgdlaa.P
open Go.RowKit Go.Proofs.YtoohpdamndgdlaaW.PrintWords Go.Proofs.YtoohpdamndgdlaaW.PrintMore Go.Proofs.Ytoohpdamndgdlaa.B
attribute [local go_sem] Oper.semAt_some

/-- Is the bit set, as the program asks it? (Whatever numbers the list holds.) -/
def hit (xs : List Int) (k : Nat) : Bool := Go.bits .and .u8 (xs.getD (k / 8) 0) (mk8 (k % 8)) != 0
/-- The places below k of the set bits. -/
def onesTo (xs : List Int) (k : Nat) : List Int := ((List.range k).filter (hit xs)).map (fun i : Nat => (i : Int))
theorem onesTo_hit {xs : List Int} {k : Nat} (h : hit xs k = true) : onesTo xs (k + 1) = onesTo xs k ++ [(k : Int)] := by simp [onesTo, List.range_succ, h]
theorem onesTo_miss {xs : List Int} {k : Nat} (h : hit xs k = false) : onesTo xs (k + 1) = onesTo xs k := by simp [onesTo, List.range_succ, h]
theorem onesTo_length (xs : List Int) (k : Nat) : (onesTo xs k).length ≤ k := by
  unfold onesTo
  rw [List.length_map]
  exact Nat.le_trans (List.length_filter_le _ _) (by simp)
theorem onesTo_prefix (xs : List Int) {j k : Nat} (h : j ≤ k) : onesTo xs j <+: onesTo xs k := by
  obtain ⟨d, rfl⟩ := Nat.exists_eq_add_of_le h
  induction d with
  | zero => exact List.prefix_refl _
  | succ d ih =>
    refine (ih (by omega)).trans ?_
    cases hb : hit xs (j + d) with
    | true => rw [← Nat.add_assoc, onesTo_hit hb]; exact List.prefix_append _ _
    | false => rw [← Nat.add_assoc, onesTo_miss hb]; exact List.prefix_refl _
theorem onesTo_length_lt (xs : List Int) {k n : Nat} (h : k < n) (hb : hit xs k = true) : (onesTo xs k).length < (onesTo xs n).length := by
  have := (onesTo_prefix xs (show k + 1 ≤ n by omega)).length_le
  rw [onesTo_hit hb, List.length_append] at this
  simp at this
  omega

/-- The blocks from lo on, below hi, are as they were. -/
def Keeps (lo hi : Nat) (W W' : World) : Prop := ∀ b, lo ≤ b → b < hi → W'.heap[b]? = W.heap[b]?
theorem Keeps.refl (lo hi : Nat) (W : World) : Keeps lo hi W W := fun _ _ _ => rfl
theorem Keeps.trans {lo hi : Nat} {A B C : World} (h : Keeps lo hi A B) (k : Keeps lo hi B C) : Keeps lo hi A C := fun b h1 h2 => (k b h1 h2).trans (h b h1 h2)
theorem Keeps.of_below {lo hi B : Nat} {W W' : World} (h : Below B W W') (hB : hi ≤ B) : Keeps lo hi W W' := fun b _ h2 => h.block b (by omega)
theorem Keeps.drew (lo hi : Nat) (W : World) : Keeps lo hi W W.drew := fun _ _ _ => rfl
theorem Keeps.cell {lo hi : Nat} {W W' : World} (h : Keeps lo hi W W') {b o : Nat} (h1 : lo ≤ b) (h2 : b < hi) : W'.cell? ⟨b, o, none⟩ = W.cell? ⟨b, o, none⟩ := by
  simp only [World.cell?, h b h1 h2]
theorem Keeps.size {lo hi : Nat} {W W' : World} (h : Keeps lo hi W W') (hl : lo < hi) (hs : hi ≤ W.heap.size) : hi ≤ W'.heap.size := by
  have e := h (hi - 1) (by omega) (by omega)
  rw [Array.getElem?_eq_getElem (show hi - 1 < W.heap.size by omega)] at e
  have := (Array.getElem?_eq_some_iff.1 e).1
  omega
theorem Keeps.putObj (lo hi : Nat) (W : World) (l : Nat) (o : Obj) (h : hi ≤ l) : Keeps lo hi W (W.putObj l o) := fun b _ h2 => World.putObj_heap_other (by omega)

set_option maxRecDepth 100000 in
set_option maxHeartbeats 4000000 in
theorem walk2_in (m : Nat) (hm : 1 ≤ m) (l Bn Bo lo hi g cap n : Nat) (xs : List Int) (hn : n ≤ 65536) (hlen : n ≤ 8 * xs.length) (J Jx : List Int → World → Prop)
    (hJ : ∀ s W W', J s W → W.grownBy W' none → J s W')
    (hY : ∀ pre x W, J pre W → pre.length < (onesTo xs n).length → YieldAt Fence.wide (m - 1) Try.prog l #[.int .i64 x] W fun e W' =>
      (e = .returned (.bool true) ∧ J (pre ++ [x]) W' ∧ Keeps lo hi W W') ∨ (e = .returned (.bool false) ∧ Jx (pre ++ [x]) W'))
    (W : World) (hn0 : hi ≤ W.heap.size) (hBo : lo ≤ Bo ∧ Bo < hi) (hg : 0 < n → lo ≤ g ∧ g < hi) (hcn : W.cell? ⟨Bn, 0, none⟩ = some (.int .i64 n)) (hco : 0 < n → W.cell? ⟨Bo, 0, none⟩ = some (.slice (some ⟨g, 0, none⟩) xs.length cap))
    (hc : 0 < n → ∀ j, j < xs.length → W.cell? ⟨g, j, none⟩ = some (.int .u8 (xs.getD j 0))) (h0 : J [] W) :
    CallsIn Fence.wide m Try.prog 62 #[.func (.yield l) #[] #[], .pointer (some ⟨Bn, 0, none⟩), .pointer (some ⟨Bo, 0, none⟩)] W fun e W' => (∃ v, e = .returned v) ∧
      ((∃ ys, ys = onesTo xs n ∧ J ys W') ∨ (∃ pre, pre <+: onesTo xs n ∧ Jx pre W')) := by
  refine callsIn_of_wp Try.func62 rfl trivial ?_ rfl
  simp only [Try.ntmps62, List.size_toArray, List.length_cons, List.length_nil, Nat.reduceAdd, Nat.reduceSub, Array.replicate_succ, Array.replicate_zero, List.push_toArray, List.append_toArray, List.nil_append, List.cons_append]
  gi_wp2
  gi_loopw [6] (fun i wr => ∃ k : Nat, k ≤ n ∧ i = .int .i64 k ∧ J (onesTo xs k) wr ∧ Keeps lo hi W wr)
    (fun i _ => n - (intOf i).toNat)
  case atStart => exact ⟨0, Nat.zero_le _, rfl, by simpa [onesTo] using h0, Keeps.refl _ _ _⟩
  case round =>
    obtain ⟨k, hk, rfl, hJs, hnx⟩ := hrel
    by_cases hlt : k < n
    · have hco1 : wr.cell? ⟨Bo, 0, none⟩ = some (.slice (some ⟨g, 0, none⟩) xs.length cap) := (hnx.cell hBo.1 hBo.2).trans (hco (by omega))
      obtain ⟨y, hy⟩ : ∃ y : Int, xs.getD (k / 8) 0 = y := ⟨_, rfl⟩
      have hc1 : wr.cell? ⟨g, k / 8, none⟩ = some (.int .u8 y) := by rw [← hy]; exact (hnx.cell (hg (by omega)).1 (hg (by omega)).2).trans (hc (by omega) (k / 8) (by omega))
      have hand : (Go.bits .and .u8 (xs.getD (k / 8) 0) (mk8 (k % 8)) != 0) = hit xs k := rfl
      rw [hy] at hand
      have HY := Lib.hid hy
      clear hy hc hcn hco h0
      have hmk : ∀ W1 : World, (Instr.index 68 maskV (.int .i64 ((k : Int) % 8))).run Try.prog W1 = .ok (.int .u8 (mk8 (k % 8))) W1 := by
        have e : (k : Int) % 8 = ((k % 8 : Nat) : Int) := by omega
        rw [e, ← shr_mask _ (Nat.mod_lt _ (by decide))]
        exact mask_at _ (by omega) (by omega)
      have hq1 : IntKind.i64.wrap ((k : Int) / 8) = (k : Int) / 8 := by rw [IntWalk.i64_left, w64 _ (by omega) (by omega)]
      have hq3 : (0 : Int) ≤ (k : Int) / 8 := by omega
      have hq4 : (k : Int) / 8 < (xs.length : Int) := by omega
      have hq5 : ((k : Int) / 8).toNat = k / 8 := by omega
      have hmk2 : ∀ W1 : World, (Instr.index 68 maskV (.int .i64 (Int.tmod (k : Int) 8))).run Try.prog W1 = .ok (.int .u8 (mk8 (k % 8))) W1 := by
        intro W1
        rw [show Int.tmod (k : Int) 8 = (k : Int) % 8 from Int.tmod_eq_emod_of_nonneg (by omega)]
        exact hmk W1
      have HS := Lib.hid (hnx.size (by omega) hn0)
      have hlo : Bo < wr.heap.size := World.block_lt_of_cell? wr ⟨Bo, 0, none⟩ hco1
      have hlg : g < wr.heap.size := World.block_lt_of_cell? wr ⟨g, k / 8, none⟩ hc1
      have hJd : J (onesTo xs k) wr.drew := hJ _ _ _ hJs ⟨rfl, rfl, rfl, Nat.le_refl _, fun _ _ _ => rfl⟩
      have hmo : Try.prog.follows .mixedOrders = true := by kernel_rfl
      clear hg
      cases hb : hit xs k with
      | true =>
        rw [hb] at hand
        have HB := Lib.hid hb
        clear hb
        have HT := Lib.hid (onesTo_length_lt xs hlt HB.out)
        gi_wp2
        gi_region_with_o (first | (refine ⟨trivial, ?_⟩; gi_at_call 58; refine (callsIn_wide.2 (masks_calls _)).mono ?_; rintro e w1 ⟨rfl, hb1⟩; have hco2 := (hb1.cell (p := ⟨Bo, 0, none⟩) hlo).trans hco1; have hc2 := (hb1.cell (p := ⟨g, k / 8, none⟩) hlg).trans hc1; have hJ1 := hJ _ _ _ hJd (grown_of_below hb1 none); obtain ⟨fn, tmps, assign, body, hy, hR⟩ := hY _ (k : Int) w1 hJ1 HT.out; have HR2 := hR.mono (R' := fun e W' => ∃ b : Bool, e = .returned (.bool b) ∧ ((b = true ∧ J (onesTo xs k ++ [(k : Int)]) W' ∧ Keeps lo hi w1 W') ∨ (b = false ∧ Jx (onesTo xs k ++ [(k : Int)]) W'))) (fun e W' h => h.elim (fun h => ⟨true, h.1, .inl ⟨rfl, h.2⟩⟩) (fun h => ⟨false, h.1, .inr ⟨rfl, h.2⟩⟩))) | (refine HR2.mono ?_; rintro e W3 ⟨b, rfl, hd⟩))
        all_goals
          have hB1 : Keeps lo hi W w1 := hnx.trans ((Keeps.drew lo hi wr).trans (Keeps.of_below hb1 HS.out))
          rcases hd with ⟨rfl, hJ3, hk3⟩ | ⟨rfl, hJx3⟩
          · gi_wp2
            go_roundw
            case rel => exact ⟨k + 1, by omega, by go_num, by rw [onesTo_hit HB.out]; exact hJ3, hB1.trans hk3⟩
            case measure => simp [intOf]; omega
          · gi_wp2
            refine bodyPost_ret (results_none rfl _ _ _) rfl ?_
            exact ⟨⟨_, rfl⟩, .inr ⟨_, by rw [← onesTo_hit HB.out]; exact onesTo_prefix xs (by omega), hJx3⟩⟩
      | false =>
        rw [hb] at hand
        have HB := Lib.hid hb
        clear hb
        gi_wp2
        first | (gi_region_with_o (first | (refine ⟨trivial, ?_⟩; gi_at_call 58; refine (callsIn_wide.2 (masks_calls _)).mono ?_; rintro e w1 ⟨rfl, hb1⟩; have hco2 := (hb1.cell (p := ⟨Bo, 0, none⟩) hlo).trans hco1; have hc2 := (hb1.cell (p := ⟨g, k / 8, none⟩) hlg).trans hc1; have hJ1 := hJ _ _ _ hJd (grown_of_below hb1 none)) | (refine ⟨fun _ h => (by cases h), ?_⟩; gi_wp2))) | (fail "no")
        all_goals
          have hB1 : Keeps lo hi W w1 := hnx.trans ((Keeps.drew lo hi wr).trans (Keeps.of_below hb1 HS.out))
          gi_wp2
          go_roundw
          case rel => exact ⟨k + 1, by omega, by go_num, by rw [onesTo_miss HB.out]; exact hJ1, hB1⟩
          case measure => simp [intOf]; omega
    · obtain rfl : k = n := by omega
      gi_wp2
      go_end0
      exact ⟨⟨_, rfl⟩, .inl ⟨_, rfl, hJs⟩⟩
end Go.Proofs.Ytoohpdamndgdlaa.P
