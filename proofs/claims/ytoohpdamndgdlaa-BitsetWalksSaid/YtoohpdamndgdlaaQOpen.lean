/- Check, open and copied, the program's and the reference's, in plain words. Conditions: bytes; open: at most 8192 of them. -/
import Derived.Test.YtoohpdamndgdlaaQPack
import Derived.Test.YtoohpdamndgdlaaQCheck
import Derived.Test.YtoohpdamndgdlaaPx20
import Derived.Test.YtoohpdamndgdlaaPx21
import Derived.Test.YtoohpdamndgdlaaPx16
set_option linter.unusedVariables false
set_option linter.unusedSimpArgs false
namespace Go.Proofs.Ytoohpdamndgdlaa.B
open Go.RowKit Go.Proofs.Ytoohpdamndgdlaa.P Go.Proofs.YtoohpdamndgdlaaW.PrintWords Go.Proofs.YtoohpdamndgdlaaW.PrintLast Go.Proofs.YtoohpdamndgdlaaW.PrintMore

/-! ### copied -/
theorem copied_l (l : List Int) (hl : l.length ≤ 140737488351232) : ∀ (d i : Nat), i + d = l.length → Ev (fun k => torrentlaw4_copied.l0 k l (l.take i) (i : Int)) l
  | 0, i, h => Ev.step (f := fun _ => some l) (fun k => by
      simp only [torrentlaw4_copied.l0]
      rw [if_neg (by omega), List.take_of_length_le (by omega)]) (Ev.now _)
  | d + 1, i, h => Ev.step (f := fun k => torrentlaw4_copied.l0 k l (l.take (i + 1)) ((i + 1 : Nat) : Int)) (fun k => by
      simp only [torrentlaw4_copied.l0]
      rw [if_pos (by omega), if_pos (by omega), if_pos (by rw [List.length_take]; omega), inc i (by omega), rd_nat, List.take_succ_eq_append_getElem (by omega)]
      congr 2
      rw [List.getD_eq_getElem?_getD, List.getElem?_eq_getElem (by omega)]
      rfl) (copied_l l hl d (i + 1) (by omega))
theorem copied_f (l : List Int) (hl : l.length ≤ 140737488351232) : Ev (fun k => torrentlaw4_copied.f k l) l := copied_l l hl l.length 0 (by omega)

/-! ### Check -/
theorem refSize_f (n : Nat) (h : n ≤ 65536) : torrentref4_size.f (n : Int) = some (((n + 7) / 8 : Nat) : Int) := by
  unfold torrentref4_size.f
  rw [rem8, quo8 n (by omega)]
  by_cases h0 : n % 8 = 0
  · rw [if_neg (by omega)]
    congr 1
    omega
  · rw [if_pos (by omega), inc _ (by omega)]
    congr 1
    omega
theorem spare_mask (x : Int) (hx : 0 ≤ x ∧ x < 256) (t : Nat) (h : t < 8) : Go.bits .and .u8 x (shr .u8 255 (t : Int)) = x % 2 ^ (8 - t) := by
  have e : shr .u8 255 (t : Int) = 2 ^ (8 - t) - 1 := by
    match t, h with
    | 0, _ | 1, _ | 2, _ | 3, _ | 4, _ | 5, _ | 6, _ | 7, _ => decide
  rw [e]
  exact bits_mask .u8 8 (by decide) wraps_u8 (8 - t) (by omega) x hx.1 (by omega)
theorem spare_ref (x : Int) (hx : 0 ≤ x ∧ x < 256) (t : Nat) (h : t < 8) (h0 : 0 < t) : wrap64 (2 * mk8 t) ≠ 0 ∧ Int.tmod (wrap64 x) (wrap64 (2 * mk8 t)) = x % 2 ^ (8 - t) := by
  have e : wrap64 (2 * mk8 t) = 2 ^ (8 - t) := by
    match t, h with
    | 0, _ | 1, _ | 2, _ | 3, _ | 4, _ | 5, _ | 6, _ | 7, _ => decide +kernel
  have ne : (2 : Int) ^ (8 - t) ≠ 0 := by
    match t, h with
    | 0, _ | 1, _ | 2, _ | 3, _ | 4, _ | 5, _ | 6, _ | 7, _ => decide
  rw [e, w64 x (by omega) (by omega), Int.tmod_eq_emod_of_nonneg hx.1]
  exact ⟨ne, rfl⟩
theorem check_both (n : Int) (l : List Int) (hx : IsB l) (hl : l.length ≤ 140737488351232) : ∃ c, Ev (fun k => bitset_Check.f k n l) c ∧ Ev (fun k => torrentref4_Check.f k n l) c := by
  by_cases hb : n < 0 ∨ 65536 < n
  · refine ⟨40, ?_, ?_⟩
    · refine Ev.congr (f := fun k => bitset_Check.j0 k n l true) (fun k => ?_) (Ev.step (f := fun _ => some 40) (fun k => by simp only [bitset_Check.j0]; rfl) (Ev.now _))
      unfold bitset_Check.f
      by_cases h0 : n < 0
      · rw [if_pos h0]
      · rw [if_neg h0, decide_eq_true (by omega)]
    · refine Ev.congr (f := fun k => torrentref4_Check.j0 k n l true) (fun k => ?_) (Ev.step (f := fun _ => some 40) (fun k => by simp only [torrentref4_Check.j0]; rfl) (Ev.now _))
      unfold torrentref4_Check.f
      by_cases h0 : n < 0
      · rw [if_pos h0]
      · rw [if_neg h0, decide_eq_true (by omega)]
  · obtain ⟨m, rfl⟩ : ∃ m : Nat, n = m := ⟨n.toNat, by omega⟩
    have hm : m ≤ 65536 := by omega
    have e1 : ∀ k, bitset_Check.f k (m : Int) l = bitset_Check.j0 k (m : Int) l false := fun k => by
      unfold bitset_Check.f
      rw [if_neg (by omega), decide_eq_false (by omega)]
    have e2 : ∀ k, torrentref4_Check.f k (m : Int) l = torrentref4_Check.j0 k (m : Int) l false := fun k => by
      unfold torrentref4_Check.f
      rw [if_neg (by omega), decide_eq_false (by omega)]
    by_cases hlen : l.length = (m + 7) / 8
    · by_cases h8 : m % 8 = 0
      · refine ⟨0, Ev.congr e1 (Ev.step (f := fun _ => some 0) (fun k => ?_) (Ev.now _)), Ev.congr e2 (Ev.step (f := fun _ => some 0) (fun k => ?_) (Ev.now _))⟩
        · simp only [bitset_Check.j0]
          rw [if_neg (by decide), size_f m hm]
          simp only [Option.bind_some]
          rw [if_pos (by omega), rem8, if_pos (by omega)]
        · simp only [torrentref4_Check.j0]
          rw [if_neg (by decide), refSize_f m hm]
          simp only [Option.bind_some]
          rw [if_pos (by omega), rem8, if_neg (by omega)]
      · have h88 := Nat.mod_lt m (show 8 > 0 by decide)
        have hxb := hx.getD (m / 8)
        have hs := spare_mask _ hxb (m % 8) h88
        obtain ⟨hr1, hr2⟩ := spare_ref _ hxb (m % 8) h88 (by omega)
        have eL : wrap64 ((l.length : Int) - 1) = ((m / 8 : Nat) : Int) := by rw [w64 _ (by omega) (by omega)]; omega
        refine ⟨if l.getD (m / 8) 0 % 2 ^ (8 - m % 8) = 0 then 0 else 42, Ev.congr e1 (Ev.step (f := fun _ => some (if l.getD (m / 8) 0 % 2 ^ (8 - m % 8) = 0 then 0 else 42)) (fun k => ?_) (Ev.now _)), Ev.congr e2 (Ev.step (f := fun k => (torrentref4_weight.f k (m : Int)).bind fun t => if wrap64 (2 * t) = 0 then none else if Int.tmod (wrap64 (l.getD (m / 8) 0)) (wrap64 (2 * t)) = 0 then some 0 else some 42) (fun k => ?_) (Ev.bind (weight_f m) ?_))⟩
        · simp only [bitset_Check.j0]
          rw [if_neg (by decide), size_f m hm]
          simp only [Option.bind_some]
          rw [if_pos (by omega), rem8, quo8 m (by omega), if_neg (by omega), if_pos (by omega), if_pos (by omega), if_pos (by omega), rd_nat, hs]
          split <;> rfl
        · simp only [torrentref4_Check.j0]
          rw [if_neg (by decide), refSize_f m hm]
          simp only [Option.bind_some]
          rw [if_pos (by omega), rem8, if_pos (by omega), eL, rd_nat, if_pos (by omega), if_pos (by omega)]
        · refine Ev.congr (f := fun _ => some (if l.getD (m / 8) 0 % 2 ^ (8 - m % 8) = 0 then 0 else 42)) (fun k => ?_) (Ev.now _)
          rw [if_neg hr1, hr2]
          split <;> rfl
    · refine ⟨41, Ev.congr e1 (Ev.step (f := fun _ => some 41) (fun k => ?_) (Ev.now _)), Ev.congr e2 (Ev.step (f := fun _ => some 41) (fun k => ?_) (Ev.now _))⟩
      · simp only [bitset_Check.j0]
        rw [if_neg (by decide), size_f m hm]
        simp only [Option.bind_some]
        rw [if_neg (by omega)]
      · simp only [torrentref4_Check.j0]
        rw [if_neg (by decide), refSize_f m hm]
        simp only [Option.bind_some]
        rw [if_neg (by omega)]
theorem check_ok {n : Int} {l : List Int} (h : Ev (fun k => bitset_Check.f k n l) 0) : ∃ m : Nat, n = m ∧ m ≤ 65536 ∧ l.length = (m + 7) / 8 := by
  obtain ⟨k, hk⟩ := h.rounds
  exact check_zero hk

/-! ### open -/
def bitsL (l : List Int) (j : Nat) : List Bool := (List.range j).map (gbit l)
theorem bitsL_succ (l : List Int) (j : Nat) : bitsL l (j + 1) = bitsL l j ++ [gbit l j] := by simp [bitsL, List.range_succ]
theorem bitsL_length (l : List Int) (j : Nat) : (bitsL l j).length = j := by simp [bitsL]
theorem bitsL_at (l : List Int) (j i : Nat) (h : i < j) : (bitsL l j).getD i false = gbit l i := by simp [bitsL, List.getD_eq_getElem?_getD, h]
theorem ref_bit (x : Int) (hx : 0 ≤ x ∧ x < 256) (t : Nat) (h : t < 8) : (Int.tmod (wrap64 (Int.tdiv (wrap64 x) (mk8 t))) 2 == 1) = x.toNat.testBit (7 - t) := by
  obtain ⟨a, rfl⟩ : ∃ a : Nat, x = a := ⟨x.toNat, by omega⟩
  have e1 : Int.tdiv (a : Int) (mk8 t) = ((a / 2 ^ (7 - t) : Nat) : Int) := by
    unfold mk8
    rw [Int.tdiv_eq_ediv_of_nonneg (by omega)]
    exact (Int.natCast_ediv a (2 ^ (7 - t))).symm
  have hle : a / 2 ^ (7 - t) ≤ a := Nat.div_le_self _ _
  rw [w64 (a : Int) (by omega) (by omega), e1, Int.toNat_natCast, Nat.testBit_eq_decide_div_mod_eq]
  generalize a / 2 ^ (7 - t) = d at *
  rw [w64 (d : Int) (by omega) (by omega), Int.tmod_eq_emod_of_nonneg (by omega)]
  have e2 : ((d : Int) % 2 = 1) ↔ (d % 2 = 1) := by omega
  rw [Bool.eq_iff_iff]
  simp only [beq_iff_eq, decide_eq_true_eq]
  exact e2
theorem open_l (l : List Int) (hx : IsB l) (hl : l.length ≤ 8192) : ∀ (d i : Nat), i + d = 8 * l.length → Ev (fun k => torrentref4_open.l0 k l (bitsL l i) (i : Int)) (bitsL l (8 * l.length))
  | 0, i, h => Ev.step (f := fun _ => some (bitsL l (8 * l.length))) (fun k => by
      simp only [torrentref4_open.l0]
      rw [w64 _ (by omega) (by omega), if_neg (by omega), show i = 8 * l.length by omega]) (Ev.now _)
  | d + 1, i, h => Ev.step (f := fun k => (torrentref4_weight.f k (i : Int)).bind fun t => if t = 0 then none else if (bitsL l i).length < 140737488355328 then torrentref4_open.l0 k l (bitsL l i ++ [((Int.tmod (wrap64 (Int.tdiv (wrap64 (l.getD (i / 8) 0)) t)) 2) == 1)]) ((i + 1 : Nat) : Int) else none) (fun k => by
      simp only [torrentref4_open.l0]
      rw [w64 (8 * (l.length : Int)) (by omega) (by omega), if_pos (by omega), quo8 i (by omega), rd_nat, if_pos (by omega), if_pos (by omega), inc i (by omega)]) (by
      refine Ev.bind (weight_f i) (Ev.congr (f := fun k => torrentref4_open.l0 k l (bitsL l (i + 1)) ((i + 1 : Nat) : Int)) (fun k => ?_) (open_l l hx hl d (i + 1) (by omega)))
      have h8 := Nat.mod_lt i (show 8 > 0 by decide)
      have hne : mk8 (i % 8) ≠ 0 := by
        unfold mk8
        have := Nat.two_pow_pos (7 - i % 8)
        omega
      rw [if_neg hne, if_pos (by rw [bitsL_length]; omega), ref_bit _ (hx.getD _) _ h8, bitsL_succ]
      rfl)
theorem open_f (l : List Int) (hx : IsB l) (hl : l.length ≤ 8192) : Ev (fun k => torrentref4_open.f k l) (bitsL l (8 * l.length)) := open_l l hx hl (8 * l.length) 0 (by omega)
end Go.Proofs.Ytoohpdamndgdlaa.B
