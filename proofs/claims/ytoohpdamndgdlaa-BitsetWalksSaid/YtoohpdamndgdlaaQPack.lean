/- What the reference's weight and pack and the law's sameBytes, sameInts answer, told in plain words. Condition of pack: at most 65536 bits. -/
import Derived.Test.YtoohpdamndgdlaaBits
import Derived.Test.YtoohpdamndgdlaaPx4
import Derived.Test.YtoohpdamndgdlaaPx5
import Derived.Test.YtoohpdamndgdlaaPx7
set_option linter.unusedVariables false
set_option linter.unusedSimpArgs false
namespace Go.Proofs.Ytoohpdamndgdlaa.B
open Go.RowKit Go.Proofs.Ytoohpdamndgdlaa.P Go.Proofs.YtoohpdamndgdlaaW.PrintWords Go.Proofs.YtoohpdamndgdlaaW.PrintLast Go.Proofs.YtoohpdamndgdlaaW.PrintMore

/-! ### weight -/
theorem weight_l (i : Nat) : ∀ (d j : Nat), j + d = i % 8 → Ev (fun k => torrentref4_weight.l0 k (i : Int) (2 ^ (7 - j) : Nat) (j : Int)) (mk8 (i % 8))
  | 0, j, h => Ev.step (f := fun _ => some (mk8 (i % 8))) (fun k => by
      simp only [torrentref4_weight.l0]
      rw [rem8, if_neg (by omega), ← h]
      rfl) (Ev.now _)
  | d + 1, j, h => Ev.step (f := fun k => torrentref4_weight.l0 k (i : Int) (2 ^ (7 - (j + 1)) : Nat) ((j + 1 : Nat) : Int)) (fun k => by
      simp only [torrentref4_weight.l0]
      have h8 := Nat.mod_lt i (show 8 > 0 by decide)
      have e : wrap64 (Int.tdiv ((2 ^ (7 - j) : Nat) : Int) 2) = ((2 ^ (7 - (j + 1)) : Nat) : Int) := by
        have h7 : j < 7 := by omega
        match j, h7 with
        | 0, _ | 1, _ | 2, _ | 3, _ | 4, _ | 5, _ | 6, _ => decide +kernel
      rw [rem8, if_pos (by omega), e, inc j (by omega)]) (weight_l i d (j + 1) (by omega))
theorem weight_f (i : Nat) : Ev (fun k => torrentref4_weight.f k (i : Int)) (mk8 (i % 8)) := weight_l i (i % 8) 0 (by omega)

/-! ### pack -/
theorem rdOf_nat (l : List Bool) (i : Nat) : rdOf false l (i : Int) = l.getD i false := by unfold rdOf; rw [Int.toNat_natCast]
theorem pack_step (l : List Bool) (xs : List Int) (i : Nat) (hi : i < l.length) (hl : l.length ≤ 65536) (hx : IsB xs) (hlen : xs.length = (i + 7) / 8) (hb : ∀ j, j < 8 * xs.length → gbit xs j = (decide (j < i) && l.getD j false)) (r : List Int)
    (go : ∀ ys : List Int, IsB ys → ys.length = (i + 8) / 8 → (∀ j, j < 8 * ys.length → gbit ys j = (decide (j < i + 1) && l.getD j false)) → Ev (fun k => torrentref4_pack.l0 k l ys ((i + 1 : Nat) : Int)) r) :
    Ev (fun k => torrentref4_pack.l0 k l xs (i : Int)) r := by
  have hq : wrap64 (Int.tdiv (i : Int) 8) = ((i / 8 : Nat) : Int) := quo8 i (by omega)
  have hinc : wrap64 ((i : Int) + 1) = ((i + 1 : Nat) : Int) := inc i (by omega)
  -- what follows once the row is long enough
  have rest : ∀ ys : List Int, IsB ys → ys.length = (i + 8) / 8 → (∀ j, j < 8 * ys.length → gbit ys j = (decide (j < i) && l.getD j false)) →
      Ev (fun k => if l.getD i false = true then (torrentref4_weight.f k (i : Int)).bind fun t => torrentref4_pack.l0 k l (ys.set (i / 8) ((ys.getD (i / 8) 0 + t % 256) % 256)) ((i + 1 : Nat) : Int) else torrentref4_pack.l0 k l ys ((i + 1 : Nat) : Int)) r := by
    intro ys hy hyl hyb
    by_cases hon : l.getD i false = true
    · refine Ev.congr (fun k => if_pos hon) ?_
      refine Ev.bind (weight_f i) ?_
      have h8 := Nat.mod_lt i (show 8 > 0 by decide)
      have h0 : gbit ys i = false := by
        rw [hyb i (by omega)]
        simp
      rw [add_mask _ (hy.getD _) (i % 8) h8 h0]
      refine go (put1 ys i) (put1_isB hy i) (by rw [put1_length]; exact hyl) (fun j hj => ?_)
      rw [put1_length] at hj
      rw [put1_bit hy i j (by omega), hyb j hj]
      by_cases hji : j = i
      · subst hji; rw [hon]; simp
      · by_cases hlt : j < i
        · simp [hji, hlt, show j < i + 1 by omega]
        · simp [hji, hlt, show ¬ j < i + 1 by omega]
    · refine Ev.congr (fun k => if_neg hon) ?_
      refine go ys hy hyl (fun j hj => ?_)
      rw [hyb j hj]
      by_cases hji : j = i
      · subst hji; rw [Bool.eq_false_iff.mpr hon]; simp
      · by_cases hlt : j < i
        · simp [hlt, show j < i + 1 by omega]
        · simp [hlt, show ¬ j < i + 1 by omega]
  by_cases h8 : i % 8 = 0
  · refine Ev.step (f := fun k => if l.getD i false = true then (torrentref4_weight.f k (i : Int)).bind fun t => torrentref4_pack.l0 k l ((xs ++ [0]).set (i / 8) (((xs ++ [0]).getD (i / 8) 0 + t % 256) % 256)) ((i + 1 : Nat) : Int) else torrentref4_pack.l0 k l (xs ++ [0]) ((i + 1 : Nat) : Int)) (fun k => ?_) ?_
    · simp only [torrentref4_pack.l0]
      rw [if_pos (by omega), rem8, if_pos (by omega), if_pos (by omega)]
      simp only [Option.bind_some]
      have g1 : (0 : Int) ≤ ((i / 8 : Nat) : Int) := by omega
      have g2 : ((i / 8 : Nat) : Int) < (((xs ++ [0]).length : Nat) : Int) := by simp; omega
      rw [if_pos (by omega), rdOf_nat, hq, rd_nat, hinc, if_pos g1, if_pos g2, Int.toNat_natCast]
    · refine rest (xs ++ [0]) (hx.append (fun x h => by simp at h; subst h; decide)) (by simp; omega) (fun j hj => ?_)
      rw [gbit_append_zero]
      by_cases hj2 : j < 8 * xs.length
      · exact hb j hj2
      · rw [gbit_beyond _ _ (by omega)]
        simp [show ¬ j < i by omega]
  · refine Ev.step (f := fun k => if l.getD i false = true then (torrentref4_weight.f k (i : Int)).bind fun t => torrentref4_pack.l0 k l (xs.set (i / 8) ((xs.getD (i / 8) 0 + t % 256) % 256)) ((i + 1 : Nat) : Int) else torrentref4_pack.l0 k l xs ((i + 1 : Nat) : Int)) (fun k => ?_) ?_
    · simp only [torrentref4_pack.l0]
      rw [if_pos (by omega), rem8, if_neg (by omega)]
      have g1 : (0 : Int) ≤ ((i / 8 : Nat) : Int) := by omega
      have g2 : ((i / 8 : Nat) : Int) < ((xs.length : Nat) : Int) := by omega
      rw [if_pos (by omega), rdOf_nat, hq, rd_nat, hinc, if_pos g1, if_pos g2, Int.toNat_natCast]
    · exact rest xs hx (by omega) hb
theorem pack_l (l : List Bool) (hl : l.length ≤ 65536) : ∀ (d i : Nat) (xs : List Int), i + d = l.length → IsB xs → xs.length = (i + 7) / 8 → (∀ j, j < 8 * xs.length → gbit xs j = (decide (j < i) && l.getD j false)) →
    ∃ r, Ev (fun k => torrentref4_pack.l0 k l xs (i : Int)) r ∧ Packed (fun j => l.getD j false) l.length r
  | 0, i, xs, hd, hx, hlen, hb => by
    obtain rfl : i = l.length := by omega
    refine ⟨xs, Ev.step (f := fun _ => some xs) (fun k => ?_) (Ev.now _), hlen, hx, hb⟩
    simp only [torrentref4_pack.l0]
    rw [if_neg (by omega)]
  | d + 1, i, xs, hd, hx, hlen, hb => by
    have key : ∃ ys : List Int, IsB ys ∧ ys.length = (i + 8) / 8 ∧ (∀ j, j < 8 * ys.length → gbit ys j = (decide (j < i + 1) && l.getD j false)) := by
      have h8 : (i + 8) / 8 = (i + 7) / 8 ∨ (i + 8) / 8 = (i + 7) / 8 + 1 ∧ i % 8 = 0 := by omega
      have base : ∃ zs : List Int, IsB zs ∧ zs.length = (i + 8) / 8 ∧ (∀ j, j < 8 * zs.length → gbit zs j = (decide (j < i) && l.getD j false)) := by
        rcases h8 with h8 | ⟨h8, h9⟩
        · exact ⟨xs, hx, by omega, hb⟩
        · refine ⟨xs ++ [0], hx.append (fun x h => by simp at h; subst h; decide), by simp; omega, fun j hj => ?_⟩
          rw [gbit_append_zero]
          by_cases hj2 : j < 8 * xs.length
          · exact hb j hj2
          · rw [gbit_beyond _ _ (by omega)]
            simp [show ¬ j < i by omega]
      obtain ⟨zs, hz, hzl, hzb⟩ := base
      by_cases hon : l.getD i false = true
      · refine ⟨put1 zs i, put1_isB hz i, by rw [put1_length]; exact hzl, fun j hj => ?_⟩
        rw [put1_length] at hj
        rw [put1_bit hz i j (by omega), hzb j hj]
        by_cases hji : j = i
        · subst hji; rw [hon]; simp
        · by_cases hlt : j < i
          · simp [hji, hlt, show j < i + 1 by omega]
          · simp [hji, hlt, show ¬ j < i + 1 by omega]
      · refine ⟨zs, hz, hzl, fun j hj => ?_⟩
        rw [hzb j hj]
        by_cases hji : j = i
        · subst hji; rw [Bool.eq_false_iff.mpr hon]; simp
        · by_cases hlt : j < i
          · simp [hlt, show j < i + 1 by omega]
          · simp [hlt, show ¬ j < i + 1 by omega]
    obtain ⟨ys, hy, hyl, hyb⟩ := key
    obtain ⟨r, hr, hp⟩ := pack_l l hl d (i + 1) ys (by omega) hy (by omega) hyb
    refine ⟨r, pack_step l xs i (by omega) hl hx hlen hb r fun zs hz hzl hzb => ?_, hp⟩
    have : zs = ys := gbit_ext (by omega) hz hy fun j hj => by rw [hzb j hj, hyb j (by omega)]
    rw [this]
    exact hr
theorem pack_f (l : List Bool) (hl : l.length ≤ 65536) : ∃ r, Ev (fun k => torrentref4_pack.f k l) r ∧ Packed (fun j => l.getD j false) l.length r :=
  pack_l l hl l.length 0 [] (by omega) IsB.nil rfl (fun j hj => by simp at hj)

/-! ### sameBytes -/
theorem sameBytes_l (l : List Int) (hl : l.length ≤ 9223372036854775807) : ∀ (d i : Nat), i + d = l.length → Ev (fun k => torrentlaw4_sameBytes.l0 k l l (i : Int)) true
  | 0, i, h => Ev.step (f := fun _ => some true) (fun k => by
      simp only [torrentlaw4_sameBytes.l0]
      rw [if_neg (by omega)]) (Ev.now _)
  | d + 1, i, h => Ev.step (f := fun k => torrentlaw4_sameBytes.l0 k l l ((i + 1 : Nat) : Int)) (fun k => by
      simp only [torrentlaw4_sameBytes.l0]
      rw [if_pos (by omega), if_pos (by omega), if_pos (by omega), if_pos trivial, inc i (by omega)]) (sameBytes_l l hl d (i + 1) (by omega))
theorem sameBytes_f (l : List Int) (hl : l.length ≤ 9223372036854775807) : Ev (fun k => torrentlaw4_sameBytes.f k l l) true := by
  unfold torrentlaw4_sameBytes.f
  refine Ev.congr (fun k => if_pos rfl) ?_
  exact sameBytes_l l hl l.length 0 (by omega)
end Go.Proofs.Ytoohpdamndgdlaa.B
