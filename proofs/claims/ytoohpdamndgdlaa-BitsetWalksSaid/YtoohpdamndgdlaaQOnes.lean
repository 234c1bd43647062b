/- Ones and Count, the program's and the reference's, in plain words: the same answers. Condition: bytes. -/
import Derived.Test.YtoohpdamndgdlaaQOpen
import Derived.Test.YtoohpdamndgdlaaPx38
import Derived.Test.YtoohpdamndgdlaaPx36
import Derived.Test.YtoohpdamndgdlaaPx35
import Derived.Test.YtoohpdamndgdlaaPx37
import Derived.Test.YtoohpdamndgdlaaPx14
set_option linter.unusedVariables false
set_option linter.unusedSimpArgs false
namespace Go.Proofs.Ytoohpdamndgdlaa.B
open Go.RowKit Go.Proofs.Ytoohpdamndgdlaa.P Go.Proofs.YtoohpdamndgdlaaW.PrintWords Go.Proofs.YtoohpdamndgdlaaW.PrintLast Go.Proofs.YtoohpdamndgdlaaW.PrintMore
theorem sameI_l (l : List Int) (hl : l.length ≤ 9223372036854775807) : ∀ (d i : Nat), i + d = l.length → Ev (fun k => torrentlaw4_sameInts.l0 k l l (i : Int)) true
  | 0, i, h => Ev.step (f := fun _ => some true) (fun k => by
      simp only [torrentlaw4_sameInts.l0]
      rw [if_neg (by omega)]) (Ev.now _)
  | d + 1, i, h => Ev.step (f := fun k => torrentlaw4_sameInts.l0 k l l ((i + 1 : Nat) : Int)) (fun k => by
      simp only [torrentlaw4_sameInts.l0]
      rw [if_pos (by omega), if_pos (by omega), if_pos (by omega), if_pos trivial, inc i (by omega)]) (sameI_l l hl d (i + 1) (by omega))
theorem sameI_f (l : List Int) (hl : l.length ≤ 9223372036854775807) : Ev (fun k => torrentlaw4_sameInts.f k l l) true := by
  unfold torrentlaw4_sameInts.f
  refine Ev.congr (fun k => if_pos rfl) ?_
  exact sameI_l l hl l.length 0 (by omega)

def onesL (l : List Int) (j : Nat) : List Int := ((List.range j).filter (gbit l)).map (fun (i : Nat) => (i : Int))
theorem onesL_succ (l : List Int) (j : Nat) : onesL l (j + 1) = if gbit l j then onesL l j ++ [(j : Int)] else onesL l j := by
  unfold onesL
  rw [List.range_succ, List.filter_append, List.map_append]
  cases h : gbit l j <;> simp [h]
theorem onesL_le (l : List Int) (j : Nat) : (onesL l j).length ≤ j := by
  unfold onesL
  rw [List.length_map]
  exact Nat.le_trans (List.length_filter_le _ _) (by simp)
theorem mask_zero (l : List Int) (hx : IsB l) (i : Nat) (hi : i ≤ 65536) : ((Go.bits .and .u8 (rd l (wrap64 (Int.tdiv (i : Int) 8))) (shr .u8 128 (Int.tmod (i : Int) 8))) = 0) = (gbit l i = false) := propext (get_mask l hx i hi)
theorem ones_l (m : Nat) (hm : m ≤ 65536) (l : List Int) (hx : IsB l) (hl : l.length = (m + 7) / 8) : ∀ (d i : Nat), i + d = m → Ev (fun k => bitset_Ones.l0 k (m : Int) l (onesL l i) (i : Int)) (onesL l m, 0)
  | 0, i, h => Ev.step (f := fun _ => some (onesL l m, 0)) (fun k => by
      simp only [bitset_Ones.l0]
      rw [if_neg (by omega), show i = m by omega]) (Ev.now _)
  | d + 1, i, h => by
    obtain ⟨g1, g2, g3⟩ := tests_in l i (by omega) (by omega)
    have hle := onesL_le l i
    refine Ev.step (f := fun k => bitset_Ones.l0 k (m : Int) l (onesL l (i + 1)) ((i + 1 : Nat) : Int)) (fun k => ?_) (ones_l m hm l hx hl d (i + 1) (by omega))
    simp only [bitset_Ones.l0]
    rw [if_pos (by omega), if_pos g1, if_pos g2, if_pos g3, inc i (by omega), onesL_succ]
    simp only [mask_zero l hx i (by omega)]
    cases hb : gbit l i with
    | false => rw [if_pos rfl]; rfl
    | true => rw [if_neg (by decide), if_pos (by omega)]; rfl
theorem refOnes_l (m : Nat) (hm : m ≤ 65536) (l : List Int) (hl : l.length = (m + 7) / 8) : ∀ (d i : Nat), i + d = m → Ev (fun k => torrentref4_Ones.l0 k (m : Int) (bitsL l (8 * l.length)) (onesL l i) (i : Int)) (onesL l m, 0)
  | 0, i, h => Ev.step (f := fun _ => some (onesL l m, 0)) (fun k => by
      simp only [torrentref4_Ones.l0]
      rw [if_neg (by omega), show i = m by omega]) (Ev.now _)
  | d + 1, i, h => by
    have hle := onesL_le l i
    refine Ev.step (f := fun k => torrentref4_Ones.l0 k (m : Int) (bitsL l (8 * l.length)) (onesL l (i + 1)) ((i + 1 : Nat) : Int)) (fun k => ?_) (refOnes_l m hm l hl d (i + 1) (by omega))
    simp only [torrentref4_Ones.l0]
    rw [if_pos (by omega), if_pos (by omega), if_pos (by rw [bitsL_length]; omega), rdOf_nat, bitsL_at l _ i (by omega), inc i (by omega), onesL_succ]
    cases hb : gbit l i with
    | false => rw [if_neg (by decide)]; rfl
    | true => rw [if_pos rfl, if_pos (by omega)]; rfl
theorem count_l (m : Nat) (hm : m ≤ 65536) (l : List Int) (hx : IsB l) (hl : l.length = (m + 7) / 8) : ∀ (d i : Nat), i + d = m → Ev (fun k => bitset_Count.l0 k (m : Int) l ((onesL l i).length : Int) (i : Int)) (((onesL l m).length : Int), 0)
  | 0, i, h => Ev.step (f := fun _ => some (((onesL l m).length : Int), 0)) (fun k => by
      simp only [bitset_Count.l0]
      rw [if_neg (by omega), show i = m by omega]) (Ev.now _)
  | d + 1, i, h => by
    obtain ⟨g1, g2, g3⟩ := tests_in l i (by omega) (by omega)
    have hle := onesL_le l i
    refine Ev.step (f := fun k => bitset_Count.l0 k (m : Int) l ((onesL l (i + 1)).length : Int) ((i + 1 : Nat) : Int)) (fun k => ?_) (count_l m hm l hx hl d (i + 1) (by omega))
    simp only [bitset_Count.l0]
    rw [if_pos (by omega), if_pos g1, if_pos g2, if_pos g3, inc i (by omega), inc (onesL l i).length (by omega), onesL_succ]
    simp only [mask_zero l hx i (by omega)]
    cases hb : gbit l i with
    | false => rw [if_pos rfl]; rfl
    | true => rw [if_neg (by decide), if_pos rfl, List.length_append]; rfl
/-- What the two Ones and the two Counts answer. -/
theorem ones_same (n : Int) (l : List Int) (hx : IsB l) (hl : l.length ≤ 140737488351232) : ∃ r e, Ev (fun k => bitset_Ones.f k n l) (r, e) ∧ Ev (fun k => torrentref4_Ones.f k n l) (r, e) ∧ Ev (fun k => bitset_Count.f k n l) ((r.length : Int), e) ∧ Ev (fun k => torrentref4_Count.f k n l) ((r.length : Int), e) ∧ r.length ≤ 65536 := by
  obtain ⟨c, hc, hd⟩ := check_both n l hx hl
  by_cases h0 : c = 0
  · subst h0
    obtain ⟨m, rfl, hm, hlen⟩ := check_ok hc
    have hle := onesL_le l m
    have h2 : Ev (fun k => torrentref4_Ones.f k (m : Int) l) (onesL l m, 0) := Ev.bind hd (Ev.congr (fun k => if_pos rfl) (Ev.bind (open_f l hx (by omega)) (refOnes_l m hm l hlen m 0 (by omega))))
    exact ⟨onesL l m, 0, Ev.bind hc (Ev.congr (fun k => if_pos rfl) (ones_l m hm l hx hlen m 0 (by omega))), h2,
      Ev.bind hc (Ev.congr (fun k => if_pos rfl) (count_l m hm l hx hlen m 0 (by omega))), Ev.bind h2 (Ev.now _), by omega⟩
  · have h2 : Ev (fun k => torrentref4_Ones.f k n l) (([] : List Int), c) := Ev.bind hd (Ev.congr (fun k => if_neg h0) (Ev.now _))
    exact ⟨[], c, Ev.bind hc (Ev.congr (fun k => if_neg h0) (Ev.now _)), h2, Ev.bind hc (Ev.congr (fun k => if_neg h0) (Ev.now _)), Ev.bind h2 (Ev.now _), by simp⟩
end Go.Proofs.Ytoohpdamndgdlaa.B
