-- Merged by a program of this session out of the texts QAlgBase, Px12, HOnes, Px38, HRound, HRuns, Px25, Px18, Px1, Px27, Px14 of this claim's own.
import Derived.Test.YtoohpdamndgdlaaZBitsetKept1
import Derived.RangeFuncWrites
import Derived.RangeFuncBox
import Derived.Maps.AppendAt
import Derived.Sort.QuietThIn
import Derived.Sort.BigQuietIn
import Derived.Laws.OwnMore
import Derived.Shelf.RegionOpen
import Derived.Outline
import Derived.WalkSmall

/- What the law Algebra needs of the plain law (told out of the Q texts by a program). Conditions: bytes. -/
set_option linter.unusedVariables false
set_option linter.unusedSimpArgs false
namespace Go.Proofs.Ytoohpdamndgdlaa.B
open Go.RowKit Go.Proofs.Ytoohpdamndgdlaa.P Go.Proofs.YtoohpdamndgdlaaW.PrintWords Go.Proofs.YtoohpdamndgdlaaW.PrintLast Go.Proofs.YtoohpdamndgdlaaW.PrintMore
theorem spare_mask (x : Int) (hx : 0 ≤ x ∧ x < 256) (t : Nat) (h : t < 8) : Go.bits .and .u8 x (shr .u8 255 (t : Int)) = x % 2 ^ (8 - t) := by
  have e : shr .u8 255 (t : Int) = 2 ^ (8 - t) - 1 := by
    match t, h with
    | 0, _ | 1, _ | 2, _ | 3, _ | 4, _ | 5, _ | 6, _ | 7, _ => decide
  rw [e]
  exact bits_mask .u8 8 (by decide) wraps_u8 (8 - t) (by omega) x hx.1 (by omega)
theorem check_ok {n : Int} {l : List Int} (h : Ev (fun k => bitset_Check.f k n l) 0) : ∃ m : Nat, n = m ∧ m ≤ 65536 ∧ l.length = (m + 7) / 8 := by
  obtain ⟨k, hk⟩ := h.rounds
  exact check_zero hk
def onesL (l : List Int) (j : Nat) : List Int := ((List.range j).filter (gbit l)).map (fun (i : Nat) => (i : Int))
theorem onesL_succ (l : List Int) (j : Nat) : onesL l (j + 1) = if gbit l j then onesL l j ++ [(j : Int)] else onesL l j := by
  unfold onesL
  rw [List.range_succ, List.filter_append, List.map_append]
  cases h : gbit l j <;> simp [h]
theorem onesL_le (l : List Int) (j : Nat) : (onesL l j).length ≤ j := by
  unfold onesL
  rw [List.length_map]
  exact Nat.le_trans (List.length_filter_le _ _) (by simp)
theorem mask_zero (l : List Int) (hx : IsB l) (i : Nat) (hi : i ≤ 65536) : ((Go.bits .and .u8 (rd l (wrap64 (Int.tdiv (i : Int) 8))) (shr .u8 128 (Int.tmod (i : Int) 8))) = 0) = (gbit l i = false) := propext (get_mask l hx i hi)
theorem count_l (m : Nat) (hm : m ≤ 65536) (l : List Int) (hx : IsB l) (hl : l.length = (m + 7) / 8) : ∀ (d i : Nat), i + d = m → Ev (fun k => bitset_Count.l0 k (m : Int) l ((onesL l i).length : Int) (i : Int)) (((onesL l m).length : Int), 0)
  | 0, i, h => Ev.step (f := fun _ => some (((onesL l m).length : Int), 0)) (fun k => by
      simp only [bitset_Count.l0]
      rw [if_neg (by omega), show i = m by omega]) (Ev.now _)
  | d + 1, i, h => by
    obtain ⟨g1, g2, g3⟩ := tests_in l i (by omega) (by omega)
    have hle := onesL_le l i
    refine Ev.step (f := fun k => bitset_Count.l0 k (m : Int) l ((onesL l (i + 1)).length : Int) ((i + 1 : Nat) : Int)) (fun k => ?_) (count_l m hm l hx hl d (i + 1) (by omega))
    simp only [bitset_Count.l0]
    rw [if_pos (by omega), if_pos g1, if_pos g2, if_pos g3, inc i (by omega), inc (onesL l i).length (by omega), onesL_succ]
    simp only [mask_zero l hx i (by omega)]
    cases hb : gbit l i with
    | false => rw [if_pos rfl]; rfl
    | true => rw [if_neg (by decide), if_pos rfl, List.length_append]; rfl
/-- No spare bit is set, where Check is content. -/
theorem spare_none {m : Nat} {l : List Int} (hx : IsB l) (hl : l.length ≤ 140737488351232) (h : Ev (fun k => bitset_Check.f k (m : Int) l) 0) (i : Nat) (h1 : m ≤ i) (h2 : i < 8 * l.length) : gbit l i = false := by
  obtain ⟨m', e, hm, hlen⟩ := check_ok h
  obtain rfl : m = m' := by omega
  have h8 : m % 8 ≠ 0 := by omega
  have h88 := Nat.mod_lt m (show 8 > 0 by decide)
  have hxb := hx.getD (m / 8)
  have hs := spare_mask _ hxb (m % 8) h88
  have e1 : ∀ k, bitset_Check.f k (m : Int) l = bitset_Check.j0 k (m : Int) l false := fun k => by
    unfold bitset_Check.f
    rw [if_neg (by omega), decide_eq_false (by omega)]
  obtain ⟨K, hK⟩ := h
  have := hK (K + 1) (by omega)
  simp only [e1, bitset_Check.j0] at this
  rw [if_neg (by decide), size_f m hm] at this
  simp only [Option.bind_some] at this
  rw [if_pos (by omega), rem8, quo8 m (by omega), if_neg (by omega), if_pos (by omega), if_pos (by omega), if_pos (by omega), rd_nat, hs] at this
  have hz : l.getD (m / 8) 0 % 2 ^ (8 - m % 8) = 0 := by
    by_cases hz : l.getD (m / 8) 0 % 2 ^ (8 - m % 8) = 0
    · exact hz
    · rw [if_neg hz] at this
      simp at this
  unfold gbit
  rw [show i / 8 = m / 8 by omega]
  obtain ⟨a, ha⟩ : ∃ a : Nat, l.getD (m / 8) 0 = a := ⟨(l.getD (m / 8) 0).toNat, by omega⟩
  rw [ha] at hz ⊢
  rw [Int.toNat_natCast]
  have hz2 : a % 2 ^ (8 - m % 8) = 0 := by exact_mod_cast hz
  have := Nat.testBit_mod_two_pow a (8 - m % 8) (7 - i % 8)
  rw [hz2, Nat.zero_testBit] at this
  have hlt : 7 - i % 8 < 8 - m % 8 := by omega
  simpa [hlt] using this.symm
/-- A bitfield that Check takes is packed. -/
theorem packed_of_check {m : Nat} {l : List Int} (hx : IsB l) (hl : l.length ≤ 140737488351232) (h : Ev (fun k => bitset_Check.f k (m : Int) l) 0) : Packed (gbit l) m l := by
  obtain ⟨m', e, hm, hlen⟩ := check_ok h
  obtain rfl : m = m' := by omega
  refine ⟨hlen, hx, fun i hi => ?_⟩
  by_cases h1 : i < m
  · simp [h1]
  · rw [spare_none hx hl h i (by omega) hi]
    simp
/-- Does the place j stand among these? -/
def among (l : List Int) (j : Nat) : Bool := l.any fun x => decide (x = (j : Int))
theorem among_take_succ (l : List Int) (i j : Nat) (hi : i < l.length) : among (l.take (i + 1)) j = (among (l.take i) j || decide (l.getD i 0 = (j : Int))) := by
  unfold among
  rw [List.take_succ_eq_append_getElem hi, List.any_append]
  simp [List.getD_eq_getElem?_getD, List.getElem?_eq_getElem hi]
theorem count_is {m : Nat} {l : List Int} (hx : IsB l) (hc : Ev (fun k => bitset_Check.f k (m : Int) l) 0) : Ev (fun k => bitset_Count.f k (m : Int) l) (((onesL l m).length : Int), 0) := by
  obtain ⟨m', e, hm, hlen⟩ := check_ok hc
  obtain rfl : m = m' := by omega
  exact Ev.bind hc (Ev.congr (fun k => if_pos rfl) (count_l m hm l hx hlen m 0 (by omega)))
theorem qfull_l (n : Nat) (hn : n ≤ 65536) : ∀ (d i : Nat) (xs : List Int), i + d = n → IsB xs → xs.length = (n + 7) / 8 → (∀ j, j < 8 * xs.length → gbit xs j = decide (j < i)) →
    ∃ r, Ev (fun k => bitset_Full.l0 k xs (n : Int) (i : Int)) (r, 0) ∧ Packed (fun _ => true) n r
  | 0, i, xs, hd, hx, hl, hb => by
    obtain rfl : i = n := by omega
    refine ⟨xs, Ev.step (f := fun _ => some (xs, 0)) (fun k => ?_) (Ev.now _), hl, hx, fun j hj => by rw [hb j hj]; simp⟩
    simp only [bitset_Full.l0]
    rw [if_neg (by omega)]
  | d + 1, i, xs, hd, hx, hl, hb => by
    obtain ⟨r, hr, hp⟩ := qfull_l n hn d (i + 1) (put1 xs i) (by omega) (put1_isB hx i) (by rw [put1_length]; exact hl) (fun j hj => by
      rw [put1_length] at hj
      rw [put1_bit hx i j (by omega), hb j hj]
      by_cases h : j = i
      · subst h; simp
      · by_cases h2 : j < i
        · simp [h, h2, show j < i + 1 by omega]
        · simp [h, h2, show ¬ j < i + 1 by omega])
    refine ⟨r, Ev.step (f := fun k => bitset_Full.l0 k (put1 xs i) (n : Int) ((i + 1 : Nat) : Int)) (fun k => ?_) hr, hp⟩
    obtain ⟨g1, g2, g3⟩ := tests_in xs i (by omega) (by omega)
    simp only [bitset_Full.l0]
    rw [if_pos (by omega), if_pos g1, if_pos g2, if_pos g3, set_mask xs i (by omega), inc i (by omega)]
theorem qfull_ok (n : Nat) (h : n ≤ 65536) : ∃ r, Ev (fun k => bitset_Full.f k (n : Int)) (r, 0) ∧ Packed (fun _ => true) n r := by
  obtain ⟨r, hr, hp⟩ := qfull_l n h n 0 (List.replicate ((n + 7) / 8) 0) (by omega) (IsB.replicate _) (by simp) (fun j hj => by rw [gbit_replicate]; simp)
  refine ⟨r, Ev.congr (fun k => ?_) hr, hp⟩
  unfold bitset_Full.f
  rw [make_ok n h]
  simp only [Option.bind_some]
  rw [if_pos trivial]
  rfl
/-- A packed bitfield passes Check. -/
theorem check_packed {p : Nat → Bool} {m : Nat} {l : List Int} (hm : m ≤ 65536) (hp : Packed p m l) : Ev (fun k => bitset_Check.f k (m : Int) l) 0 := by
  have hlen := hp.len
  have hx := hp.isB
  have e1 : ∀ k, bitset_Check.f k (m : Int) l = bitset_Check.j0 k (m : Int) l false := fun k => by
    unfold bitset_Check.f
    rw [if_neg (by omega), decide_eq_false (by omega)]
  refine Ev.congr e1 (Ev.step (f := fun _ => some 0) (fun k => ?_) (Ev.now _))
  simp only [bitset_Check.j0]
  rw [if_neg (by decide), size_f m hm]
  simp only [Option.bind_some]
  rw [if_pos (by omega), rem8]
  by_cases h8 : m % 8 = 0
  · rw [if_pos (by omega)]
  · have h88 := Nat.mod_lt m (show 8 > 0 by decide)
    have hxb := hx.getD (m / 8)
    rw [quo8 m (by omega), if_neg (by omega), if_pos (by omega), if_pos (by omega), if_pos (by omega), rd_nat, spare_mask _ hxb (m % 8) h88]
    have hz : l.getD (m / 8) 0 % 2 ^ (8 - m % 8) = 0 := by
      obtain ⟨a, ha⟩ : ∃ a : Nat, l.getD (m / 8) 0 = a := ⟨(l.getD (m / 8) 0).toNat, by omega⟩
      rw [ha]
      have hz2 : a % 2 ^ (8 - m % 8) = 0 := by
        apply Nat.eq_of_testBit_eq
        intro j
        rw [Nat.testBit_mod_two_pow, Nat.zero_testBit]
        by_cases hj : j < 8 - m % 8
        · have h1 := hp.bit (8 * (m / 8) + (7 - j)) (by omega)
          unfold gbit at h1
          rw [show (8 * (m / 8) + (7 - j)) / 8 = m / 8 by omega, show 7 - (8 * (m / 8) + (7 - j)) % 8 = j by omega, ha, Int.toNat_natCast, decide_eq_false (by omega)] at h1
          rw [h1]
          simp
        · simp [hj]
      exact_mod_cast hz2
    rw [if_pos hz]
def comb (how : Int) (x y : Bool) : Bool := if how = 1 then x && y else if how = 2 then x || y else x && !y
theorem byte_step (op : BinOp) (how : Int) (hop : op = .and ∧ how = 1 ∨ op = .or ∧ how = 2 ∨ op = .andNot ∧ how = 3) {a b c : List Int} (ha : IsB a) (hb : IsB b) (hc : IsB c) (i : Nat) (hi : i < c.length) (h : ∀ q, q < 8 * i → gbit c q = comb how (gbit a q) (gbit b q)) :
    IsB (c.set i (Go.bits op .u8 (a.getD i 0) (b.getD i 0))) ∧ ∀ q, q < 8 * (i + 1) → gbit (c.set i (Go.bits op .u8 (a.getD i 0) (b.getD i 0))) q = comb how (gbit a q) (gbit b q) := by
  obtain ⟨h1, h2⟩ := bits_byte op (by rcases hop with ⟨h, _⟩ | ⟨h, _⟩ | ⟨h, _⟩ <;> simp [h]) _ _ (ha.getD i) (hb.getD i)
  refine ⟨hc.set i h1, fun q hq => ?_⟩
  rw [gbit_set _ _ _ _ hi]
  by_cases hqi : q / 8 = i
  · rw [if_pos hqi, h2 _ (by omega)]
    unfold gbit
    rw [hqi]
    rcases hop with ⟨rfl, rfl⟩ | ⟨rfl, rfl⟩ | ⟨rfl, rfl⟩ <;> simp [opb, comb]
  · rw [if_neg hqi]
    exact h q (by omega)
theorem comb_packed (how : Int) (hh : how = 1 ∨ how = 2 ∨ how = 3) {m : Nat} {a b r : List Int} {p q : Nat → Bool} (hp : Packed p m a) (hq : Packed q m b) (hl : r.length = a.length) (hx : IsB r) (h : ∀ q, q < 8 * a.length → gbit r q = comb how (gbit a q) (gbit b q)) : Packed (fun q => comb how (gbit a q) (gbit b q)) m r := by
  have h1 := hp.len
  have h2 := hq.len
  refine ⟨hl.trans h1, hx, fun i hi => ?_⟩
  rw [h i (by omega), hp.bit i (by omega), hq.bit i (by omega)]
  by_cases him : i < m
  · simp [him]
  · rcases hh with rfl | rfl | rfl <;> simp [him, comb]
theorem and_l {a b : List Int} (ha : IsB a) (hb : IsB b) (L : Nat) (la : a.length = L) (lb : b.length = L) (hL : L ≤ 8192) : ∀ (d i : Nat) (c : List Int), i + d = L → c.length = L → IsB c → (∀ q, q < 8 * i → gbit c q = comb 1 (gbit a q) (gbit b q)) →
    ∃ r, Ev (fun k => bitset_And.l0 k a b c (L : Int) (i : Int)) (r, 0) ∧ r.length = L ∧ IsB r ∧ ∀ q, q < 8 * L → gbit r q = comb 1 (gbit a q) (gbit b q)
  | 0, i, c, h, hc, hx, hq => by
    obtain rfl : i = L := by omega
    refine ⟨c, Ev.step (f := fun _ => some (c, 0)) (fun k => ?_) (Ev.now _), hc, hx, hq⟩
    simp only [bitset_And.l0]
    rw [if_neg (by omega)]
  | d + 1, i, c, h, hc, hx, hq => by
    obtain ⟨g1, g2⟩ := byte_step .and 1 (by simp) ha hb hx i (by omega) hq
    obtain ⟨r, hr, hs⟩ := and_l ha hb L la lb hL d (i + 1) _ (by omega) (by rw [List.length_set]; exact hc) g1 g2
    refine ⟨r, Ev.step (fun k => ?_) hr, hs⟩
    simp only [bitset_And.l0]
    rw [if_pos (by omega), if_pos (by omega), if_pos (by omega), if_pos (by omega), if_pos (by omega), rd_nat, rd_nat, inc i (by omega), Int.toNat_natCast]
theorem and_ok {m : Nat} (hm : m ≤ 65536) {a b : List Int} {p q : Nat → Bool} (hp : Packed p m a) (hq : Packed q m b) (hc : Ev (fun k => bitset_both.f k (m : Int) a b) 0) : ∃ r, Ev (fun k => bitset_And.f k (m : Int) a b) (r, 0) ∧ Packed (fun q => comb 1 (gbit a q) (gbit b q)) m r := by
  have h1 := hp.len
  have h2 := hq.len
  obtain ⟨r, hr, h3, h4, h5⟩ := and_l hp.isB hq.isB a.length rfl (by omega) (by omega) a.length 0 (List.replicate a.length 0) (by omega) (by simp) (IsB.replicate _) (fun q h => by omega)
  refine ⟨r, Ev.bind hc (Ev.congr (fun k => ?_) hr), comb_packed 1 (by simp) hp hq h3 h4 h5⟩
  rw [if_pos rfl, if_pos (by omega), if_pos (by omega), Int.toNat_natCast]
  simp only [Option.bind_some, List.length_replicate]
  rfl
theorem or_l {a b : List Int} (ha : IsB a) (hb : IsB b) (L : Nat) (la : a.length = L) (lb : b.length = L) (hL : L ≤ 8192) : ∀ (d i : Nat) (c : List Int), i + d = L → c.length = L → IsB c → (∀ q, q < 8 * i → gbit c q = comb 2 (gbit a q) (gbit b q)) →
    ∃ r, Ev (fun k => bitset_Or.l0 k a b c (L : Int) (i : Int)) (r, 0) ∧ r.length = L ∧ IsB r ∧ ∀ q, q < 8 * L → gbit r q = comb 2 (gbit a q) (gbit b q)
  | 0, i, c, h, hc, hx, hq => by
    obtain rfl : i = L := by omega
    refine ⟨c, Ev.step (f := fun _ => some (c, 0)) (fun k => ?_) (Ev.now _), hc, hx, hq⟩
    simp only [bitset_Or.l0]
    rw [if_neg (by omega)]
  | d + 1, i, c, h, hc, hx, hq => by
    obtain ⟨g1, g2⟩ := byte_step .or 2 (by simp) ha hb hx i (by omega) hq
    obtain ⟨r, hr, hs⟩ := or_l ha hb L la lb hL d (i + 1) _ (by omega) (by rw [List.length_set]; exact hc) g1 g2
    refine ⟨r, Ev.step (fun k => ?_) hr, hs⟩
    simp only [bitset_Or.l0]
    rw [if_pos (by omega), if_pos (by omega), if_pos (by omega), if_pos (by omega), if_pos (by omega), rd_nat, rd_nat, inc i (by omega), Int.toNat_natCast]
theorem or_ok {m : Nat} (hm : m ≤ 65536) {a b : List Int} {p q : Nat → Bool} (hp : Packed p m a) (hq : Packed q m b) (hc : Ev (fun k => bitset_both.f k (m : Int) a b) 0) : ∃ r, Ev (fun k => bitset_Or.f k (m : Int) a b) (r, 0) ∧ Packed (fun q => comb 2 (gbit a q) (gbit b q)) m r := by
  have h1 := hp.len
  have h2 := hq.len
  obtain ⟨r, hr, h3, h4, h5⟩ := or_l hp.isB hq.isB a.length rfl (by omega) (by omega) a.length 0 (List.replicate a.length 0) (by omega) (by simp) (IsB.replicate _) (fun q h => by omega)
  refine ⟨r, Ev.bind hc (Ev.congr (fun k => ?_) hr), comb_packed 2 (by simp) hp hq h3 h4 h5⟩
  rw [if_pos rfl, if_pos (by omega), if_pos (by omega), Int.toNat_natCast]
  simp only [Option.bind_some, List.length_replicate]
  rfl
theorem minus_l {a b : List Int} (ha : IsB a) (hb : IsB b) (L : Nat) (la : a.length = L) (lb : b.length = L) (hL : L ≤ 8192) : ∀ (d i : Nat) (c : List Int), i + d = L → c.length = L → IsB c → (∀ q, q < 8 * i → gbit c q = comb 3 (gbit a q) (gbit b q)) →
    ∃ r, Ev (fun k => bitset_Minus.l0 k a b c (L : Int) (i : Int)) (r, 0) ∧ r.length = L ∧ IsB r ∧ ∀ q, q < 8 * L → gbit r q = comb 3 (gbit a q) (gbit b q)
  | 0, i, c, h, hc, hx, hq => by
    obtain rfl : i = L := by omega
    refine ⟨c, Ev.step (f := fun _ => some (c, 0)) (fun k => ?_) (Ev.now _), hc, hx, hq⟩
    simp only [bitset_Minus.l0]
    rw [if_neg (by omega)]
  | d + 1, i, c, h, hc, hx, hq => by
    obtain ⟨g1, g2⟩ := byte_step .andNot 3 (by simp) ha hb hx i (by omega) hq
    obtain ⟨r, hr, hs⟩ := minus_l ha hb L la lb hL d (i + 1) _ (by omega) (by rw [List.length_set]; exact hc) g1 g2
    refine ⟨r, Ev.step (fun k => ?_) hr, hs⟩
    simp only [bitset_Minus.l0]
    rw [if_pos (by omega), if_pos (by omega), if_pos (by omega), if_pos (by omega), if_pos (by omega), rd_nat, rd_nat, inc i (by omega), Int.toNat_natCast]
theorem minus_ok {m : Nat} (hm : m ≤ 65536) {a b : List Int} {p q : Nat → Bool} (hp : Packed p m a) (hq : Packed q m b) (hc : Ev (fun k => bitset_both.f k (m : Int) a b) 0) : ∃ r, Ev (fun k => bitset_Minus.f k (m : Int) a b) (r, 0) ∧ Packed (fun q => comb 3 (gbit a q) (gbit b q)) m r := by
  have h1 := hp.len
  have h2 := hq.len
  obtain ⟨r, hr, h3, h4, h5⟩ := minus_l hp.isB hq.isB a.length rfl (by omega) (by omega) a.length 0 (List.replicate a.length 0) (by omega) (by simp) (IsB.replicate _) (fun q h => by omega)
  refine ⟨r, Ev.bind hc (Ev.congr (fun k => ?_) hr), comb_packed 3 (by simp) hp hq h3 h4 h5⟩
  rw [if_pos rfl, if_pos (by omega), if_pos (by omega), Int.toNat_natCast]
  simp only [Option.bind_some, List.length_replicate]
  rfl
theorem none_byte (y x : Int) (hy : 0 ≤ y ∧ y < 256) (hx : 0 ≤ x ∧ x < 256) : Go.bits .andNot .u8 y x = 0 ↔ ∀ t, t < 8 → (y.toNat.testBit t && !x.toNat.testBit t) = false := by
  obtain ⟨h1, h2⟩ := bits_byte .andNot (by simp) y x hy hx
  constructor
  · intro h t ht
    have := h2 t ht
    rw [h] at this
    simpa [opb] using this.symm
  · intro h
    have : (Go.bits .andNot .u8 y x).toNat = 0 := nat_ext8 _ _ (by omega) (by decide) fun i hi => by
      rw [h2 i hi, Nat.zero_testBit]
      simpa [opb] using h i hi
    omega
theorem covers_l {a b : List Int} (ha : IsB a) (hb : IsB b) (L : Nat) (la : a.length = L) (lb : b.length = L) (hL : L ≤ 8192) : ∀ (d i : Nat), i + d = L → (∀ q, q < 8 * i → (gbit b q && !gbit a q) = false) →
    ∃ v, Ev (fun k => bitset_Covers.l0 k a b (L : Int) (i : Int)) (v, 0) ∧ (v = true ↔ ∀ q, q < 8 * L → (gbit b q && !gbit a q) = false)
  | 0, i, h, hq => by
    obtain rfl : i = L := by omega
    refine ⟨true, Ev.step (f := fun _ => some (true, 0)) (fun k => ?_) (Ev.now _), ⟨fun _ => hq, fun _ => rfl⟩⟩
    simp only [bitset_Covers.l0]
    rw [if_neg (by omega)]
  | d + 1, i, h, hq => by
    have e0 : ∀ k, bitset_Covers.l0 (k + 1) a b (L : Int) (i : Int) = if Go.bits .andNot .u8 (b.getD i 0) (a.getD i 0) = 0 then bitset_Covers.l0 k a b (L : Int) ((i + 1 : Nat) : Int) else some (false, 0) := fun k => by
      simp only [bitset_Covers.l0]
      rw [if_pos (by omega), if_pos (by omega), if_pos (by omega), if_pos (by omega), rd_nat, rd_nat, inc i (by omega)]
    have hn := none_byte _ _ (hb.getD i) (ha.getD i)
    by_cases hz : Go.bits .andNot .u8 (b.getD i 0) (a.getD i 0) = 0
    · obtain ⟨v, hv, hw⟩ := covers_l ha hb L la lb hL d (i + 1) (by omega) (fun q h1 => by
        by_cases hqi : q / 8 = i
        · have := hn.1 hz (7 - q % 8) (by omega)
          unfold gbit
          rw [hqi]
          exact this
        · exact hq q (by omega))
      exact ⟨v, Ev.step (fun k => by rw [e0, if_pos hz]) hv, hw⟩
    · refine ⟨false, Ev.step (f := fun _ => some (false, 0)) (fun k => by rw [e0, if_neg hz]) (Ev.now _), ⟨(fun h => by cases h), fun h => absurd (hn.2 fun t ht => ?_) hz⟩⟩
      have := h (8 * i + (7 - t)) (by omega)
      unfold gbit at this
      rw [show (8 * i + (7 - t)) / 8 = i by omega, show 7 - (8 * i + (7 - t)) % 8 = t by omega] at this
      exact this
theorem get_is {m : Nat} {l : List Int} (hx : IsB l) (hc : Ev (fun k => bitset_Check.f k (m : Int) l) 0) (j : Nat) (hj : j < m) : Ev (fun k => bitset_Get.f k (m : Int) l (j : Int)) (gbit l j, 0) := by
  obtain ⟨m', e, hm, hlen⟩ := check_ok hc
  obtain rfl : m = m' := by omega
  have ha : Ev (fun k => bitset_at.f k (m : Int) l (j : Int)) 0 := by
    refine Ev.bind hc (Ev.congr (fun k => if_pos rfl) (Ev.congr (f := fun _ => some 0) (fun k => ?_) (Ev.now _)))
    rw [if_neg (by omega), if_neg (by omega)]
  obtain ⟨g1, g2, g3⟩ := tests_in l j (by omega) (by omega)
  refine Ev.bind ha (Ev.congr (f := fun _ => some (gbit l j, 0)) (fun k => ?_) (Ev.now _))
  rw [if_pos rfl, if_pos g1, if_pos g2, if_pos g3]
  have h := get_mask l hx j (by omega)
  congr 2
  cases hb : gbit l j with
  | true =>
    rw [bne_iff_ne]
    intro h0
    rw [h.1 h0] at hb
    cases hb
  | false => rw [bne_eq_false_iff_eq]; exact h.2 hb
end Go.Proofs.Ytoohpdamndgdlaa.B


-- Made by a program of this session (the print of the kit over a neighbour), for this claim.
namespace Go.Proofs.Ytoohpdamndgdlaa.P
open Go.RowKit Go.Proofs.YtoohpdamndgdlaaW.PrintWords Go.Proofs.YtoohpdamndgdlaaW.PrintLast Go.Proofs.YtoohpdamndgdlaaW.PrintMore
attribute [local go_sem] max2_int min2_int max_two min_two max_three min_three max_four min_four   -- for this text's walks alone
set_option linter.unusedVariables false
set_option linter.unusedSimpArgs false

/-! ### bitset_Of: function 20 -/
def bitset_Of.l0 : Nat → Int → List Int → List Int → Int → Int → Option (List Int × Int)
  | 0, _, _, _, _, _ => none
  | k + 1, x0, x6, x18, x19, x20 => if x20 < x19 then (if 0 ≤ x20 then (if x20 < (x18.length : Int) then (if (rd x18 x20) < 0 then (some (([] : List Int), 43)) else (if (rd x18 x20) ≥ x0 then (some (([] : List Int), 43)) else (if 0 ≤ (wrap64 (Int.tdiv (rd x18 x20) 8)) then (if (wrap64 (Int.tdiv (rd x18 x20) 8)) < (x6.length : Int) then (if 0 ≤ (Int.tmod (rd x18 x20) 8) then (bitset_Of.l0 k x0 (x6.set ((wrap64 (Int.tdiv (rd x18 x20) 8)) : Int).toNat (Go.bits .or .u8 (rd x6 (wrap64 (Int.tdiv (rd x18 x20) 8))) (shr .u8 128 (Int.tmod (rd x18 x20) 8)))) x18 x19 (wrap64 (x20 + 1))) else (none)) else (none)) else (none)))) else (none)) else (none)) else (some (x6, 0))
def bitset_Of.f (k : Nat) (a0 : Int) (l1 : List Int) : Option (List Int × Int) := (bitset_Make.f a0).bind fun bt154 => (if bt154.2 = 0 then (bitset_Of.l0 k a0 bt154.1 l1 (l1.length : Int) 0) else (some (([] : List Int), bt154.2)))
theorem bitset_Of.mono_l : ∀ k, (∀ y0 y1 y2 y3 y4, LeO (bitset_Of.l0 k y0 y1 y2 y3 y4) (bitset_Of.l0 (k + 1) y0 y1 y2 y3 y4))
  | 0 => fun _ _ _ _ _ r h => by simp [bitset_Of.l0] at h
  | k + 1 => by
    have ih0 := bitset_Of.mono_l k
    · intro y0 y1 y2 y3 y4
      unfold bitset_Of.l0
      repeat' first
      | (with_reducible exact ih0 _ _ _ _ _)
      | (with_reducible exact LeO.refl _)
      | (with_reducible exact LeO.none _)
      | (with_reducible refine LeO.ite ?_ ?_)
      | (with_reducible refine LeO.bind ?_ (fun _ => ?_))
      | exact ih0 _ _ _ _ _
      | exact LeO.none _
      | refine LeO.ite ?_ ?_
      | refine LeO.bind ?_ (fun _ => ?_)
theorem bitset_Of.mono : ∀ a0 a1 k, LeO (bitset_Of.f k a0 a1) (bitset_Of.f (k + 1) a0 a1) := by
  intro a0 a1 k
  have ih0 := bitset_Of.mono_l k
  unfold bitset_Of.f
  repeat' first
      | (with_reducible exact ih0 _ _ _ _ _)
      | (with_reducible exact LeO.refl _)
      | (with_reducible exact LeO.none _)
      | (with_reducible refine LeO.ite ?_ ?_)
      | (with_reducible refine LeO.bind ?_ (fun _ => ?_))
      | exact ih0 _ _ _ _ _
      | exact LeO.none _
      | refine LeO.ite ?_ ?_
      | refine LeO.bind ?_ (fun _ => ?_)
set_option maxHeartbeats 4000000 in
set_option maxRecDepth 100000 in
theorem bitset_Of.calls (k : Nat) (a0 : Int) (A1 : Option Addr) (c1 : Nat) (l1 : List Int) (r1 : List Int) (r2 : Int) (w : World) (hr1 : Kd.C (Kd.int .i64) w A1 l1.length l1) (hc1 : l1.length ≤ c1) (h : bitset_Of.f k a0 l1 = some (r1, r2)) :
    Calls Try.prog 20 #[.int .i64 a0, .slice A1 l1.length c1] w fun e w' => ∃ v0_ : Value, e = .returned (.tuple #[v0_, .int .i64 r2]) ∧ Kd.R (Kd.int .u8) 5 w' w.heap.size (fun _ => True) v0_ r1 ∧ Below w.heap.size w w' := by
  have HR1 := Aside0.mk hr1
  have HC1 := Aside0.mk hc1
  clear hr1 hc1
  have HB := Aside0.mk (Below.refl w.heap.size w)
  have H : ((bitset_Make.f a0).bind fun bt154 => (if bt154.2 = 0 then (bitset_Of.l0 k a0 bt154.1 l1 (l1.length : Int) 0) else (some (([] : List Int), bt154.2)))) = some (r1, r2) := h
  clear h
  replace H := Option.bind_eq_some_iff.mp H
  obtain ⟨⟨t154, t155⟩, A30, H⟩ := H
  replace H : (if t155 = 0 then (bitset_Of.l0 k a0 t154 l1 (l1.length : Int) 0) else (some (([] : List Int), t155))) = some (r1, r2) := H
  have A3 := Aside0.mk A30
  clear A30
  by_cases c4 : t155 = 0
  · rw [if_pos c4] at H
    have c4b0 : (t155 == 0) = true := beq_iff_eq.mpr c4
    have c4b1 : (t155 != 0) = false := bne_eq_false_iff_eq.mpr c4
    clear c4
    have H' := Aside0.mk H
    clear H
    go_enter Try.func20, Try.ntmps20
    go_wp2_with (first | ((with_reducible refine gate_callee (f := 15) rfl ?_); refine goesL_ (some 12) rfl rfl Try.func15 (by kernel_rfl) rfl #[.int .i64 a0] rfl (by (try simp only [List.map_toArray, List.map_cons, List.map_nil]); first | done | rfl) ?_; (with_reducible refine (bitset_Make.calls a0 t154 t155 _ A3.out).mono ?_); rintro e w5 ⟨v156, rfl, ho0, hb⟩; refine ⟨_, rfl, ?_⟩; have n0_ := Aside0.mk (Kd.R_lower ho0 (below_size HB.out)); have n1_ := Aside0.mk (below_step HB.out hb); clear HB; have HO157 := n0_; have HB := n1_; clear n0_ n1_; (try clear hb); (try clear ho0)))
    go_loopg [20] k (fun kq v20 w' => ∃ (x6_1 : List Int) (x20_1 : Int), v20 = .int .i64 x20_1 ∧ Aside0 (bitset_Of.l0 kq a0 x6_1 l1 (l1.length : Int) x20_1 = some (r1, r2)) ∧ Aside0 (kq ≤ k) ∧ Aside0 (Kd.R (Kd.int .u8) 5 w' w.heap.size (fun _ => True) v156 x6_1) ∧ Aside0 (Below w.heap.size w w'))
    case atStart => exact ⟨(t154), (0), (by first | rfl | (simp; done) | (simp [*]; done)), H', ⟨Nat.le_refl _⟩, ⟨by (with_reducible repeat (first | apply Kd.R_alloc | apply Kd.R_drewN | apply Kd.R_drew)); exact HO157.out⟩, ⟨by repeat (first | (with_reducible first | exact HB.out | apply below_alloc | apply pw_below_drewN | apply below_drew1) | exact HB.out)⟩⟩
    case round =>
      clear H'
      try clear c1
      try clear c2
      try clear p2
      try clear c4
      try clear c4b0
      try clear c4b1
      obtain ⟨x6_1, x20_1, rfl, HA, HK1, HO_6, HB⟩ := hrel
      cases gk with
      | zero => exact absurd HA.out (by simp [bitset_Of.l0])
      | succ k1 =>
        have H := HA.out
        clear HA
        simp only [bitset_Of.l0] at H
        by_cases c6 : x20_1 < (l1.length : Int)
        · rw [if_pos c6] at H
          have c6b0 : decide (x20_1 < (l1.length : Int)) = true := decide_eq_true c6
          clear c6
          by_cases c7 : 0 ≤ x20_1
          · rw [if_pos c7] at H
            have c7b0 : decide (0 ≤ x20_1) = true := decide_eq_true c7
            clear c7
            by_cases c8 : x20_1 < (l1.length : Int)
            · rw [if_pos c8] at H
              have c8b0 : decide (x20_1 < (l1.length : Int)) = true := decide_eq_true c8
              clear c8
              by_cases c9 : (rd l1 x20_1) < 0
              · rw [if_pos c9] at H
                have c9b0 : decide ((rd l1 x20_1) < 0) = true := decide_eq_true c9
                clear c9
                simp only [Option.some.injEq, Prod.mk.injEq] at H
                obtain ⟨rfl, rfl⟩ := H
                have p158 : 0 ≤ (x20_1 : Int) := of_decide_eq_true (by first | (with_reducible assumption) | assumption)
                have q158 : x20_1 < (l1.length : Int) := of_decide_eq_true (by first | (with_reducible assumption) | assumption)
                obtain ⟨ad158, e158, hx158_0⟩ := Kd.at_int HR1.out x20_1 p158 q158
                cases e158
                replace hx158_0 := (HB.out.cell (World.block_lt_of_cell? w _ hx158_0)).trans hx158_0
                replace p158 := eq_true p158
                replace q158 := eq_true q158
                go_wp2
                go_ret2
                exact ⟨_, by first | rfl | (simp [errW_none, errW_some] <;> rfl) | (simp [*, errW_none, errW_some] <;> rfl), by first | exact Kd.R_nil _ _ _ _ _ | exact Kd.N_nil _ _ _ _ _ | exact Kd.V_nil _ _ _ _ _ | exact Kd.Q_nil _ _ _ _ _ | exact Kd.S_nil _ _ _ _ _, by repeat (first | (with_reducible first | exact HB.out | apply below_alloc | apply pw_below_drewN | apply below_drew1) | exact HB.out)⟩
              · rw [if_neg c9] at H
                have c9b0 : decide ((rd l1 x20_1) < 0) = false := decide_eq_false c9
                clear c9
                by_cases c10 : (rd l1 x20_1) ≥ a0
                · rw [if_pos c10] at H
                  have c10b0 : decide (a0 ≤ (rd l1 x20_1)) = true := decide_eq_true c10
                  clear c10
                  simp only [Option.some.injEq, Prod.mk.injEq] at H
                  obtain ⟨rfl, rfl⟩ := H
                  have p158 : 0 ≤ (x20_1 : Int) := of_decide_eq_true (by first | (with_reducible assumption) | assumption)
                  have q158 : x20_1 < (l1.length : Int) := of_decide_eq_true (by first | (with_reducible assumption) | assumption)
                  obtain ⟨ad158, e158, hx158_0⟩ := Kd.at_int HR1.out x20_1 p158 q158
                  cases e158
                  replace hx158_0 := (HB.out.cell (World.block_lt_of_cell? w _ hx158_0)).trans hx158_0
                  replace p158 := eq_true p158
                  replace q158 := eq_true q158
                  go_wp2
                  go_ret2
                  exact ⟨_, by first | rfl | (simp [errW_none, errW_some] <;> rfl) | (simp [*, errW_none, errW_some] <;> rfl), by first | exact Kd.R_nil _ _ _ _ _ | exact Kd.N_nil _ _ _ _ _ | exact Kd.V_nil _ _ _ _ _ | exact Kd.Q_nil _ _ _ _ _ | exact Kd.S_nil _ _ _ _ _, by repeat (first | (with_reducible first | exact HB.out | apply below_alloc | apply pw_below_drewN | apply below_drew1) | exact HB.out)⟩
                · rw [if_neg c10] at H
                  have c10b0 : decide (a0 ≤ (rd l1 x20_1)) = false := decide_eq_false c10
                  clear c10
                  obtain ⟨ji11, hji11⟩ : ∃ j_ : Int, (wrap64 (Int.tdiv (rd l1 x20_1) 8)) = j_ := ⟨_, rfl⟩
                  replace H : (if 0 ≤ (ji11) then (if (ji11) < (x6_1.length : Int) then (if 0 ≤ (Int.tmod (rd l1 x20_1) 8) then (bitset_Of.l0 k1 a0 (x6_1.set ((ji11) : Int).toNat (Go.bits .or .u8 (rd x6_1 (ji11)) (shr .u8 128 (Int.tmod (rd l1 x20_1) 8)))) l1 (l1.length : Int) (wrap64 (x20_1 + 1))) else (none)) else (none)) else (none)) = some (r1, r2) := by first | (rw [hji11] at H; exact H) | (simp only [hji11] at H ⊢; exact H)
                  have hji11w : (IntKind.i64.wrap (Int.tdiv (rd l1 x20_1) 8)) = ji11 := (i64_w _).trans hji11
                  by_cases c12 : 0 ≤ (ji11)
                  · rw [if_pos c12] at H
                    have c12b0 : decide (0 ≤ (ji11)) = true := decide_eq_true c12
                    clear c12
                    by_cases c13 : (ji11) < (x6_1.length : Int)
                    · rw [if_pos c13] at H
                      have c13b0 : decide ((ji11) < (x6_1.length : Int)) = true := decide_eq_true c13
                      clear c13
                      obtain ⟨ji14, hji14⟩ : ∃ j_ : Int, (Int.tmod (rd l1 x20_1) 8) = j_ := ⟨_, rfl⟩
                      replace H : (if 0 ≤ (ji14) then (bitset_Of.l0 k1 a0 (x6_1.set ((ji11) : Int).toNat (Go.bits .or .u8 (rd x6_1 (ji11)) (shr .u8 128 (ji14)))) l1 (l1.length : Int) (wrap64 (x20_1 + 1))) else (none)) = some (r1, r2) := by first | (rw [hji14] at H; exact H) | (simp only [hji14] at H ⊢; exact H)
                      by_cases c15 : 0 ≤ (ji14)
                      · rw [if_pos c15] at H
                        have c15b0 := eq_true c15
                        have c15b1 : decide (0 ≤ (ji14)) = true := decide_eq_true c15
                        clear c15
                        obtain ⟨ji16, hji16⟩ : ∃ j_ : Int, (shr .u8 128 (ji14)) = j_ := ⟨_, rfl⟩
                        replace H : (bitset_Of.l0 k1 a0 (x6_1.set ((ji11) : Int).toNat (Go.bits .or .u8 (rd x6_1 (ji11)) (ji16))) l1 (l1.length : Int) (wrap64 (x20_1 + 1))) = some (r1, r2) := by first | (rw [hji16] at H; exact H) | (simp only [hji16] at H ⊢; exact H)
                        have hji16_ : (128 / 2 ^ min (ji14).toNat 8) = ji16 := hji16
                        have hji16z : (ji14) ≤ 8 → (128 / 2 ^ (ji14).toNat) = ji16 := shr_small hji16
                        obtain ⟨y160, hy160⟩ : ∃ y_ : List Int, y_ = (x6_1.set ((ji11) : Int).toNat (Go.bits .or .u8 (rd x6_1 (ji11)) (ji16))) := ⟨_, rfl⟩
                        replace H : (bitset_Of.l0 k1 a0 y160 l1 (l1.length : Int) (wrap64 (x20_1 + 1))) = some (r1, r2) := by first | (rw [hy160]; with_reducible exact H) | (have H2_ := (Option.bind_some _ _).symm.trans H; rw [hy160]; with_reducible exact H2_) | (have H2_ := (Option.bind_some _ _).symm.trans H; with_reducible exact H2_) | with_reducible exact H | (rw [hy160]; exact H) | exact H
                        have Ny160 := Aside0.mk hy160
                        clear hy160
                        have H' := Aside0.mk H
                        clear H
                        have p158 : 0 ≤ (x20_1 : Int) := of_decide_eq_true (by first | (with_reducible assumption) | assumption)
                        have q158 : x20_1 < (l1.length : Int) := of_decide_eq_true (by first | (with_reducible assumption) | assumption)
                        obtain ⟨ad158, e158, hx158_0⟩ := Kd.at_int HR1.out x20_1 p158 q158
                        cases e158
                        replace hx158_0 := (HB.out.cell (World.block_lt_of_cell? w _ hx158_0)).trans hx158_0
                        replace p158 := eq_true p158
                        replace q158 := eq_true q158
                        try go_wp2
                        have n0_ := Aside0.mk (Kd.R_drew HO_6.out)
                        have n1_ := Aside0.mk (below_drew1 HB.out)
                        clear HO_6
                        clear HB
                        have HO_6 := n0_
                        have HB := n1_
                        clear n0_ n1_
                        obtain ⟨Ao19, co19, eo19⟩ := Kd.R_slice HO_6.out
                        (first | subst eo19 | (injection eo19 with f1_ f2_ f3_; have f4_ := f1_.symm; have f5_ := f3_.symm; clear f1_ f2_ f3_; subst f4_; subst f5_))
                        have p159 : 0 ≤ ((ji11) : Int) := of_decide_eq_true (by first | (with_reducible assumption) | assumption)
                        have q159 : (ji11) < (x6_1.length : Int) := of_decide_eq_true (by first | (with_reducible assumption) | assumption)
                        obtain ⟨ad159, e159, hx159_0⟩ := Kd.at_int (Kd.R_reads' HO_6.out).2.2 (ji11) p159 q159
                        cases e159
                        replace p159 := eq_true p159
                        replace q159 := eq_true q159
                        have hmk : ∀ W : World, (Instr.index 68 maskV (.int .i64 (ji14))).run Try.prog W = .ok (.int .u8 (ji16)) W := by rw [← hji16]; exact mask_at (ji14) (of_decide_eq_true c15b1) (hji14 ▸ tmod8_lt _)
                        refine start_ (n := 12) (S := fun w' => w'.cell? (ad159.add ((ji11)).toNat) = some (.int .u8 (rd x6_1 (ji11)))) (ds := [11]) #[false, false, false, false, false, false, false, false, false, false, false, false] (by kernel_rfl) rfl rfl (hx159_0) (fun hHeld => ?_)
                        generalize wr.drew = w18 at HO_6 HB hx159_0 hHeld ⊢
                        refine pure_ (i := 0) (N := some 31) (v := ?_) (a' := ?_) #[true, false, false, false, false, false, false, false, false, false, false, false] rfl rfl (by kernel_rfl) (fun _ _ _ h => h) (Or.inl ⟨by rfl, ?_⟩) ?_ ?_
                        rotate_left
                        · intro w'
                          go_simp
                          with_reducible rfl
                        rotate_left
                        · simp only [Act.put, List.setIfInBounds_toArray, List.set_cons_zero, List.set_cons_succ, i64_w, i32_w]
                          rfl
                        refine pure_ (i := 1) (N := some 32) (v := ?_) (a' := ?_) #[true, true, false, false, false, false, false, false, false, false, false, false] rfl rfl (by kernel_rfl) (fun _ _ _ h => h) (Or.inl ⟨by rfl, ?_⟩) ?_ ?_
                        rotate_left
                        · intro w'
                          go_simp
                          with_reducible rfl
                        rotate_left
                        · simp only [Act.put, List.setIfInBounds_toArray, List.set_cons_zero, List.set_cons_succ, i64_w, i32_w]
                          rfl
                        refine pure_ (i := 2) (N := some 33) (v := ?_) (a' := ?_) #[true, true, true, false, false, false, false, false, false, false, false, false] rfl rfl (by kernel_rfl) (fun _ _ _ h => h) (Or.inl ⟨by rfl, ?_⟩) ?_ ?_
                        rotate_left
                        · intro w'
                          go_simp
                          with_reducible rfl
                        rotate_left
                        · simp only [Act.put, List.setIfInBounds_toArray, List.set_cons_zero, List.set_cons_succ, i64_w, i32_w]
                          rfl
                        refine pure_ (i := 3) (N := some 34) (v := ?_) (a' := ?_) #[true, true, true, true, false, false, false, false, false, false, false, false] rfl rfl (by kernel_rfl) (fun _ _ _ h => h) (Or.inl ⟨by rfl, ?_⟩) ?_ ?_
                        rotate_left
                        · intro w'
                          go_simp
                          with_reducible rfl
                        rotate_left
                        · simp only [Act.put, List.setIfInBounds_toArray, List.set_cons_zero, List.set_cons_succ, i64_w, i32_w]
                          rfl
                        refine pure_ (i := 6) (N := some 37) (v := ?_) (a' := ?_) #[true, true, true, true, false, false, true, false, false, false, false, false] rfl rfl (by kernel_rfl) (fun _ _ _ h => h) (Or.inl ⟨by rfl, ?_⟩) ?_ ?_
                        rotate_left
                        · intro w'
                          go_simp
                          with_reducible rfl
                        rotate_left
                        · simp only [Act.put, List.setIfInBounds_toArray, List.set_cons_zero, List.set_cons_succ, i64_w, i32_w]
                          rfl
                        refine pure_ (i := 7) (N := some 38) (v := ?_) (a' := ?_) #[true, true, true, true, false, false, true, true, false, false, false, false] rfl rfl (by kernel_rfl) (fun _ _ _ h => h) (Or.inl ⟨by rfl, ?_⟩) ?_ ?_
                        rotate_left
                        · intro w'
                          go_simp
                          with_reducible rfl
                        rotate_left
                        · simp only [Act.put, List.setIfInBounds_toArray, List.set_cons_zero, List.set_cons_succ, i64_w, i32_w]
                          rfl
                        refine take_ (i := 4) (N := some 35) (v := ?_) (a' := ?_) #[true, true, true, true, true, false, true, true, false, false, false, false] rfl rfl (by kernel_rfl) (fun _ _ _ h => h) (Or.inl ⟨by rfl, ?_⟩) hHeld ?_ ?_
                        rotate_left
                        · intro w' s0
                          go_simp
                          with_reducible rfl
                        rotate_left
                        · simp only [Act.put, List.setIfInBounds_toArray, List.set_cons_zero, List.set_cons_succ, i64_w, i32_w]
                          rfl
                        refine one_ (i := 5) (N := some 36) #[true, true, true, true, true, true, true, true, false, false, false, false] rfl rfl (by kernel_rfl) (by decide) (fun K hK => ?_)
                        refine goes_ Try.func58 (by kernel_rfl) rfl #[] (by rfl) rfl rfl (by (try simp only [List.map_toArray, List.map_cons, List.map_nil]); first | done | rfl) ?_
                        with_reducible refine (masks_calls _).mono ?_
                        rintro e wm ⟨rfl, hbm⟩
                        refine ⟨_, rfl, ?_⟩
                        have n0_ := Aside0.mk (Kd.R_below HO_6.out hbm)
                        have n1_ := Aside0.mk (below_step HB.out hbm)
                        have n2_ := (hbm.cell (World.block_lt_of_cell? _ _ hx159_0)).trans hx159_0
                        clear HO_6 HB hx159_0
                        have HO_6 := n0_
                        have HB := n1_
                        have hx159_0 := n2_
                        have hHx := Aside0.mk n2_
                        clear n0_ n1_ n2_ hbm
                        have p17 : 0 ≤ ((ji11) : Int) := of_decide_eq_true (by first | (with_reducible assumption) | assumption)
                        have q17 : ((ji11) : Int) < ((x6_1.length : Int) : Int) := of_decide_eq_true (by first | (with_reducible assumption) | assumption)
                        obtain ⟨go17, co17, eo17, gb17, gl17, cl17, HG17⟩ := Kd.R_form HO_6.out (by omega)
                        (first | cases eo17 | (injection eo17 with ea_ en_ ec_; (first | subst ea_ | (injection ea_ with ea_; subst ea_)); subst ec_; clear en_))
                        have GB17 := Aside0.mk gb17
                        have GG17 := Aside0.mk HG17
                        clear gb17 gl17 HG17
                        (first | simp only [add_plain] at hx159_0 | skip)
                        obtain ⟨hx17_0, hf17_0⟩ := Kd.R_celln 0 HO_6.out ((ji11) : Int) p17 q17
                        replace p17 := eq_true p17
                        replace q17 := eq_true q17
                        have HP20 := Kd.R_putn HO_6.out ((ji11) : Int) (Go.bits .or .u8 (rd x6_1 (ji11)) (ji16))
                        rw [← Ny160.out] at HP20
                        have HQ20 := Aside0.mk HP20
                        clear HP20
                        refine hK.out _ _ (hHx.out) (fun hHeld => ?_)
                        clear hK K
                        refine norm_ (a' := ?_) ?_ ?_
                        rotate_left
                        · show Act.put _ (some 36) _ = _
                          simp only [Act.put, List.setIfInBounds_toArray, List.set_cons_zero, List.set_cons_succ, i64_w, i32_w]
                          rfl
                        refine pure_ (i := 8) (N := some 39) (v := ?_) (a' := ?_) #[true, true, true, true, true, true, true, true, true, false, false, false] rfl rfl (by kernel_rfl) (fun _ _ _ h => h) (Or.inl ⟨by rfl, ?_⟩) ?_ ?_
                        rotate_left
                        · intro w'
                          go_simp
                          with_reducible rfl
                        rotate_left
                        · simp only [Act.put, List.setIfInBounds_toArray, List.set_cons_zero, List.set_cons_succ, i64_w, i32_w]
                          rfl
                        refine pure_ (i := 9) (N := some 40) (v := ?_) (a' := ?_) #[true, true, true, true, true, true, true, true, true, true, false, false] rfl rfl (by kernel_rfl) (fun _ _ _ h => h) (Or.inl ⟨by rfl, ?_⟩) ?_ ?_
                        rotate_left
                        · intro w'
                          go_simp
                          with_reducible rfl
                        rotate_left
                        · simp only [Act.put, List.setIfInBounds_toArray, List.set_cons_zero, List.set_cons_succ, i64_w, i32_w]
                          rfl
                        refine pure_ (i := 10) (N := some 41) (v := ?_) (a' := ?_) #[true, true, true, true, true, true, true, true, true, true, true, false] rfl rfl (by kernel_rfl) (fun _ _ _ h => h) (Or.inl ⟨by rfl, ?_⟩) ?_ ?_
                        rotate_left
                        · intro w'
                          go_simp
                          with_reducible rfl
                        rotate_left
                        · simp only [Act.put, List.setIfInBounds_toArray, List.set_cons_zero, List.set_cons_succ, i64_w, i32_w]
                          rfl
                        refine last_ (i := 11) (N := none) #[true, true, true, true, true, true, true, true, true, true, true, true] rfl rfl (by kernel_rfl) (by decide) (fun K hK => ?_)
                        refine skip_ (w1 := ?_) (by rfl) rfl ?_ ?_
                        rotate_left
                        · go_simp
                          rfl
                        refine hK.out _ _ ?_
                        clear hK K
                        refine done_ (by kernel_rfl) ?_
                        try go_wp2
                        go_roundg k1
                        case measure => have := HK1.out; omega
                        case rel => exact ⟨(y160), (wrap64 (x20_1 + 1)), (by first | rfl | (simp; done) | (simp [*]; done)), H', ⟨by have := HK1.out; omega⟩, ⟨by (with_reducible repeat (first | apply Kd.R_alloc | apply Kd.R_drewN | apply Kd.R_drew)); exact HQ20.out⟩, ⟨by repeat (first | (with_reducible first | exact HB.out | apply below_alloc | apply pw_below_drewN | apply below_drew1 | refine below_set ?_ GB17.out) | exact HB.out)⟩⟩
                      · rw [if_neg c15] at H
                        exact absurd H (by simp)
                    · rw [if_neg c13] at H
                      exact absurd H (by simp)
                  · rw [if_neg c12] at H
                    exact absurd H (by simp)
            · rw [if_neg c8] at H
              exact absurd H (by simp)
          · rw [if_neg c7] at H
            exact absurd H (by simp)
        · rw [if_neg c6] at H
          have c6b0 : decide (x20_1 < (l1.length : Int)) = false := decide_eq_false c6
          clear c6
          simp only [Option.some.injEq, Prod.mk.injEq] at H
          obtain ⟨rfl, rfl⟩ := H
          go_wp2
          go_ret2
          exact ⟨_, by first | rfl | (simp [errW_none, errW_some] <;> rfl) | (simp [*, errW_none, errW_some] <;> rfl), by (with_reducible repeat (first | apply Kd.R_alloc | apply Kd.R_drewN | apply Kd.R_drew)); exact HO_6.out, by repeat (first | (with_reducible first | exact HB.out | apply below_alloc | apply pw_below_drewN | apply below_drew1) | exact HB.out)⟩
  · rw [if_neg c4] at H
    have c4b0 : (t155 == 0) = false := beq_eq_false_iff_ne.mpr c4
    have c4b1 : (t155 != 0) = true := bne_iff_ne.mpr c4
    simp only [Option.some.injEq, Prod.mk.injEq] at H
    obtain ⟨rfl, rfl⟩ := H
    go_enter Try.func20, Try.ntmps20
    go_wp2_with (first | ((with_reducible refine gate_callee (f := 15) rfl ?_); refine goesL_ (some 12) rfl rfl Try.func15 (by kernel_rfl) rfl #[.int .i64 a0] rfl (by (try simp only [List.map_toArray, List.map_cons, List.map_nil]); first | done | rfl) ?_; (with_reducible refine (bitset_Make.calls a0 t154 t155 _ A3.out).mono ?_); rintro e w21 ⟨v156, rfl, ho0, hb⟩; refine ⟨_, rfl, ?_⟩; have n0_ := Aside0.mk (Kd.R_lower ho0 (below_size HB.out)); have n1_ := Aside0.mk (below_step HB.out hb); clear HB; have HO157 := n0_; have HB := n1_; clear n0_ n1_; (try clear hb); (try clear ho0)))
    go_ret2
    exact ⟨_, by first | rfl | (simp [errW_none, errW_some] <;> rfl) | (simp [*, errW_none, errW_some] <;> rfl), by first | exact Kd.R_nil _ _ _ _ _ | exact Kd.N_nil _ _ _ _ _ | exact Kd.V_nil _ _ _ _ _ | exact Kd.Q_nil _ _ _ _ _ | exact Kd.S_nil _ _ _ _ _, by repeat (first | (with_reducible first | exact HB.out | apply below_alloc | apply pw_below_drewN | apply below_drew1) | exact HB.out)⟩

end Go.Proofs.Ytoohpdamndgdlaa.P


/- bitset.Ones, a loop over Walk that collects: the places the walk yields, and Check's answer. Condition: at most 65536 places. -/
set_option linter.unusedVariables false
namespace Go.Proofs.Ytoohpdamndgdlaa.P
open Go.RowKit Go.Proofs.YtoohpdamndgdlaaW.PrintWords Go.Proofs.YtoohpdamndgdlaaW.PrintLast Go.Proofs.YtoohpdamndgdlaaW.PrintMore Go.Proofs.Ytoohpdamndgdlaa.B
attribute [local go_sem] Oper.semAt_some

/-- 'list = append(list, ..)' in a loop over a walk: what the round owes, the list's box ahead of the walk's blocks, its row behind them. -/
theorem appended2 {w W w1 : World} {lo hi B : Nat} {t e : TypeId} {size : Nat} {v v' : Value} {k m : Nat} {xs ys : List Value} {tmp : Obj}
    (hv : Boxed W B t v) (hte : t ≠ e) (hrow : W.ownsRow hi e size v k xs) (hb1 : w.heap.size ≤ B) (hb2 : B < lo) (hb3 : w.heap.size ≤ hi) (hhi : hi ≤ W.heap.size) (hw : w.heap.size ≤ W.heap.size)
    (hown' : w1.ownsRow hi e size v' m ys) (hgrow : (W.alloc tmp).grownBy w1 v.ownBlock) :
    Boxed w1 B t v ∧ Boxed (w1.setCell ⟨B, 0, none⟩ v') B t v' ∧ (w1.setCell ⟨B, 0, none⟩ v').ownsRow hi e size v' m ys ∧ KeepsOthers W (w1.setCell ⟨B, 0, none⟩ v') ∧ Below w.heap.size W (w1.setCell ⟨B, 0, none⟩ v') ∧ Keeps lo hi W (w1.setCell ⟨B, 0, none⟩ v') := by
  have hv1 : Boxed w1 B t v := (hv.alloc tmp).kept hgrow (hv.not_row hte hrow)
  have hrb : ∀ j, v.ownBlock = some j → hi ≤ j := fun j ej => own_base hrow j ej
  refine ⟨hv1, hv1.set v', hown'.kept (grownBy_setCell' w1 B v') (.inr (hv1.not_row hte hown').symm), ?_, ?_, ?_⟩
  · refine ((KeepsOthers.alloc W tmp).trans (KeepsOthers.of_grownBy hgrow fun j o ej hj => ?_)).trans (KeepsOthers.setCell _ _ _)
    rcases (hrow.alloc tmp).2 with ⟨rfl, _⟩ | ⟨g, cap, cur, rfl, _, hgb, _⟩
    · simp [Value.ownBlock] at ej
    · obtain rfl : g = j := by simpa [Value.ownBlock] using ej
      rw [hgb] at hj; cases hj; rfl
  · exact (((Below.refl w.heap.size W).alloc hw tmp).grown hgrow (by simp; omega) fun j ej => Nat.le_trans hb3 (hrb j ej)).setCell (p := ⟨B, 0, none⟩) hb1 v'
  · intro b h1 h2
    rw [Below.heap_setCell _ _ _ _ (by simp; omega), hgrow.block b (by simp; omega) (fun e => by have := hrb b e.symm; omega)]
    exact (Below.heap_alloc W tmp b (by omega))
theorem int_row {W : World} {base hi : Nat} {e : TypeId} {v : Value} {xs : List Int} (h : W.ownsRow hi e 1 v xs.length (xs.map (Value.int .i64))) (hb : base ≤ hi) : Kd.R (Kd.int .i64) e W base (fun _ => True) v xs := by
  refine ⟨fun _ _ => trivial, xs.map (Value.int .i64), own_weaken h hb, (by rw [List.length_map]; exact (Nat.mul_one _).symm), fun j p hp => ?_⟩
  show ((xs.map (Value.int .i64)).drop (j * 1)).take 1 = [Value.int .i64 p]
  have hj := (List.getElem?_eq_some_iff.1 hp).1
  rw [Nat.mul_one, List.drop_eq_getElem_cons (by simpa using hj)]
  simp only [List.take_succ_cons, List.take_zero, List.getElem_map]
  rw [(List.getElem?_eq_some_iff.1 hp).2]

theorem info3' : (Try.prog.info? 3).map (fun i => (i.zero, i.size, i.bytes)) = some (some (.int .i64 0), 1, 8) := by kernel_rfl

def OnesSay (L : List Int) (r : Int) (w : World) (e : Ending) (w' : World) : Prop :=
  ∃ v, e = .returned (.tuple #[v, .int .i64 r]) ∧ Kd.R (Kd.int .i64) 3 w' w.heap.size (fun _ => True) v L ∧ Below w.heap.size w w'

set_option maxRecDepth 100000 in
set_option maxHeartbeats 4000000 in
theorem ones_in (k : Nat) (a0 : Int) (A1 : Option Addr) (c1 : Nat) (l1 : List Int) (w : World) (r : Int) (hr1 : Kd.C (Kd.int .u8) w A1 l1.length l1) (hc1 : l1.length ≤ c1) (h : bitset_Check.f k a0 l1 = some r) (hL : (walked r a0 l1).length ≤ 65536) :
    CallsIn Fence.wide 3 Try.prog 37 #[.int .i64 a0, .slice A1 l1.length c1] w (OnesSay (walked r a0 l1) r w) := by
  have HR1 := Aside0.mk hr1
  have HC1 := Aside0.mk hc1
  have HK := Aside0.mk h
  have HL := Aside0.mk hL
  clear hr1 hc1 h hL
  obtain ⟨i0, hi, hz0, hz1, hz2⟩ := info_parts info3'
  have HI := Aside0.mk hi
  have HZ0 := Aside0.mk hz0
  have HZ1 := Aside0.mk hz1
  have HZ2 := Aside0.mk hz2
  clear hi hz0 hz1 hz2
  refine callsIn_of_wp_marks Try.func37 rfl trivial ?_ rfl
  simp only [Try.ntmps37, List.size_toArray, List.length_cons, List.length_nil, Nat.reduceAdd, Nat.reduceSub, Array.replicate_succ, Array.replicate_zero, List.push_toArray, List.append_toArray, List.nil_append, List.cons_append]
  gi_wp2_with (refine ⟨trivial, ?_⟩; gi_at_call 25; refine (callsIn_wide.2 (walk_says k a0 A1 c1 l1 _ r (Kd.C_alloc HR1.out _) HC1.out HK.out)).mono ?_; rintro e w1 ⟨gf, lb, rfl, heg, hB1, hseq⟩; have HEG := Aside0.mk heg; have HB1 := Aside0.mk hB1; have HSQ := Aside0.mk hseq; clear heg hB1 hseq)
  have hlo : (w.alloc (.cells #[.slice none 0 0] 28)).heap.size = w.heap.size + 1 := by simp
  rw [hlo] at HSQ
  have hB0 := below_step ((Below.refl w.heap.size w).alloc (Nat.le_refl _) _) HB1.out
  have hv0 : Boxed w1 w.heap.size 28 (.slice none 0 0) := (HB1.out.block w.heap.size (by simp)).trans (Boxed.new w 28 _)
  have hlt1 : w.heap.size < w1.heap.size := hv0.lt
  refine wpIn_rangeFunc_ownG rfl (by decide) (gf := gf) (lb := lb) rfl trivial HEG.out (HSQ.out (3 - 1) (by decide)) (fun h k => h.trans k) (fun W l o o' hl _ _ _ => Keeps.putObj _ _ W l o' hl) (Below.refl _ _) (fun _ => rfl)
    (fun pre W => (∃ v, Boxed W w.heap.size 28 v ∧ W.ownsRow w1.heap.size 3 1 v pre.length (pre.map (Value.int .i64)) ∧ True) ∧ (Below w.heap.size w W ∧ w1.heap.size ≤ W.heap.size))
    (fun _ _ _ => False)
    (OwnFrom.and (Own.from (holdsRow_own w1.heap.size w.heap.size 28 3 1 (fun pre : List Int => pre.length) (fun pre => pre.map (Value.int .i64)) (fun _ _ => True)) _) (OwnFrom.and (ownFrom_below (Nat.le_refl _) (by omega)) (fun s A B row hs hg hr => Nat.le_trans hs hg.size)))
    (fun _ _ _ _ _ hs _ _ => hs)
    ⟨⟨_, hv0, World.ownsRow_nil _ _ _ _, trivial⟩, hB0, Nat.le_refl _⟩
    (fun x => { tmps := #[.int .i64 a0, .slice A1 l1.length c1, undef, undef, .slice none 0 0, .int .i64 0, .pointer (some ⟨w.heap.size, 0, none⟩), .int .i64 x, .int .i64 a0, .slice A1 l1.length c1, .func (.func gf) #[] lb, .int .i64 x, undef, undef, undef, undef, undef, undef, undef, undef], defers := [] }) ?assign ?body ?done ?stop
  case assign =>
    intro l x W K hK
    gi_wp2
    first | exact hK | simpa using hK
  case body =>
    rintro l pre x W ⟨⟨v, hv, hrow, _⟩, hB, hsz⟩ hlt
    have hc := hv.cell
    have HP := Aside0.mk (show pre.length < 65536 by have := HL.out; omega)
    have HV := Aside0.mk hv
    have HROW := Aside0.mk hrow
    have HBB := Aside0.mk hB
    have HSZ := Aside0.mk hsz
    have HLT := Aside0.mk hlt1
    clear hv hrow hB hsz hlt
    gi_wp2_with (gi_at_builtin; refine wpListIn_append_own _ rfl _ _ 28 rfl w1.heap.size 3 i0 (.int .i64 0) 1 8 Try.underlying28 HI.out HZ0.out HZ1.out HZ2.out rfl (by decide) _ _ _ rfl (HROW.out.alloc _) ⟨W.heap.size, 0, none⟩ 1 1 [.int .i64 x] rfl rfl (cell_one_new _ _ _) (by simp [Value.oneCell']) (by have := HP.out; simp only [maxLen]; omega) (by have := HP.out; omega) (by have := HSZ.out; simp; omega) ?_; intro v' w2 hown' hgrow _; obtain ⟨g', cap', rfl⟩ := ownsRow_succ hown'; obtain ⟨hv1, hv2, hr2, hk2, hb2, hk3⟩ := appended2 (lo := w.heap.size + 1) HV.out (by decide) HROW.out (Nat.le_refl _) (by omega) (by have := HLT.out; omega) HSZ.out (by have := HSZ.out; have := HLT.out; omega) hown' hgrow; have hc1 := hv1.cell; have hf1 := hv1.frozen; have HH := Aside0.mk (And.intro hv2 (And.intro hr2 (And.intro hk2 (And.intro hb2 hk3)))); clear hv2 hr2 hk2 hb2 hk3 hown' hgrow)
    obtain ⟨hv2, hr2, hk2, hb2, hk3⟩ := HH.out
    exact ⟨hk2.from _, hk3, ⟨_, hv2, by simpa using hr2, trivial⟩, HBB.out.trans hb2, Nat.le_trans HSZ.out (hk2.size)⟩
  case done =>
    rintro D ys W hD rfl ⟨⟨v, hv, hrow, _⟩, hB, hsz⟩ hK
    have hc := hv.cell
    have hmo : Try.prog.follows .mixedOrders = true := by kernel_rfl
    have HBW := Aside0.mk hB
    have HKD := Aside0.mk hK
    have HROW := Aside0.mk hrow
    clear hK hB hrow
    gi_wp2
    first | (gi_region_with_o (refine ⟨trivial, ?_⟩; gi_at_call 48; refine (callsIn_wide.2 (bitset_Check.calls k a0 _ _ l1 r _ (Kd.C_drew (Kd.C_below HR1.out HBW.out)) HC1.out HK.out)).mono ?_; rintro e w2 ⟨rfl, ⟨nd, rfl⟩⟩)) | (fail "no")
    all_goals
      have hb9 : Below w.heap.size w (W.drewN (1 + nd)) := pw_below_drewN HBW.out _
      have hk9 : (W.drewN (1 + nd)).heap[D]? = some (.deferred (some [])) := HKD.out
      have hr9 : (W.drewN (1 + nd)).ownsRow w1.heap.size 3 1 v (walked r a0 l1).length ((walked r a0 l1).map (Value.int .i64)) := HROW.out
      gi_wp2
      refine ⟨by simp, .inl ⟨_, _, rfl, run_takeDeferred hk9, ?_⟩⟩
      exact ⟨_, results_tmp2 (show Try.f37.results = #[.tmp 4, .tmp 5] from rfl) _ _ _, v, rfl, int_row (ownsRow_putObj hr9 _ hk9 rfl) (by omega), hb9.trans (belowK_b (w := w) (Nat.le_refl _) _ D _ _ (by omega) hk9 rfl rfl)⟩
  case stop =>
    rintro D c pre W _ _ h _
    exact h.elim
end Go.Proofs.Ytoohpdamndgdlaa.P


-- Made by a program of this session (the print of the kit over a neighbour), for this claim.
namespace Go.Proofs.Ytoohpdamndgdlaa.P
open Go.RowKit Go.Proofs.YtoohpdamndgdlaaW.PrintWords Go.Proofs.YtoohpdamndgdlaaW.PrintLast Go.Proofs.YtoohpdamndgdlaaW.PrintMore
attribute [local go_sem] max2_int min2_int max_two min_two max_three min_three max_four min_four   -- for this text's walks alone
set_option linter.unusedVariables false
set_option linter.unusedSimpArgs false

/-! ### bitset_Ones: function 37 -/
def bitset_Ones.l0 : Nat → Int → List Int → List Int → Int → Option (List Int × Int)
  | 0, _, _, _, _ => none
  | k + 1, x0, x1, x7, x8 => if x8 < x0 then (if 0 ≤ (wrap64 (Int.tdiv x8 8)) then (if (wrap64 (Int.tdiv x8 8)) < (x1.length : Int) then (if 0 ≤ (Int.tmod x8 8) then (if (Go.bits .and .u8 (rd x1 (wrap64 (Int.tdiv x8 8))) (shr .u8 128 (Int.tmod x8 8))) = 0 then (bitset_Ones.l0 k x0 x1 x7 (wrap64 (x8 + 1))) else (if x7.length < 17592186044416 then (bitset_Ones.l0 k x0 x1 (x7 ++ [x8]) (wrap64 (x8 + 1))) else (none))) else (none)) else (none)) else (none)) else (some (x7, 0))
def bitset_Ones.f (k : Nat) (a0 : Int) (l1 : List Int) : Option (List Int × Int) := (bitset_Check.f k a0 l1).bind fun t315 => (if t315 = 0 then (bitset_Ones.l0 k a0 l1 ([] : List Int) 0) else (some (([] : List Int), t315)))
theorem bitset_Ones.mono_l : ∀ k, (∀ y0 y1 y2 y3, LeO (bitset_Ones.l0 k y0 y1 y2 y3) (bitset_Ones.l0 (k + 1) y0 y1 y2 y3))
  | 0 => fun _ _ _ _ r h => by simp [bitset_Ones.l0] at h
  | k + 1 => by
    have ih0 := bitset_Ones.mono_l k
    · intro y0 y1 y2 y3
      unfold bitset_Ones.l0
      repeat' first
      | (with_reducible exact ih0 _ _ _ _)
      | (with_reducible exact bitset_Check.mono _ _ _)
      | (with_reducible exact LeO.refl _)
      | (with_reducible exact LeO.none _)
      | (with_reducible refine LeO.ite ?_ ?_)
      | (with_reducible refine LeO.bind ?_ (fun _ => ?_))
      | exact ih0 _ _ _ _
      | exact bitset_Check.mono _ _ _
      | exact LeO.none _
      | refine LeO.ite ?_ ?_
      | refine LeO.bind ?_ (fun _ => ?_)
theorem bitset_Ones.mono : ∀ a0 a1 k, LeO (bitset_Ones.f k a0 a1) (bitset_Ones.f (k + 1) a0 a1) := by
  intro a0 a1 k
  have ih0 := bitset_Ones.mono_l k
  unfold bitset_Ones.f
  repeat' first
      | (with_reducible exact ih0 _ _ _ _)
      | (with_reducible exact bitset_Check.mono _ _ _)
      | (with_reducible exact LeO.refl _)
      | (with_reducible exact LeO.none _)
      | (with_reducible refine LeO.ite ?_ ?_)
      | (with_reducible refine LeO.bind ?_ (fun _ => ?_))
      | exact ih0 _ _ _ _
      | exact bitset_Check.mono _ _ _
      | exact LeO.none _
      | refine LeO.ite ?_ ?_
      | refine LeO.bind ?_ (fun _ => ?_)
open Go.Proofs.Ytoohpdamndgdlaa.B in
theorem bitset_Ones.told_l (n : Nat) (hn : n ≤ 65536) (l : List Int) (hl : n ≤ 8 * l.length) : ∀ (k i : Nat) (r1 : List Int) (r2 : Int), i ≤ n → bitset_Ones.l0 k (n : Int) l (onesTo l i) (i : Int) = some (r1, r2) → r1 = onesTo l n ∧ r2 = 0
  | 0, _, _, _, _, h => by simp [bitset_Ones.l0] at h
  | k + 1, i, r1, r2, hi, h => by
    simp only [bitset_Ones.l0] at h
    by_cases hlt : i < n
    · obtain ⟨g1, g2, g3⟩ := tests_in l i (by omega) (by omega)
      have hin := onesTo_length l i
      rw [if_pos (by omega), if_pos g1, if_pos g2, if_pos g3, inc i (by omega)] at h
      cases hb : hit l i with
      | false =>
        rw [if_pos ((hit_is l i (by omega)).2 hb), ← onesTo_miss hb] at h
        exact bitset_Ones.told_l n hn l hl k (i + 1) r1 r2 (by omega) h
      | true =>
        rw [if_neg (fun h0 => by rw [(hit_is l i (by omega)).1 h0] at hb; cases hb), if_pos (by omega), ← onesTo_hit hb] at h
        exact bitset_Ones.told_l n hn l hl k (i + 1) r1 r2 (by omega) h
    · obtain rfl : i = n := by omega
      rw [if_neg (by omega)] at h
      simp only [Option.some.injEq, Prod.mk.injEq] at h
      exact ⟨h.1.symm, h.2.symm⟩
open Go.Proofs.Ytoohpdamndgdlaa.B in
theorem bitset_Ones.told {k : Nat} {a0 : Int} {l : List Int} {r1 : List Int} {r2 : Int} (h : bitset_Ones.f k a0 l = some (r1, r2)) : bitset_Check.f k a0 l = some r2 ∧ r1 = walked r2 a0 l ∧ (walked r2 a0 l).length ≤ 65536 := by
  unfold bitset_Ones.f at h
  obtain ⟨t, ht, h⟩ := Option.bind_eq_some_iff.mp h
  by_cases h0 : t = 0
  · subst h0
    rw [if_pos rfl] at h
    obtain ⟨n, rfl, hn, hl⟩ := check_zero ht
    obtain ⟨rfl, rfl⟩ := bitset_Ones.told_l n hn l (by omega) k 0 r1 r2 (by omega) h
    refine ⟨ht, ?_, ?_⟩
    · unfold walked
      rw [if_pos rfl, Int.toNat_natCast]
    · unfold walked
      rw [if_pos rfl, Int.toNat_natCast]
      exact Nat.le_trans (onesTo_length l n) hn
  · rw [if_neg h0] at h
    simp only [Option.some.injEq, Prod.mk.injEq] at h
    obtain ⟨rfl, rfl⟩ := h
    refine ⟨ht, ?_, ?_⟩
    · unfold walked
      rw [if_neg h0]
    · unfold walked
      rw [if_neg h0]
      simp
set_option maxHeartbeats 4000000 in
set_option maxRecDepth 100000 in
theorem bitset_Ones.calls (k : Nat) (a0 : Int) (A1 : Option Addr) (c1 : Nat) (l1 : List Int) (r1 : List Int) (r2 : Int) (w : World) (hr1 : Kd.C (Kd.int .u8) w A1 l1.length l1) (hc1 : l1.length ≤ c1) (h : bitset_Ones.f k a0 l1 = some (r1, r2)) :
    Calls Try.prog 37 #[.int .i64 a0, .slice A1 l1.length c1] w fun e w' => ∃ v0_ : Value, e = .returned (.tuple #[v0_, .int .i64 r2]) ∧ Kd.R (Kd.int .i64) 3 w' w.heap.size (fun _ => True) v0_ r1 ∧ Below w.heap.size w w' := by
  obtain ⟨h1, rfl, h3⟩ := bitset_Ones.told h
  exact callsIn_wide.1 (ones_in k a0 A1 c1 l1 w r2 hr1 hc1 h1 h3)

end Go.Proofs.Ytoohpdamndgdlaa.P


/- A region that draws its order and only reads, in a round of a range over a function (the fence has a round; no operation is a defer statement): one walk of the text's order serves every order. Over the kit's Derived.Sort.QuietThIn, whose own law asks that the fence has no round. -/
namespace Go.Proofs.Ytoohpdamndgdlaa.P
section
variable {F : Fence} {n : Nat} {P : Program} {ops : Array Oper} {md : Region.Mode} {C : World → Prop}
theorem wpIn_of_quiet_round {o : Oper} {a : Act} {K : Act → Prop} {K' : Act → World → Prop} {Q' : Exit → Act → World → Prop} {w : World} (hnd : ∀ c, o.op ≠ .defer c) (hw : C w) (h : ∀ a w', C w' → K a → K' a w')
    (ha : o.askedIn F P a C) (hh : o.quietIn F n P a C K) : o.wpIn F n P a w K' Q' := by
  obtain ⟨v, h1, h2⟩ := hh
  have h3 := h1 w hw
  unfold Oper.quietAtIn at h3
  unfold Oper.wpIn
  refine ⟨ha w hw, ?_⟩
  rw [Oper.semAt_eq _ _ _ hnd]
  generalize (execOp a.eval o).run P w = r at *
  cases r with
  | halt x w' => exact absurd h3 (by simp [Oper.quietUponIn])
  | ok x w' =>
    cases x with
    | value u =>
      obtain ⟨rfl, rfl⟩ := h3
      exact h _ _ hw h2
    | skip =>
      obtain ⟨rfl, rfl⟩ := h3
      exact h _ _ hw h2
    | enter f args =>
      obtain ⟨rfl, hd, hc⟩ := h3
      refine ⟨hd, hc.mono fun e w'' he => ?_⟩
      obtain ⟨rfl, hw''⟩ := he
      exact h _ _ hw'' h2
    | _ => exact absurd h3 (by simp [Oper.quietUponIn])
theorem wpAnyIn_of_quiet_round {Q : Act → Prop} {Q' : Exit → Act → World → Prop} (hnd : ∀ (j : Nat) (o : Oper) c, ops[j]? = some o → o.op ≠ .defer c) (hQ : ∀ a w, C w → Q a → Q' .normal a w) : ∀ (fuel : Nat) (listed : Array Bool) (a : Act) (w : World), C w →
    wpAnyQIn F n P md ops C Q fuel listed a → wpAnyIn F n P md ops Q' fuel listed a w
  | 0, _, _, _, hw, h => ⟨h.1, hQ _ _ hw h.2⟩
  | fuel + 1, listed, a, w, hw, h => ⟨fun h0 => hQ _ _ hw (h.1 h0), fun i hi => by
      have h1 := h.2 i hi
      unfold qOpIn at h1
      unfold wpOpIn
      split
      · rename_i ho
        simp only [ho] at h1
        exact wpAnyIn_of_quiet_round hnd hQ fuel _ _ _ hw h1
      · rename_i o ho
        simp only [ho] at h1
        obtain ⟨ha, h2⟩ := h1
        split
        · rename_i hwd
          simp only [hwd, if_true] at h2
          exact wpIn_of_quiet_round (fun c => hnd i o c ho) hw (fun a' w' hw' => wpAnyIn_of_quiet_round hnd hQ fuel _ a' w' hw') ha h2
        · rename_i hwd
          simp only [hwd] at h2
          exact ⟨ha w hw, wpAnyIn_of_quiet_round hnd hQ fuel _ _ _ hw h2⟩⟩
theorem wpIn_region_quiet_round {id : Nat} {Q : Exit → Act → World → Prop} {a : Act} {w : World} {l : List Oper} (hnd : ∀ o ∈ l, ∀ c, o.op ≠ .defer c) (hm : P.follows .mixedOrders = true) (hB : Region.lexB .any l.toArray = true)
    (h : wpQuietIn F n P l.toArray (fun w' => ∃ n, w' = w.drewN n) (fun a' => ∀ w', (∃ n, w' = w.drewN n) → Q .normal a' w') l a) : (Code.region id l.toArray true).wpIn F n P Q a w := by
  simp only [Region.lexB, Bool.and_eq_true] at hB
  refine wpIn_region_any hm (wpAnyIn_of_quiet_round (C := fun w' => ∃ n, w' = w.drewN n) (Q := fun a' => ∀ w', (∃ n, w' = w.drewN n) → Q .normal a' w') (fun j o c hj => hnd o (List.mem_of_getElem? (by simpa using hj)) c) (fun _ w' hw' h => h w' hw') _ _ _ _ ⟨1, rfl⟩ ?_)
  have := wpAnyQIn_lex (F := F) (n := n) (C := fun w' => ∃ n, w' = w.drewN n) (md := .any) hB.1 l 0 (Array.replicate l.length false) a (by simp) (by simpa using hB.2) h
  simpa using this
end
end Go.Proofs.Ytoohpdamndgdlaa.P


/- bitset.Runs, a loop over Walk that collects runs: the runs of what the walk yields, and Check's answer. Condition: at most 65536 places. -/
set_option linter.unusedVariables false
namespace Go.Proofs.Ytoohpdamndgdlaa.P
open Go.RowKit Go.Proofs.YtoohpdamndgdlaaW.PrintWords Go.Proofs.YtoohpdamndgdlaaW.PrintLast Go.Proofs.YtoohpdamndgdlaaW.PrintMore Go.Proofs.Ytoohpdamndgdlaa.B
attribute [local go_sem] Oper.semAt_some

/-- One place more. -/
def rstep (rs : List S59) (i : Int) : List S59 :=
  if rs.length = 0 then rs ++ [⟨i, 1⟩] else if wrap64 ((rs.getD (rs.length - 1) z59).f0 + (rs.getD (rs.length - 1) z59).f1) = i then rs.set (rs.length - 1) ⟨(rs.getD (rs.length - 1) z59).f0, wrap64 ((rs.getD (rs.length - 1) z59).f1 + 1)⟩ else rs ++ [⟨i, 1⟩]
def runsOf (l : List Int) : List S59 := l.foldl rstep []
theorem runsOf_snoc (l : List Int) (x : Int) : runsOf (l ++ [x]) = rstep (runsOf l) x := by simp [runsOf, List.foldl_append]
theorem rstep_length (rs : List S59) (i : Int) : (rstep rs i).length ≤ rs.length + 1 := by
  unfold rstep
  split
  · simp
  · split
    · simp
    · simp
theorem runsOf_length (l : List Int) : (runsOf l).length ≤ l.length := by
  have key : ∀ (l : List Int) (rs : List S59), (l.foldl rstep rs).length ≤ rs.length + l.length := by
    intro l
    induction l with
    | nil => intro rs; simp
    | cons x l ih =>
      intro rs
      have h1 := ih (rstep rs x)
      have h2 := rstep_length rs x
      simp only [List.foldl_cons, List.length_cons]
      omega
  have := key l []
  simpa [runsOf] using this
def cells59 (rs : List S59) : List Value := rs.flatMap fun x => [.int .i64 x.f0, .int .i64 x.f1]
theorem cells59_snoc (rs : List S59) (x : S59) : cells59 (rs ++ [x]) = cells59 rs ++ [.int .i64 x.f0, .int .i64 x.f1] := by simp [cells59]
theorem cells59_length (rs : List S59) : (cells59 rs).length = rs.length * 2 := by
  induction rs with
  | nil => rfl
  | cons x rs ih =>
    have e : cells59 (x :: rs) = [.int .i64 x.f0, .int .i64 x.f1] ++ cells59 rs := by simp [cells59]
    rw [e, List.length_append, ih, List.length_cons]
    simp
    omega
theorem cells59_at (rs : List S59) (m : Nat) (h : m < rs.length) : (cells59 rs)[m * 2]? = some (.int .i64 (rs.getD m z59).f0) ∧ (cells59 rs)[m * 2 + 1]? = some (.int .i64 (rs.getD m z59).f1) := by
  induction rs generalizing m with
  | nil => simp at h
  | cons x rs ih =>
    have e : cells59 (x :: rs) = .int .i64 x.f0 :: .int .i64 x.f1 :: cells59 rs := by simp [cells59]
    rw [e]
    cases m with
    | zero => exact ⟨rfl, rfl⟩
    | succ m =>
      have := ih m (by simpa using h)
      rw [show (m + 1) * 2 = m * 2 + 1 + 1 by omega, show m * 2 + 1 + 1 + 1 = m * 2 + 1 + 1 + 1 from rfl]
      simpa using this
theorem cells59_set (rs : List S59) (m : Nat) (h : m < rs.length) (y : Int) : (cells59 rs).set (m * 2 + 1) (.int .i64 y) = cells59 (rs.set m ⟨(rs.getD m z59).f0, y⟩) := by
  induction rs generalizing m with
  | nil => simp at h
  | cons x rs ih =>
    have e : ∀ x rs, cells59 (x :: rs) = .int .i64 x.f0 :: .int .i64 x.f1 :: cells59 rs := fun x rs => by simp [cells59]
    rw [e]
    cases m with
    | zero =>
      rw [List.set_cons_zero, e]
      rfl
    | succ m =>
      rw [show (m + 1) * 2 + 1 = m * 2 + 1 + 1 + 1 by omega, List.set_cons_succ, List.set_cons_succ, List.set_cons_succ, e, ih m (by simpa using h)]
      rfl
theorem row59 {W : World} {base hi : Nat} {v : Value} {rs : List S59} (h : W.ownsRow hi 59 2 v rs.length (cells59 rs)) (hb : base ≤ hi) : Kd.R k59 59 W base (fun _ => True) v rs := by
  refine ⟨fun _ _ => trivial, cells59 rs, own_weaken h hb, cells59_length rs, fun j p hp => ?_⟩
  have hj := (List.getElem?_eq_some_iff.1 hp).1
  obtain ⟨e1, e2⟩ := cells59_at rs j hj
  have ep : rs.getD j z59 = p := by rw [List.getD_eq_getElem?_getD, hp]; rfl
  rw [ep] at e1 e2
  show k59.M W base _ p (((cells59 rs).drop (j * 2)).take 2)
  have hd : ((cells59 rs).drop (j * 2)).take 2 = [.int .i64 p.f0, .int .i64 p.f1] := by
    have h1 := (List.getElem?_eq_some_iff.1 e1)
    have h2 := (List.getElem?_eq_some_iff.1 e2)
    obtain ⟨l1, q1⟩ := h1
    obtain ⟨l2, q2⟩ := h2
    rw [List.drop_eq_getElem_cons l1, List.drop_eq_getElem_cons l2, q1, q2]
    rfl
  rw [hd]
  exact k59_mkM W base _ p
theorem info59' : (Try.prog.info? 59).map (fun i => (i.zero, i.size, i.bytes)) = some (some (.agg #[.int .i64 0, .int .i64 0]), 2, 16) := by kernel_rfl

theorem rstep_nil {rs : List S59} (h : rs.length = 0) (x : Int) : rstep rs x = rs ++ [⟨x, 1⟩] := by
  unfold rstep
  rw [if_pos h]
theorem rstep_hit {rs : List S59} {m : Nat} {q : S59} {x : Int} (h : rs.length = m + 1) (hq : rs.getD m z59 = q) (hs : wrap64 (q.f0 + q.f1) = x) : rstep rs x = rs.set m ⟨q.f0, wrap64 (q.f1 + 1)⟩ := by
  unfold rstep
  rw [if_neg (by omega), show rs.length - 1 = m by omega, hq, if_pos hs]
theorem rstep_miss {rs : List S59} {m : Nat} {q : S59} {x : Int} (h : rs.length = m + 1) (hq : rs.getD m z59 = q) (hs : ¬ wrap64 (q.f0 + q.f1) = x) : rstep rs x = rs ++ [⟨x, 1⟩] := by
  unfold rstep
  rw [if_neg (by omega), show rs.length - 1 = m by omega, hq, if_neg hs]
theorem keeps_drewN (W : World) (n : Nat) : KeepsOthers W (W.drewN n) := KeepsOthers.of_grownBy (row := none) ⟨rfl, rfl, rfl, Nat.le_refl _, fun _ _ _ => rfl⟩ (fun j o ej _ => by cases ej)

def RunsSay (L : List Int) (r : Int) (w : World) (e : Ending) (w' : World) : Prop :=
  ∃ v, e = .returned (.tuple #[v, .int .i64 r]) ∧ Kd.R k59 59 w' w.heap.size (fun _ => True) v (runsOf L) ∧ Below w.heap.size w w'

set_option maxRecDepth 100000 in
set_option maxHeartbeats 4000000 in
theorem runs_in (k : Nat) (a0 : Int) (A1 : Option Addr) (c1 : Nat) (l1 : List Int) (w : World) (r : Int) (hr1 : Kd.C (Kd.int .u8) w A1 l1.length l1) (hc1 : l1.length ≤ c1) (h : bitset_Check.f k a0 l1 = some r) (hL : (walked r a0 l1).length ≤ 65536) :
    CallsIn Fence.wide 3 Try.prog 28 #[.int .i64 a0, .slice A1 l1.length c1] w (RunsSay (walked r a0 l1) r w) := by
  have HR1 := Aside0.mk hr1
  have HC1 := Aside0.mk hc1
  have HK := Aside0.mk h
  have HL := Aside0.mk hL
  clear hr1 hc1 h hL
  obtain ⟨i0, hi, hz0, hz1, hz2⟩ := info_parts info59'
  have HI := Aside0.mk hi
  have HZ0 := Aside0.mk hz0
  have HZ1 := Aside0.mk hz1
  have HZ2 := Aside0.mk hz2
  clear hi hz0 hz1 hz2
  refine callsIn_of_wp_marks Try.func28 rfl trivial ?_ rfl
  simp only [Try.ntmps28, List.size_toArray, List.length_cons, List.length_nil, Nat.reduceAdd, Nat.reduceSub, Array.replicate_succ, Array.replicate_zero, List.push_toArray, List.append_toArray, List.nil_append, List.cons_append]
  gi_wp2_with (refine ⟨trivial, ?_⟩; gi_at_call 25; refine (callsIn_wide.2 (walk_says k a0 A1 c1 l1 _ r (Kd.C_alloc HR1.out _) HC1.out HK.out)).mono ?_; rintro e w1 ⟨gf, lb, rfl, heg, hB1, hseq⟩; have HEG := Aside0.mk heg; have HB1 := Aside0.mk hB1; have HSQ := Aside0.mk hseq; clear heg hB1 hseq)
  have hlo : (w.alloc (.cells #[.slice none 0 0] 42)).heap.size = w.heap.size + 1 := by simp
  rw [hlo] at HSQ
  have hB0 := below_step ((Below.refl w.heap.size w).alloc (Nat.le_refl _) _) HB1.out
  have hv0 : Boxed w1 w.heap.size 42 (.slice none 0 0) := (HB1.out.block w.heap.size (by simp)).trans (Boxed.new w 42 _)
  have hlt1 : w.heap.size < w1.heap.size := hv0.lt
  refine wpIn_rangeFunc_ownG rfl (by decide) (gf := gf) (lb := lb) rfl trivial HEG.out (HSQ.out (3 - 1) (by decide)) (fun h k => h.trans k) (fun W l o o' hl _ _ _ => Keeps.putObj _ _ W l o' hl) (Below.refl _ _) (fun _ => rfl)
    (fun pre W => (∃ v, Boxed W w.heap.size 42 v ∧ W.ownsRow w1.heap.size 59 2 v (runsOf pre).length (cells59 (runsOf pre)) ∧ True) ∧ (Below w.heap.size w W ∧ w1.heap.size ≤ W.heap.size))
    (fun _ _ _ => False)
    (OwnFrom.and (Own.from (holdsRow_own w1.heap.size w.heap.size 42 59 2 (fun pre : List Int => (runsOf pre).length) (fun pre => cells59 (runsOf pre)) (fun _ _ => True)) _) (OwnFrom.and (ownFrom_below (Nat.le_refl _) (by omega)) (fun s A B row hs hg hr => Nat.le_trans hs hg.size)))
    (fun _ _ _ _ _ hs _ _ => hs)
    ⟨⟨_, hv0, World.ownsRow_nil _ _ _ _, trivial⟩, hB0, Nat.le_refl _⟩
    (fun x => { tmps := #[.int .i64 a0, .slice A1 l1.length c1, undef, undef, .slice none 0 0, .int .i64 0, .pointer (some ⟨w.heap.size, 0, none⟩), .int .i64 x, undef, .int .i64 a0, .slice A1 l1.length c1, .func (.func gf) #[] lb, .int .i64 x, undef, undef, undef, undef, undef, undef, undef, undef, undef, undef, undef, undef, undef, undef, undef, undef, undef, undef, undef, undef, undef, undef, undef, undef, undef, undef, undef, undef, undef, undef, undef, undef, undef, undef, undef, undef, undef], defers := [] }) ?assign ?body ?done ?stop
  case assign =>
    intro l x W K hK
    gi_wp2
    first | exact hK | simpa using hK
  case body =>
    rintro l pre x W ⟨⟨v, hv, hrow, _⟩, hB, hsz⟩ hlt
    have hc := hv.cell
    have hmo : Try.prog.follows .mixedOrders = true := by kernel_rfl
    have HP := Aside0.mk (show pre.length < 65536 by have := HL.out; omega)
    have HPR := Aside0.mk (runsOf_length pre)
    have HBB := Aside0.mk hB
    have HSZ := Aside0.mk hsz
    have HLT := Aside0.mk hlt1
    clear hB hsz hlt hlt1 hB0 hv0 hlo
    obtain ⟨rs, hrs⟩ : ∃ rs, runsOf pre = rs := ⟨_, rfl⟩
    rw [hrs] at hrow HPR
    have HRS := Aside0.mk hrs
    clear hrs
    by_cases hz : rs.length = 0
    · rw [hz] at hrow
      obtain ⟨Av, cv, rfl⟩ := own_slice hrow
      have HM := Aside0.mk hz
      have HST := Aside0.mk (rstep_nil hz x)
      have HV := Aside0.mk hv
      have HROW := Aside0.mk hrow
      clear hz hv hrow
      gi_wp2
      refine wpIn_region_quiet_round (by simp) hmo (by kernel_rfl) ?_
      repeat (gi_big_quiet_step (fail))
      refine wpQuietIn_nil ?_
      intro _ hw'
      obtain ⟨nq, hw''⟩ := hw'
      subst hw''
      have HV2 : Aside0 (Boxed (W.drewN nq) w.heap.size 42 (.slice Av 0 cv)) := ⟨HV.out⟩
      have HROW2 : Aside0 ((W.drewN nq).ownsRow w1.heap.size 59 2 (.slice Av 0 cv) _ (cells59 rs)) := ⟨HROW.out⟩
      have HBB2 : Aside0 (Below w.heap.size w (W.drewN nq)) := ⟨pw_below_drewN HBB.out _⟩
      have HSZ2 : Aside0 (w1.heap.size ≤ (W.drewN nq).heap.size) := ⟨HSZ.out⟩
      have HKO := Aside0.mk (keeps_drewN W nq)
      have HKP : Aside0 (Keeps (w.heap.size + 1) w1.heap.size W (W.drewN nq)) := ⟨fun _ _ _ => rfl⟩
      have hc2 : (W.drewN nq).cell? ⟨w.heap.size, 0, none⟩ = some (.slice Av 0 cv) := HV2.out.cell
      generalize W.drewN nq = W2 at HV2 HROW2 HBB2 HSZ2 HKO HKP hc2 ⊢
      gi_wp2_with (gi_at_builtin; refine wpListIn_append_own _ rfl _ _ 42 rfl w1.heap.size 59 i0 (.agg #[.int .i64 0, .int .i64 0]) 2 16 Try.underlying42 HI.out HZ0.out HZ1.out HZ2.out rfl (by decide) _ _ _ rfl (HROW2.out.alloc _) ⟨W2.heap.size, 0, none⟩ 1 1 [.int .i64 x, .int .i64 1] rfl rfl (Go.cell_two_new _ _ _ _) (by simp [Value.oneCell']) (by have := HP.out; have := HPR.out; have := HM.out; simp only [maxLen]; omega) (by have := HP.out; have := HPR.out; have := HM.out; omega) (by have := HSZ2.out; simp; omega) ?_; intro v' w2 hown' hgrow _; obtain ⟨g', cap', rfl⟩ := ownsRow_succ hown'; obtain ⟨hv1, hv2, hr2, hk2, hb2, hk3⟩ := appended2 (lo := w.heap.size + 1) HV2.out (by decide) HROW2.out (Nat.le_refl _) (by omega) (by have := HLT.out; omega) HSZ2.out (by have := HSZ2.out; have := HLT.out; omega) hown' hgrow; have hc1 := hv1.cell; have hf1 := hv1.frozen; have HH := Aside0.mk (And.intro hv2 (And.intro hr2 (And.intro hk2 (And.intro hb2 hk3)))); clear hv2 hr2 hk2 hb2 hk3 hown' hgrow)
      obtain ⟨hv2, hr2, hk2, hb2, hk3⟩ := HH.out
      refine ⟨(HKO.out.trans hk2).from _, HKP.out.trans hk3, ⟨_, hv2, ?_, trivial⟩, HBB2.out.trans hb2, Nat.le_trans HSZ2.out hk2.size⟩
      rw [runsOf_snoc, HRS.out, HST.out, cells59_snoc, List.length_append, HM.out]
      exact hr2
    · obtain ⟨m, hm⟩ : ∃ m, rs.length = m + 1 := ⟨rs.length - 1, by omega⟩
      rw [hm] at hrow
      obtain ⟨g, cap, rfl⟩ := ownsRow_succ hrow
      obtain ⟨q, hq⟩ : ∃ q, rs.getD m z59 = q := ⟨_, rfl⟩
      obtain ⟨e1, e2⟩ := cells59_at rs m (by omega)
      rw [hq] at e1 e2
      have hx0 := (hrow.cellAt (m * 2) (by omega)).trans e1
      have hx1 := (hrow.cellAt (m * 2 + 1) (by omega)).trans e2
      have HM := Aside0.mk hm
      have HQ := Aside0.mk hq
      have HV := Aside0.mk hv
      have HROW := Aside0.mk hrow
      have hm2 : m < 65536 := by have := HP.out; have := HPR.out; omega
      clear hm hq hv hrow e1 e2 hz
      obtain ⟨s, hs⟩ : ∃ s, IntKind.i64.wrap (q.f0 + q.f1) = s := ⟨_, rfl⟩
      have HS := Aside0.mk (show wrap64 (q.f0 + q.f1) = s from (IntWalk.i64_left _).symm.trans hs)
      by_cases hsx : s = x
      · have hsb : (s == x) = true := beq_iff_eq.mpr hsx
        have HSX := Aside0.mk hsx
        clear hsx
        gi_wp2
        refine wpIn_region_quiet_round (by simp) hmo (by kernel_rfl) ?_
        repeat (gi_big_quiet_step (fail))
        refine wpQuietIn_nil ?_
        intro _ hw'
        obtain ⟨nq, hw''⟩ := hw'
        subst hw''
        have hfz : (W.drewN nq).frozen? ⟨g, m * 2 + 1, none⟩ = false := HROW.out.frozenAt (m * 2 + 1)
        gi_wp2
        obtain ⟨hr2, hg2⟩ := World.ownsRow.stored (w := W.drewN nq) HROW.out (m * 2 + 1) (.int .i64 (wrap64 (q.f1 + 1)))
        obtain ⟨hg1, hg3⟩ := HROW.out.lt g rfl
        have hne : w.heap.size ≠ g := by have := HLT.out; omega
        refine ⟨((keeps_drewN W nq).trans (KeepsOthers.setCell _ _ _)).from _, fun b h1 h2 => (Below.heap_setCell _ _ _ _ (by simp; omega)).trans rfl, ⟨_, (show Boxed (W.drewN nq) w.heap.size 42 _ from HV.out).kept hg2 (by simp; omega), ?_, trivial⟩, (pw_below_drewN HBB.out nq).setCell (by show w.heap.size ≤ g; have := HLT.out; omega) _, by simp; exact HSZ.out⟩
        have HST := rstep_hit HM.out HQ.out (HS.out.trans HSX.out)
        rw [runsOf_snoc, HRS.out, HST, ← HQ.out, ← cells59_set rs m (by have := HM.out; omega) _, HQ.out, List.length_set, HM.out]
        exact hr2
      · have hsb : (s == x) = false := beq_eq_false_iff_ne.mpr hsx
        have HST := Aside0.mk (rstep_miss HM.out HQ.out (fun e => hsx (HS.out.symm.trans e)))
        clear hsx
        gi_wp2
        refine wpIn_region_quiet_round (by simp) hmo (by kernel_rfl) ?_
        repeat (gi_big_quiet_step (fail))
        refine wpQuietIn_nil ?_
        intro _ hw'
        obtain ⟨nq, hw''⟩ := hw'
        subst hw''
        have HV2 : Aside0 (Boxed (W.drewN nq) w.heap.size 42 (.slice (some ⟨g, 0, none⟩) (m + 1) cap)) := ⟨HV.out⟩
        have HROW2 : Aside0 ((W.drewN nq).ownsRow w1.heap.size 59 2 (.slice (some ⟨g, 0, none⟩) (m + 1) cap) _ (cells59 rs)) := ⟨HROW.out⟩
        have HBB2 : Aside0 (Below w.heap.size w (W.drewN nq)) := ⟨pw_below_drewN HBB.out _⟩
        have HSZ2 : Aside0 (w1.heap.size ≤ (W.drewN nq).heap.size) := ⟨HSZ.out⟩
        have HKO := Aside0.mk (keeps_drewN W nq)
        have HKP : Aside0 (Keeps (w.heap.size + 1) w1.heap.size W (W.drewN nq)) := ⟨fun _ _ _ => rfl⟩
        have hc2 : (W.drewN nq).cell? ⟨w.heap.size, 0, none⟩ = some (.slice (some ⟨g, 0, none⟩) (m + 1) cap) := HV2.out.cell
        generalize W.drewN nq = W2 at HV2 HROW2 HBB2 HSZ2 HKO HKP hc2 ⊢
        gi_wp2_with (gi_at_builtin; refine wpListIn_append_own _ rfl _ _ 42 rfl w1.heap.size 59 i0 (.agg #[.int .i64 0, .int .i64 0]) 2 16 Try.underlying42 HI.out HZ0.out HZ1.out HZ2.out rfl (by decide) _ _ _ rfl (HROW2.out.alloc _) ⟨W2.heap.size, 0, none⟩ 1 1 [.int .i64 x, .int .i64 1] rfl rfl (Go.cell_two_new _ _ _ _) (by simp [Value.oneCell']) (by have := HP.out; have := HPR.out; have := HM.out; simp only [maxLen]; omega) (by have := HP.out; have := HPR.out; have := HM.out; omega) (by have := HSZ2.out; simp; omega) ?_; intro v' w2 hown' hgrow _; obtain ⟨g', cap', rfl⟩ := ownsRow_succ hown'; obtain ⟨hv1, hv2, hr2, hk2, hb2, hk3⟩ := appended2 (lo := w.heap.size + 1) HV2.out (by decide) HROW2.out (Nat.le_refl _) (by omega) (by have := HLT.out; omega) HSZ2.out (by have := HSZ2.out; have := HLT.out; omega) hown' hgrow; have hc1 := hv1.cell; have hf1 := hv1.frozen; have HH := Aside0.mk (And.intro hv2 (And.intro hr2 (And.intro hk2 (And.intro hb2 hk3)))); clear hv2 hr2 hk2 hb2 hk3 hown' hgrow)
        obtain ⟨hv2, hr2, hk2, hb2, hk3⟩ := HH.out
        refine ⟨(HKO.out.trans hk2).from _, HKP.out.trans hk3, ⟨_, hv2, ?_, trivial⟩, HBB2.out.trans hb2, Nat.le_trans HSZ2.out hk2.size⟩
        rw [runsOf_snoc, HRS.out, HST.out, cells59_snoc, List.length_append, HM.out]
        exact hr2
  case done =>
    rintro D ys W hD rfl ⟨⟨v, hv, hrow, _⟩, hB, hsz⟩ hK
    have hc := hv.cell
    have hmo : Try.prog.follows .mixedOrders = true := by kernel_rfl
    have HBW := Aside0.mk hB
    have HKD := Aside0.mk hK
    have HROW := Aside0.mk hrow
    clear hK hB hrow
    gi_wp2
    first | (gi_region_with_o (refine ⟨trivial, ?_⟩; gi_at_call 48; refine (callsIn_wide.2 (bitset_Check.calls k a0 _ _ l1 r _ (Kd.C_drew (Kd.C_below HR1.out HBW.out)) HC1.out HK.out)).mono ?_; rintro e w2 ⟨rfl, ⟨nd, rfl⟩⟩)) | (fail "no")
    all_goals
      have hb9 : Below w.heap.size w (W.drewN (1 + nd)) := pw_below_drewN HBW.out _
      have hk9 : (W.drewN (1 + nd)).heap[D]? = some (.deferred (some [])) := HKD.out
      have hr9 : (W.drewN (1 + nd)).ownsRow w1.heap.size 59 2 v (runsOf (walked r a0 l1)).length (cells59 (runsOf (walked r a0 l1))) := HROW.out
      gi_wp2
      refine ⟨by simp, .inl ⟨_, _, rfl, run_takeDeferred hk9, ?_⟩⟩
      exact ⟨_, results_tmp2 (show Try.f28.results = #[.tmp 4, .tmp 5] from rfl) _ _ _, v, rfl, row59 (ownsRow_putObj hr9 _ hk9 rfl) (by omega), hb9.trans (belowK_b (w := w) (Nat.le_refl _) _ D _ _ (by omega) hk9 rfl rfl)⟩
  case stop =>
    rintro D c pre W _ _ h _
    exact h.elim
end Go.Proofs.Ytoohpdamndgdlaa.P


-- Made by a program of this session (the print of the kit over a neighbour), for this claim.
namespace Go.Proofs.Ytoohpdamndgdlaa.P
open Go.RowKit Go.Proofs.YtoohpdamndgdlaaW.PrintWords Go.Proofs.YtoohpdamndgdlaaW.PrintLast Go.Proofs.YtoohpdamndgdlaaW.PrintMore
attribute [local go_sem] max2_int min2_int max_two min_two max_three min_three max_four min_four   -- for this text's walks alone
set_option linter.unusedVariables false
set_option linter.unusedSimpArgs false

/-! ### bitset_Runs: function 28 -/
def bitset_Runs.l0 : Nat → Int → List Int → List (S59) → Int → Option ((List (S59)) × Int)
  | 0, _, _, _, _ => none
  | k + 1, x0, x1, x7, x8 => if x8 < x0 then (if 0 ≤ (wrap64 (Int.tdiv x8 8)) then (if (wrap64 (Int.tdiv x8 8)) < (x1.length : Int) then (if 0 ≤ (Int.tmod x8 8) then (if (Go.bits .and .u8 (rd x1 (wrap64 (Int.tdiv x8 8))) (shr .u8 128 (Int.tmod x8 8))) = 0 then (bitset_Runs.l0 k x0 x1 x7 (wrap64 (x8 + 1))) else (if (wrap64 ((x7.length : Int) - 1)) ≥ 0 then (if 0 ≤ (wrap64 ((x7.length : Int) - 1)) then (if (wrap64 ((x7.length : Int) - 1)) < (x7.length : Int) then (if (wrap64 (((rd_T59 x7 (wrap64 ((x7.length : Int) - 1))).f0) + ((rd_T59 x7 (wrap64 ((x7.length : Int) - 1))).f1))) = x8 then (bitset_Runs.l0 k x0 x1 (x7.set ((wrap64 ((x7.length : Int) - 1)) : Int).toNat (⟨(rd_T59 x7 (wrap64 ((x7.length : Int) - 1))).f0, wrap64 (((rd_T59 x7 (wrap64 ((x7.length : Int) - 1))).f1) + 1)⟩ : S59)) (wrap64 (x8 + 1))) else (if x7.length < 8796093022208 then (bitset_Runs.l0 k x0 x1 (x7 ++ [(⟨x8, 1⟩ : S59)]) (wrap64 (x8 + 1))) else (none))) else (none)) else (none)) else (if x7.length < 8796093022208 then (bitset_Runs.l0 k x0 x1 (x7 ++ [(⟨x8, 1⟩ : S59)]) (wrap64 (x8 + 1))) else (none)))) else (none)) else (none)) else (none)) else (some (x7, 0))
def bitset_Runs.f (k : Nat) (a0 : Int) (l1 : List Int) : Option ((List (S59)) × Int) := (bitset_Check.f k a0 l1).bind fun t215 => (if t215 = 0 then (bitset_Runs.l0 k a0 l1 ([] : List (S59)) 0) else (some (([] : List (S59)), t215)))
open Go.Proofs.Ytoohpdamndgdlaa.B in
theorem bitset_Runs.told_l (n : Nat) (hn : n ≤ 65536) (l : List Int) (hl : n ≤ 8 * l.length) : ∀ (k i : Nat) (r1 : List S59) (r2 : Int), i ≤ n → bitset_Runs.l0 k (n : Int) l (runsOf (onesTo l i)) (i : Int) = some (r1, r2) → r1 = runsOf (onesTo l n) ∧ r2 = 0
  | 0, _, _, _, _, h => by simp [bitset_Runs.l0] at h
  | k + 1, i, r1, r2, hi, h => by
    simp only [bitset_Runs.l0] at h
    by_cases hlt : i < n
    · obtain ⟨g1, g2, g3⟩ := tests_in l i (by omega) (by omega)
      have hin := onesTo_length l i
      have hrl := runsOf_length (onesTo l i)
      rw [if_pos (by omega), if_pos g1, if_pos g2, if_pos g3, inc i (by omega)] at h
      cases hb : hit l i with
      | false =>
        rw [if_pos ((hit_is l i (by omega)).2 hb), ← onesTo_miss hb] at h
        exact bitset_Runs.told_l n hn l hl k (i + 1) r1 r2 (by omega) h
      | true =>
        rw [if_neg (fun h0 => by rw [(hit_is l i (by omega)).1 h0] at hb; cases hb)] at h
        have key : ∀ rs : List S59, rs.length ≤ 65536 →
            (if wrap64 ((rs.length : Int) - 1) ≥ 0 then if 0 ≤ wrap64 ((rs.length : Int) - 1) then if wrap64 ((rs.length : Int) - 1) < (rs.length : Int) then if wrap64 ((rd_T59 rs (wrap64 ((rs.length : Int) - 1))).f0 + (rd_T59 rs (wrap64 ((rs.length : Int) - 1))).f1) = (i : Int) then bitset_Runs.l0 k (n : Int) l (rs.set (wrap64 ((rs.length : Int) - 1)).toNat ⟨(rd_T59 rs (wrap64 ((rs.length : Int) - 1))).f0, wrap64 ((rd_T59 rs (wrap64 ((rs.length : Int) - 1))).f1 + 1)⟩) ((i + 1 : Nat) : Int) else if rs.length < 8796093022208 then bitset_Runs.l0 k (n : Int) l (rs ++ [⟨(i : Int), 1⟩]) ((i + 1 : Nat) : Int) else none else none else none else if rs.length < 8796093022208 then bitset_Runs.l0 k (n : Int) l (rs ++ [⟨(i : Int), 1⟩]) ((i + 1 : Nat) : Int) else none) = bitset_Runs.l0 k (n : Int) l (rstep rs (i : Int)) ((i + 1 : Nat) : Int) := by
          intro rs hrs
          have e1 : wrap64 ((rs.length : Int) - 1) = (rs.length : Int) - 1 := w64 _ (by omega) (by omega)
          rw [e1]
          by_cases hz : rs.length = 0
          · rw [if_neg (by omega), if_pos (by omega), rstep_nil hz]
          · obtain ⟨m, hm⟩ : ∃ m, rs.length = m + 1 := ⟨rs.length - 1, by omega⟩
            have e2 : (rs.length : Int) - 1 = (m : Int) := by omega
            rw [e2, if_pos (by omega), if_pos (by omega), if_pos (by omega)]
            have e3 : rd_T59 rs (m : Int) = rs.getD m z59 := by unfold rd_T59; rw [Int.toNat_natCast]
            rw [e3, Int.toNat_natCast]
            by_cases hs : wrap64 ((rs.getD m z59).f0 + (rs.getD m z59).f1) = (i : Int)
            · rw [if_pos hs, rstep_hit hm rfl hs]
            · rw [if_neg hs, if_pos (by omega), rstep_miss hm rfl hs]
        rw [key _ (by omega), ← runsOf_snoc, ← onesTo_hit hb] at h
        exact bitset_Runs.told_l n hn l hl k (i + 1) r1 r2 (by omega) h
    · obtain rfl : i = n := by omega
      rw [if_neg (by omega)] at h
      simp only [Option.some.injEq, Prod.mk.injEq] at h
      exact ⟨h.1.symm, h.2.symm⟩
open Go.Proofs.Ytoohpdamndgdlaa.B in
theorem bitset_Runs.told {k : Nat} {a0 : Int} {l : List Int} {r1 : List S59} {r2 : Int} (h : bitset_Runs.f k a0 l = some (r1, r2)) : bitset_Check.f k a0 l = some r2 ∧ r1 = runsOf (walked r2 a0 l) ∧ (walked r2 a0 l).length ≤ 65536 := by
  unfold bitset_Runs.f at h
  obtain ⟨t, ht, h⟩ := Option.bind_eq_some_iff.mp h
  by_cases h0 : t = 0
  · subst h0
    rw [if_pos rfl] at h
    obtain ⟨n, rfl, hn, hl⟩ := check_zero ht
    obtain ⟨rfl, rfl⟩ := bitset_Runs.told_l n hn l (by omega) k 0 r1 r2 (by omega) h
    refine ⟨ht, ?_, ?_⟩
    · unfold walked
      rw [if_pos rfl, Int.toNat_natCast]
    · unfold walked
      rw [if_pos rfl, Int.toNat_natCast]
      exact Nat.le_trans (onesTo_length l n) hn
  · rw [if_neg h0] at h
    simp only [Option.some.injEq, Prod.mk.injEq] at h
    obtain ⟨rfl, rfl⟩ := h
    refine ⟨ht, ?_, ?_⟩
    · unfold walked
      rw [if_neg h0]
      rfl
    · unfold walked
      rw [if_neg h0]
      simp
set_option maxHeartbeats 4000000 in
set_option maxRecDepth 100000 in
theorem bitset_Runs.calls (k : Nat) (a0 : Int) (A1 : Option Addr) (c1 : Nat) (l1 : List Int) (r1 : List (S59)) (r2 : Int) (w : World) (hr1 : Kd.C (Kd.int .u8) w A1 l1.length l1) (hc1 : l1.length ≤ c1) (h : bitset_Runs.f k a0 l1 = some (r1, r2)) :
    Calls Try.prog 28 #[.int .i64 a0, .slice A1 l1.length c1] w fun e w' => ∃ v0_ : Value, e = .returned (.tuple #[v0_, .int .i64 r2]) ∧ Kd.R k59 59 w' w.heap.size (fun _ => True) v0_ r1 ∧ Below w.heap.size w w' := by
  obtain ⟨h1, rfl, h3⟩ := bitset_Runs.told h
  exact callsIn_wide.1 (runs_in k a0 A1 c1 l1 w r2 hr1 hc1 h1 h3)

end Go.Proofs.Ytoohpdamndgdlaa.P


-- Made by a program of this session (the print of the kit over a neighbour), for this claim.
namespace Go.Proofs.Ytoohpdamndgdlaa.P
open Go.RowKit Go.Proofs.YtoohpdamndgdlaaW.PrintWords Go.Proofs.YtoohpdamndgdlaaW.PrintLast Go.Proofs.YtoohpdamndgdlaaW.PrintMore
attribute [local go_sem] max2_int min2_int max_two min_two max_three min_three max_four min_four   -- for this text's walks alone
set_option linter.unusedVariables false
set_option linter.unusedSimpArgs false

/-! ### bitset_Next: function 26 -/
mutual
def bitset_Next.j0 : Nat → Int → List Int → Int → Bool → Bool → Option (Int × Int)
  | 0, _, _, _, _, _ => none
  | k + 1, x0, x1, x2, x3, x24 => if x24 = true then (some (0, 43)) else (bitset_Next.l0 k x0 x1 x3 x2)
def bitset_Next.l0 : Nat → Int → List Int → Bool → Int → Option (Int × Int)
  | 0, _, _, _, _ => none
  | k + 1, x0, x1, x3, x11 => if x11 < x0 then (if 0 ≤ (wrap64 (Int.tdiv x11 8)) then (if (wrap64 (Int.tdiv x11 8)) < (x1.length : Int) then (if 0 ≤ (Int.tmod x11 8) then (if (((Go.bits .and .u8 (rd x1 (wrap64 (Int.tdiv x11 8))) (shr .u8 128 (Int.tmod x11 8))) != 0) == x3) = true then (some (x11, 0)) else (bitset_Next.l0 k x0 x1 x3 (wrap64 (x11 + 1)))) else (none)) else (none)) else (none)) else (some (x0, 0))
end
def bitset_Next.f (k : Nat) (a0 : Int) (l1 : List Int) (a2 : Int) (a3 : Bool) : Option (Int × Int) := (bitset_Check.f k a0 l1).bind fun t192 => (if t192 = 0 then (if a2 < 0 then (bitset_Next.j0 k a0 l1 a2 a3 true) else (bitset_Next.j0 k a0 l1 a2 a3 (decide (a2 > a0)))) else (some (0, t192)))
set_option maxHeartbeats 4000000 in
set_option maxRecDepth 100000 in
theorem bitset_Next.calls (k : Nat) (a0 : Int) (A1 : Option Addr) (c1 : Nat) (l1 : List Int) (a2 : Int) (a3 : Bool) (r1 : Int) (r2 : Int) (w : World) (hr1 : Kd.C (Kd.int .u8) w A1 l1.length l1) (hc1 : l1.length ≤ c1) (h : bitset_Next.f k a0 l1 a2 a3 = some (r1, r2)) :
    Calls Try.prog 26 #[.int .i64 a0, .slice A1 l1.length c1, .int .i64 a2, .bool a3] w fun e w' => e = .returned (.tuple #[.int .i64 r1, .int .i64 r2]) ∧ Below w.heap.size w w' := by
  have HR1 := Aside0.mk hr1
  have HC1 := Aside0.mk hc1
  clear hr1 hc1
  have HB := Aside0.mk (Below.refl w.heap.size w)
  have H : ((bitset_Check.f k a0 l1).bind fun t192 => (if t192 = 0 then (if a2 < 0 then (bitset_Next.j0 k a0 l1 a2 a3 true) else (bitset_Next.j0 k a0 l1 a2 a3 (decide (a2 > a0)))) else (some (0, t192)))) = some (r1, r2) := h
  clear h
  replace H := Option.bind_eq_some_iff.mp H
  obtain ⟨t192, A50, H⟩ := H
  replace H : (if t192 = 0 then (if a2 < 0 then (bitset_Next.j0 k a0 l1 a2 a3 true) else (bitset_Next.j0 k a0 l1 a2 a3 (decide (a2 > a0)))) else (some (0, t192))) = some (r1, r2) := H
  have A5 := Aside0.mk A50
  clear A50
  by_cases c6 : t192 = 0
  · rw [if_pos c6] at H
    have c6b0 : (t192 == 0) = true := beq_iff_eq.mpr c6
    have c6b1 : (t192 != 0) = false := bne_eq_false_iff_eq.mpr c6
    clear c6
    have HC7 := Aside0.mk H
    clear H
    go_enter Try.func26, Try.ntmps26
    go_upto_region 4 with (first | (go_at_call 48; (with_reducible refine (bitset_Check.calls k a0 _ _ l1 t192 _ ?side1 ?side2 A5.out).mono ?_); (case side1 => exact HR1.out); (case side2 => exact HC1.out); rintro e w' ⟨rfl, ⟨nd, rfl⟩⟩; (try first | exact ⟨rfl, _, World.drewN_drewN _ _ _⟩ | exact ⟨rfl, _, Eq.trans (World.drewN_drewN _ _ _) (congrArg (World.drewN _) (Nat.add_assoc _ _ _))⟩)))
    repeat (go_quiet (first | (go_at_call 48; (with_reducible refine (bitset_Check.calls k a0 _ _ l1 t192 _ ?side1 ?side2 A5.out).mono ?_); (case side1 => exact HR1.out); (case side2 => exact HC1.out); rintro e w' ⟨rfl, ⟨nd, rfl⟩⟩; (try first | exact ⟨rfl, _, World.drewN_drewN _ _ _⟩ | exact ⟨rfl, _, Eq.trans (World.drewN_drewN _ _ _) (congrArg (World.drewN _) (Nat.add_assoc _ _ _))⟩))); go_upto_region 4 with (first | (go_at_call 48; (with_reducible refine (bitset_Check.calls k a0 _ _ l1 t192 _ ?side1 ?side2 A5.out).mono ?_); (case side1 => exact HR1.out); (case side2 => exact HC1.out); rintro e w' ⟨rfl, ⟨nd, rfl⟩⟩; (try first | exact ⟨rfl, _, World.drewN_drewN _ _ _⟩ | exact ⟨rfl, _, Eq.trans (World.drewN_drewN _ _ _) (congrArg (World.drewN _) (Nat.add_assoc _ _ _))⟩))))
    (try simp only [Act.put, List.setIfInBounds_toArray, List.set_cons_zero, List.set_cons_succ])
    go_cut [24] (fun v24 wc => ∃ (kq : Nat) (x24_6 : Bool), v24 = .bool x24_6 ∧ Aside0 (bitset_Next.j0 kq a0 l1 a2 a3 x24_6 = some (r1, r2)) ∧ Aside0 (kq ≤ k) ∧ Aside0 (Below w.heap.size w wc))
    case first =>
      have H := HC7.out
      clear HC7
      by_cases c8 : a2 < 0
      · rw [if_pos c8] at H
        have c8b0 : decide (a2 < 0) = true := decide_eq_true c8
        clear c8
        (first | rw [c8b0] | (simp only [i64_w, i32_w]; rw [c8b0]) | skip)
        have H' := Aside0.mk H
        clear H
        go_wp2
        repeat (go_quiet (fail); try go_wp2)
        go_meet
        case rel => exact ⟨_, (true), (by first | rfl | (simp; done) | (simp [*]; done)), H', ⟨by first | omega | exact Nat.le_refl _⟩, ⟨by repeat (first | (with_reducible first | exact HB.out | apply below_alloc | apply pw_below_drewN | apply below_drew1) | exact HB.out)⟩⟩
      · rw [if_neg c8] at H
        have c8b0 : decide (a2 < 0) = false := decide_eq_false c8
        clear c8
        (first | rw [c8b0] | (simp only [i64_w, i32_w]; rw [c8b0]) | skip)
        have H' := Aside0.mk H
        clear H
        go_wp2
        repeat (go_quiet (fail); try go_wp2)
        go_meet
        case rel => exact ⟨_, (decide (a2 > a0)), (by first | rfl | (simp; done) | (simp [*]; done)), H', ⟨by first | omega | exact Nat.le_refl _⟩, ⟨by repeat (first | (with_reducible first | exact HB.out | apply below_alloc | apply pw_below_drewN | apply below_drew1) | exact HB.out)⟩⟩
    case rest =>
      clear HC7
      try clear c1
      try clear c2
      try clear p2
      try clear c6
      try clear c6b0
      try clear c6b1
      try clear c8
      try clear c8b0
      obtain ⟨kq, x24_6, rfl, HA, HJ6, HB⟩ := hcut
      cases kq with
      | zero => exact absurd HA.out (by simp [bitset_Next.j0])
      | succ kj6 =>
        have H := HA.out
        clear HA
        simp only [bitset_Next.j0] at H
        by_cases c9 : x24_6 = true
        · subst c9
          have H1 : (some (0, 43)) = some (r1, r2) := by rw [if_pos rfl] at H; exact H
          clear H
          have H := H1
          clear H1
          simp only [Option.some.injEq, Prod.mk.injEq] at H
          obtain ⟨rfl, rfl⟩ := H
          go_wp2
          repeat (go_quiet (fail); try go_wp2)
          go_ret2
          exact ⟨by first | rfl | (simp [errW_none, errW_some] <;> rfl) | (simp [*, errW_none, errW_some] <;> rfl), by repeat (first | (with_reducible first | exact HB.out | apply below_alloc | apply pw_below_drewN | apply below_drew1) | exact HB.out)⟩
        · replace c9 := Bool.eq_false_iff.mpr c9
          subst c9
          have H1 : (bitset_Next.l0 kj6 a0 l1 a3 a2) = some (r1, r2) := by rw [if_neg (show ¬ (false = true) by decide)] at H; exact H
          clear H
          have H := H1
          clear H1
          have H' := Aside0.mk H
          clear H
          go_wp2
          repeat (go_quiet (fail); try go_wp2)
          go_loopg [11] kj6 (fun kq v11 w' => ∃ (x11_2 : Int), v11 = .int .i64 x11_2 ∧ Aside0 (bitset_Next.l0 kq a0 l1 a3 x11_2 = some (r1, r2)) ∧ Aside0 (kq ≤ kj6) ∧ Aside0 (Below w.heap.size w w'))
          case atStart => exact ⟨(a2), (by first | rfl | (simp; done) | (simp [*]; done)), H', ⟨Nat.le_refl _⟩, ⟨by repeat (first | (with_reducible first | exact HB.out | apply below_alloc | apply pw_below_drewN | apply below_drew1) | exact HB.out)⟩⟩
          case round =>
            clear H'
            try clear c1
            try clear c2
            try clear p2
            try clear c6
            try clear c6b0
            try clear c6b1
            try clear c8
            try clear c8b0
            try clear c9
            try clear p2
            obtain ⟨x11_2, rfl, HA, HK2, HB⟩ := hrel
            cases gk with
            | zero => exact absurd HA.out (by simp [bitset_Next.l0])
            | succ k2 =>
              have H := HA.out
              clear HA
              simp only [bitset_Next.l0] at H
              by_cases c10 : x11_2 < a0
              · rw [if_pos c10] at H
                have c10b0 : decide (x11_2 < a0) = true := decide_eq_true c10
                clear c10
                obtain ⟨ji11, hji11⟩ : ∃ j_ : Int, (wrap64 (Int.tdiv x11_2 8)) = j_ := ⟨_, rfl⟩
                replace H : (if 0 ≤ (ji11) then (if (ji11) < (l1.length : Int) then (if 0 ≤ (Int.tmod x11_2 8) then (if (((Go.bits .and .u8 (rd l1 (ji11)) (shr .u8 128 (Int.tmod x11_2 8))) != 0) == a3) = true then (some (x11_2, 0)) else (bitset_Next.l0 k2 a0 l1 a3 (wrap64 (x11_2 + 1)))) else (none)) else (none)) else (none)) = some (r1, r2) := by first | (rw [hji11] at H; exact H) | (simp only [hji11] at H ⊢; exact H)
                have hji11w : (IntKind.i64.wrap (Int.tdiv x11_2 8)) = ji11 := (i64_w _).trans hji11
                by_cases c12 : 0 ≤ (ji11)
                · rw [if_pos c12] at H
                  have c12b0 : decide (0 ≤ (ji11)) = true := decide_eq_true c12
                  clear c12
                  by_cases c13 : (ji11) < (l1.length : Int)
                  · rw [if_pos c13] at H
                    have c13b0 : decide ((ji11) < (l1.length : Int)) = true := decide_eq_true c13
                    clear c13
                    obtain ⟨ji14, hji14⟩ : ∃ j_ : Int, (Int.tmod x11_2 8) = j_ := ⟨_, rfl⟩
                    replace H : (if 0 ≤ (ji14) then (if (((Go.bits .and .u8 (rd l1 (ji11)) (shr .u8 128 (ji14))) != 0) == a3) = true then (some (x11_2, 0)) else (bitset_Next.l0 k2 a0 l1 a3 (wrap64 (x11_2 + 1)))) else (none)) = some (r1, r2) := by first | (rw [hji14] at H; exact H) | (simp only [hji14] at H ⊢; exact H)
                    by_cases c15 : 0 ≤ (ji14)
                    · rw [if_pos c15] at H
                      have c15b0 := eq_true c15
                      have c15b1 : decide (0 ≤ (ji14)) = true := decide_eq_true c15
                      clear c15
                      obtain ⟨ji16, hji16⟩ : ∃ j_ : Int, (shr .u8 128 (ji14)) = j_ := ⟨_, rfl⟩
                      replace H : (if (((Go.bits .and .u8 (rd l1 (ji11)) (ji16)) != 0) == a3) = true then (some (x11_2, 0)) else (bitset_Next.l0 k2 a0 l1 a3 (wrap64 (x11_2 + 1)))) = some (r1, r2) := by first | (rw [hji16] at H; exact H) | (simp only [hji16] at H ⊢; exact H)
                      have hji16_ : (128 / 2 ^ min (ji14).toNat 8) = ji16 := hji16
                      have hji16z : (ji14) ≤ 8 → (128 / 2 ^ (ji14).toNat) = ji16 := shr_small hji16
                      by_cases c17 : (((Go.bits .and .u8 (rd l1 (ji11)) (ji16)) != 0) == a3) = true
                      · rw [if_pos c17] at H
                        have c17b0 : (((Go.bits .and .u8 (rd l1 (ji11)) (ji16)) != 0) == a3) = true := c17
                        (try (have c17b1 : decide (((Go.bits .and .u8 (rd l1 (ji11)) (ji16)) != 0) = a3) = true := by simpa using c17))
                        (try (have c17b2 : (((Go.bits .and .u8 (rd l1 (ji11)) (ji16)) != 0) == a3) = true := by simpa using c17))
                        clear c17
                        simp only [Option.some.injEq, Prod.mk.injEq] at H
                        obtain ⟨rfl, rfl⟩ := H
                        have p193 : 0 ≤ ((ji11) : Int) := of_decide_eq_true (by first | (with_reducible assumption) | assumption)
                        have q193 : (ji11) < (l1.length : Int) := of_decide_eq_true (by first | (with_reducible assumption) | assumption)
                        obtain ⟨ad193, e193, hx193_0⟩ := Kd.at_int HR1.out (ji11) p193 q193
                        cases e193
                        replace hx193_0 := (HB.out.cell (World.block_lt_of_cell? w _ hx193_0)).trans hx193_0
                        replace p193 := eq_true p193
                        replace q193 := eq_true q193
                        go_wp2
                        have hmk : ∀ W : World, (Instr.index 68 maskV (.int .i64 (ji14))).run Try.prog W = .ok (.int .u8 (ji16)) W := by rw [← hji16]; exact mask_at (ji14) (of_decide_eq_true c15b1) (hji14 ▸ tmod8_lt _)
                        refine start_ (n := 13) (S := fun w' => w'.cell? (ad193.add (ji11).toNat) = some (.int .u8 (rd l1 ji11))) (ds := []) #[false, false, false, false, false, false, false, false, false, false, false, false, false] (by kernel_rfl) rfl rfl (hx193_0) (fun hHeld => ?_)
                        refine pure_ (i := 0) (N := some 31) (v := ?_) (a' := ?_) #[true, false, false, false, false, false, false, false, false, false, false, false, false] rfl rfl (by kernel_rfl) (fun _ _ _ h => h) (Or.inl ⟨by rfl, ?_⟩) ?_ ?_
                        rotate_left
                        · intro w'
                          go_simp
                          with_reducible rfl
                        rotate_left
                        · simp only [Act.put, List.setIfInBounds_toArray, List.set_cons_zero, List.set_cons_succ, i64_w, i32_w]
                          rfl
                        refine pure_ (i := 1) (N := some 32) (v := ?_) (a' := ?_) #[true, true, false, false, false, false, false, false, false, false, false, false, false] rfl rfl (by kernel_rfl) (fun _ _ _ h => h) (Or.inl ⟨by rfl, ?_⟩) ?_ ?_
                        rotate_left
                        · intro w'
                          go_simp
                          with_reducible rfl
                        rotate_left
                        · simp only [Act.put, List.setIfInBounds_toArray, List.set_cons_zero, List.set_cons_succ, i64_w, i32_w]
                          rfl
                        refine pure_ (i := 2) (N := some 33) (v := ?_) (a' := ?_) #[true, true, true, false, false, false, false, false, false, false, false, false, false] rfl rfl (by kernel_rfl) (fun _ _ _ h => h) (Or.inl ⟨by rfl, ?_⟩) ?_ ?_
                        rotate_left
                        · intro w'
                          go_simp
                          with_reducible rfl
                        rotate_left
                        · simp only [Act.put, List.setIfInBounds_toArray, List.set_cons_zero, List.set_cons_succ, i64_w, i32_w]
                          rfl
                        refine pure_ (i := 3) (N := some 34) (v := ?_) (a' := ?_) #[true, true, true, true, false, false, false, false, false, false, false, false, false] rfl rfl (by kernel_rfl) (fun _ _ _ h => h) (Or.inl ⟨by rfl, ?_⟩) ?_ ?_
                        rotate_left
                        · intro w'
                          go_simp
                          with_reducible rfl
                        rotate_left
                        · simp only [Act.put, List.setIfInBounds_toArray, List.set_cons_zero, List.set_cons_succ, i64_w, i32_w]
                          rfl
                        refine pure_ (i := 6) (N := some 37) (v := ?_) (a' := ?_) #[true, true, true, true, false, false, true, false, false, false, false, false, false] rfl rfl (by kernel_rfl) (fun _ _ _ h => h) (Or.inl ⟨by rfl, ?_⟩) ?_ ?_
                        rotate_left
                        · intro w'
                          go_simp
                          with_reducible rfl
                        rotate_left
                        · simp only [Act.put, List.setIfInBounds_toArray, List.set_cons_zero, List.set_cons_succ, i64_w, i32_w]
                          rfl
                        refine pure_ (i := 7) (N := some 38) (v := ?_) (a' := ?_) #[true, true, true, true, false, false, true, true, false, false, false, false, false] rfl rfl (by kernel_rfl) (fun _ _ _ h => h) (Or.inl ⟨by rfl, ?_⟩) ?_ ?_
                        rotate_left
                        · intro w'
                          go_simp
                          with_reducible rfl
                        rotate_left
                        · simp only [Act.put, List.setIfInBounds_toArray, List.set_cons_zero, List.set_cons_succ, i64_w, i32_w]
                          rfl
                        refine pure_ (i := 11) (N := some 42) (v := ?_) (a' := ?_) #[true, true, true, true, false, false, true, true, false, false, false, true, false] rfl rfl (by kernel_rfl) (fun _ _ _ h => h) (Or.inl ⟨by rfl, ?_⟩) ?_ ?_
                        rotate_left
                        · intro w'
                          go_simp
                          with_reducible rfl
                        rotate_left
                        · simp only [Act.put, List.setIfInBounds_toArray, List.set_cons_zero, List.set_cons_succ, i64_w, i32_w]
                          rfl
                        refine take_ (i := 4) (N := some 35) (v := ?_) (a' := ?_) #[true, true, true, true, true, false, true, true, false, false, false, true, false] rfl rfl (by kernel_rfl) (fun _ _ _ h => h) (Or.inl ⟨by rfl, ?_⟩) hHeld ?_ ?_
                        rotate_left
                        · intro w' s0
                          go_simp
                          with_reducible rfl
                        rotate_left
                        · simp only [Act.put, List.setIfInBounds_toArray, List.set_cons_zero, List.set_cons_succ, i64_w, i32_w]
                          rfl
                        refine one_ (i := 5) (N := some 36) #[true, true, true, true, true, true, true, true, false, false, false, true, false] rfl rfl (by kernel_rfl) (by decide) (fun K hK => ?_)
                        refine goes_ Try.func58 (by kernel_rfl) rfl #[] (by rfl) rfl rfl (by (try simp only [List.map_toArray, List.map_cons, List.map_nil]); first | done | rfl) ?_
                        with_reducible refine (masks_calls _).mono ?_
                        rintro e wm ⟨rfl, hbm⟩
                        refine ⟨_, rfl, ?_⟩
                        have hHx := (hbm.cell (World.block_lt_of_cell? _ _ hHeld)).trans hHeld
                        have n1_ := Aside0.mk (below_step (below_drew1 HB.out) hbm)
                        clear HB
                        have HB := n1_
                        clear n1_ hbm
                        refine hK.out _ _ (hHx) (fun hHeld => ?_)
                        clear hK K hHx
                        refine norm_ (a' := ?_) ?_ ?_
                        rotate_left
                        · show Act.put _ (some 36) _ = _
                          simp only [Act.put, List.setIfInBounds_toArray, List.set_cons_zero, List.set_cons_succ, i64_w, i32_w]
                          rfl
                        refine pure_ (i := 8) (N := some 39) (v := ?_) (a' := ?_) #[true, true, true, true, true, true, true, true, true, false, false, true, false] rfl rfl (by kernel_rfl) (fun _ _ _ h => h) (Or.inl ⟨by rfl, ?_⟩) ?_ ?_
                        rotate_left
                        · intro w'
                          go_simp
                          with_reducible rfl
                        rotate_left
                        · simp only [Act.put, List.setIfInBounds_toArray, List.set_cons_zero, List.set_cons_succ, i64_w, i32_w]
                          rfl
                        refine pure_ (i := 9) (N := some 40) (v := ?_) (a' := ?_) #[true, true, true, true, true, true, true, true, true, true, false, true, false] rfl rfl (by kernel_rfl) (fun _ _ _ h => h) (Or.inl ⟨by rfl, ?_⟩) ?_ ?_
                        rotate_left
                        · intro w'
                          go_simp
                          with_reducible rfl
                        rotate_left
                        · simp only [Act.put, List.setIfInBounds_toArray, List.set_cons_zero, List.set_cons_succ, i64_w, i32_w]
                          rfl
                        refine pure_ (i := 10) (N := some 41) (v := ?_) (a' := ?_) #[true, true, true, true, true, true, true, true, true, true, true, true, false] rfl rfl (by kernel_rfl) (fun _ _ _ h => h) (Or.inl ⟨by rfl, ?_⟩) ?_ ?_
                        rotate_left
                        · intro w'
                          go_simp
                          with_reducible rfl
                        rotate_left
                        · simp only [Act.put, List.setIfInBounds_toArray, List.set_cons_zero, List.set_cons_succ, i64_w, i32_w]
                          rfl
                        refine pure_ (i := 12) (N := some 43) (v := ?_) (a' := ?_) #[true, true, true, true, true, true, true, true, true, true, true, true, true] rfl rfl (by kernel_rfl) (fun _ _ _ h => h) (Or.inl ⟨by rfl, ?_⟩) ?_ ?_
                        rotate_left
                        · intro w'
                          go_simp
                          with_reducible rfl
                        rotate_left
                        · simp only [Act.put, List.setIfInBounds_toArray, List.set_cons_zero, List.set_cons_succ, i64_w, i32_w]
                          rfl
                        refine done_ (by kernel_rfl) ?_
                        go_wp2
                        go_ret2
                        exact ⟨by first | rfl | (simp [errW_none, errW_some] <;> rfl) | (simp only [← hji11, ← hji14, ← hji16]; first | rfl | (simp [errW_none, errW_some] <;> rfl)) | (simp [*, errW_none, errW_some] <;> rfl), by repeat (first | (with_reducible first | exact HB.out | apply below_alloc | apply pw_below_drewN | apply below_drew1) | exact HB.out)⟩
                      · rw [if_neg c17] at H
                        have c17b0 : (((Go.bits .and .u8 (rd l1 (ji11)) (ji16)) != 0) == a3) = false := by simpa using c17
                        (try (have c17b1 : decide (((Go.bits .and .u8 (rd l1 (ji11)) (ji16)) != 0) = a3) = false := by simpa using c17))
                        (try (have c17b2 : (((Go.bits .and .u8 (rd l1 (ji11)) (ji16)) != 0) == a3) = false := by simpa using c17))
                        (try (have c17b3 : ¬ (((Go.bits .and .u8 (rd l1 (ji11)) (ji16)) != 0) = a3) := by simpa using c17))
                        clear c17
                        have H' := Aside0.mk H
                        clear H
                        have p193 : 0 ≤ ((ji11) : Int) := of_decide_eq_true (by first | (with_reducible assumption) | assumption)
                        have q193 : (ji11) < (l1.length : Int) := of_decide_eq_true (by first | (with_reducible assumption) | assumption)
                        obtain ⟨ad193, e193, hx193_0⟩ := Kd.at_int HR1.out (ji11) p193 q193
                        cases e193
                        replace hx193_0 := (HB.out.cell (World.block_lt_of_cell? w _ hx193_0)).trans hx193_0
                        replace p193 := eq_true p193
                        replace q193 := eq_true q193
                        go_wp2
                        have hmk : ∀ W : World, (Instr.index 68 maskV (.int .i64 (ji14))).run Try.prog W = .ok (.int .u8 (ji16)) W := by rw [← hji16]; exact mask_at (ji14) (of_decide_eq_true c15b1) (hji14 ▸ tmod8_lt _)
                        refine start_ (n := 13) (S := fun w' => w'.cell? (ad193.add (ji11).toNat) = some (.int .u8 (rd l1 ji11))) (ds := []) #[false, false, false, false, false, false, false, false, false, false, false, false, false] (by kernel_rfl) rfl rfl (hx193_0) (fun hHeld => ?_)
                        refine pure_ (i := 0) (N := some 31) (v := ?_) (a' := ?_) #[true, false, false, false, false, false, false, false, false, false, false, false, false] rfl rfl (by kernel_rfl) (fun _ _ _ h => h) (Or.inl ⟨by rfl, ?_⟩) ?_ ?_
                        rotate_left
                        · intro w'
                          go_simp
                          with_reducible rfl
                        rotate_left
                        · simp only [Act.put, List.setIfInBounds_toArray, List.set_cons_zero, List.set_cons_succ, i64_w, i32_w]
                          rfl
                        refine pure_ (i := 1) (N := some 32) (v := ?_) (a' := ?_) #[true, true, false, false, false, false, false, false, false, false, false, false, false] rfl rfl (by kernel_rfl) (fun _ _ _ h => h) (Or.inl ⟨by rfl, ?_⟩) ?_ ?_
                        rotate_left
                        · intro w'
                          go_simp
                          with_reducible rfl
                        rotate_left
                        · simp only [Act.put, List.setIfInBounds_toArray, List.set_cons_zero, List.set_cons_succ, i64_w, i32_w]
                          rfl
                        refine pure_ (i := 2) (N := some 33) (v := ?_) (a' := ?_) #[true, true, true, false, false, false, false, false, false, false, false, false, false] rfl rfl (by kernel_rfl) (fun _ _ _ h => h) (Or.inl ⟨by rfl, ?_⟩) ?_ ?_
                        rotate_left
                        · intro w'
                          go_simp
                          with_reducible rfl
                        rotate_left
                        · simp only [Act.put, List.setIfInBounds_toArray, List.set_cons_zero, List.set_cons_succ, i64_w, i32_w]
                          rfl
                        refine pure_ (i := 3) (N := some 34) (v := ?_) (a' := ?_) #[true, true, true, true, false, false, false, false, false, false, false, false, false] rfl rfl (by kernel_rfl) (fun _ _ _ h => h) (Or.inl ⟨by rfl, ?_⟩) ?_ ?_
                        rotate_left
                        · intro w'
                          go_simp
                          with_reducible rfl
                        rotate_left
                        · simp only [Act.put, List.setIfInBounds_toArray, List.set_cons_zero, List.set_cons_succ, i64_w, i32_w]
                          rfl
                        refine pure_ (i := 6) (N := some 37) (v := ?_) (a' := ?_) #[true, true, true, true, false, false, true, false, false, false, false, false, false] rfl rfl (by kernel_rfl) (fun _ _ _ h => h) (Or.inl ⟨by rfl, ?_⟩) ?_ ?_
                        rotate_left
                        · intro w'
                          go_simp
                          with_reducible rfl
                        rotate_left
                        · simp only [Act.put, List.setIfInBounds_toArray, List.set_cons_zero, List.set_cons_succ, i64_w, i32_w]
                          rfl
                        refine pure_ (i := 7) (N := some 38) (v := ?_) (a' := ?_) #[true, true, true, true, false, false, true, true, false, false, false, false, false] rfl rfl (by kernel_rfl) (fun _ _ _ h => h) (Or.inl ⟨by rfl, ?_⟩) ?_ ?_
                        rotate_left
                        · intro w'
                          go_simp
                          with_reducible rfl
                        rotate_left
                        · simp only [Act.put, List.setIfInBounds_toArray, List.set_cons_zero, List.set_cons_succ, i64_w, i32_w]
                          rfl
                        refine pure_ (i := 11) (N := some 42) (v := ?_) (a' := ?_) #[true, true, true, true, false, false, true, true, false, false, false, true, false] rfl rfl (by kernel_rfl) (fun _ _ _ h => h) (Or.inl ⟨by rfl, ?_⟩) ?_ ?_
                        rotate_left
                        · intro w'
                          go_simp
                          with_reducible rfl
                        rotate_left
                        · simp only [Act.put, List.setIfInBounds_toArray, List.set_cons_zero, List.set_cons_succ, i64_w, i32_w]
                          rfl
                        refine take_ (i := 4) (N := some 35) (v := ?_) (a' := ?_) #[true, true, true, true, true, false, true, true, false, false, false, true, false] rfl rfl (by kernel_rfl) (fun _ _ _ h => h) (Or.inl ⟨by rfl, ?_⟩) hHeld ?_ ?_
                        rotate_left
                        · intro w' s0
                          go_simp
                          with_reducible rfl
                        rotate_left
                        · simp only [Act.put, List.setIfInBounds_toArray, List.set_cons_zero, List.set_cons_succ, i64_w, i32_w]
                          rfl
                        refine one_ (i := 5) (N := some 36) #[true, true, true, true, true, true, true, true, false, false, false, true, false] rfl rfl (by kernel_rfl) (by decide) (fun K hK => ?_)
                        refine goes_ Try.func58 (by kernel_rfl) rfl #[] (by rfl) rfl rfl (by (try simp only [List.map_toArray, List.map_cons, List.map_nil]); first | done | rfl) ?_
                        with_reducible refine (masks_calls _).mono ?_
                        rintro e wm ⟨rfl, hbm⟩
                        refine ⟨_, rfl, ?_⟩
                        have hHx := (hbm.cell (World.block_lt_of_cell? _ _ hHeld)).trans hHeld
                        have n1_ := Aside0.mk (below_step (below_drew1 HB.out) hbm)
                        clear HB
                        have HB := n1_
                        clear n1_ hbm
                        refine hK.out _ _ (hHx) (fun hHeld => ?_)
                        clear hK K hHx
                        refine norm_ (a' := ?_) ?_ ?_
                        rotate_left
                        · show Act.put _ (some 36) _ = _
                          simp only [Act.put, List.setIfInBounds_toArray, List.set_cons_zero, List.set_cons_succ, i64_w, i32_w]
                          rfl
                        refine pure_ (i := 8) (N := some 39) (v := ?_) (a' := ?_) #[true, true, true, true, true, true, true, true, true, false, false, true, false] rfl rfl (by kernel_rfl) (fun _ _ _ h => h) (Or.inl ⟨by rfl, ?_⟩) ?_ ?_
                        rotate_left
                        · intro w'
                          go_simp
                          with_reducible rfl
                        rotate_left
                        · simp only [Act.put, List.setIfInBounds_toArray, List.set_cons_zero, List.set_cons_succ, i64_w, i32_w]
                          rfl
                        refine pure_ (i := 9) (N := some 40) (v := ?_) (a' := ?_) #[true, true, true, true, true, true, true, true, true, true, false, true, false] rfl rfl (by kernel_rfl) (fun _ _ _ h => h) (Or.inl ⟨by rfl, ?_⟩) ?_ ?_
                        rotate_left
                        · intro w'
                          go_simp
                          with_reducible rfl
                        rotate_left
                        · simp only [Act.put, List.setIfInBounds_toArray, List.set_cons_zero, List.set_cons_succ, i64_w, i32_w]
                          rfl
                        refine pure_ (i := 10) (N := some 41) (v := ?_) (a' := ?_) #[true, true, true, true, true, true, true, true, true, true, true, true, false] rfl rfl (by kernel_rfl) (fun _ _ _ h => h) (Or.inl ⟨by rfl, ?_⟩) ?_ ?_
                        rotate_left
                        · intro w'
                          go_simp
                          with_reducible rfl
                        rotate_left
                        · simp only [Act.put, List.setIfInBounds_toArray, List.set_cons_zero, List.set_cons_succ, i64_w, i32_w]
                          rfl
                        refine pure_ (i := 12) (N := some 43) (v := ?_) (a' := ?_) #[true, true, true, true, true, true, true, true, true, true, true, true, true] rfl rfl (by kernel_rfl) (fun _ _ _ h => h) (Or.inl ⟨by rfl, ?_⟩) ?_ ?_
                        rotate_left
                        · intro w'
                          go_simp
                          with_reducible rfl
                        rotate_left
                        · simp only [Act.put, List.setIfInBounds_toArray, List.set_cons_zero, List.set_cons_succ, i64_w, i32_w]
                          rfl
                        refine done_ (by kernel_rfl) ?_
                        go_wp2
                        go_roundg k2
                        case measure => have := HJ6.out; have := HK2.out; omega
                        case rel => exact ⟨(wrap64 (x11_2 + 1)), (by first | rfl | (simp; done) | (simp [*]; done)), H', ⟨by have := HJ6.out; have := HK2.out; omega⟩, ⟨by repeat (first | (with_reducible first | exact HB.out | apply below_alloc | apply pw_below_drewN | apply below_drew1) | exact HB.out)⟩⟩
                    · rw [if_neg c15] at H
                      exact absurd H (by simp)
                  · rw [if_neg c13] at H
                    exact absurd H (by simp)
                · rw [if_neg c12] at H
                  exact absurd H (by simp)
              · rw [if_neg c10] at H
                have c10b0 : decide (x11_2 < a0) = false := decide_eq_false c10
                clear c10
                simp only [Option.some.injEq, Prod.mk.injEq] at H
                obtain ⟨rfl, rfl⟩ := H
                go_wp2
                repeat (go_quiet (fail); try go_wp2)
                go_ret2
                exact ⟨by first | rfl | (simp [errW_none, errW_some] <;> rfl) | (simp [*, errW_none, errW_some] <;> rfl), by repeat (first | (with_reducible first | exact HB.out | apply below_alloc | apply pw_below_drewN | apply below_drew1) | exact HB.out)⟩
  · rw [if_neg c6] at H
    have c6b0 : (t192 == 0) = false := beq_eq_false_iff_ne.mpr c6
    have c6b1 : (t192 != 0) = true := bne_iff_ne.mpr c6
    simp only [Option.some.injEq, Prod.mk.injEq] at H
    obtain ⟨rfl, rfl⟩ := H
    go_enter Try.func26, Try.ntmps26
    go_wp2_with (first | (go_at_call 48; (with_reducible refine (bitset_Check.calls k a0 _ _ l1 t192 _ ?side1 ?side2 A5.out).mono ?_); (case side1 => exact HR1.out); (case side2 => exact HC1.out); rintro e w' ⟨rfl, ⟨nd, rfl⟩⟩; (try first | exact ⟨rfl, _, World.drewN_drewN _ _ _⟩ | exact ⟨rfl, _, Eq.trans (World.drewN_drewN _ _ _) (congrArg (World.drewN _) (Nat.add_assoc _ _ _))⟩)))
    repeat (go_quiet (first | (go_at_call 48; (with_reducible refine (bitset_Check.calls k a0 _ _ l1 t192 _ ?side1 ?side2 A5.out).mono ?_); (case side1 => exact HR1.out); (case side2 => exact HC1.out); rintro e w' ⟨rfl, ⟨nd, rfl⟩⟩; (try first | exact ⟨rfl, _, World.drewN_drewN _ _ _⟩ | exact ⟨rfl, _, Eq.trans (World.drewN_drewN _ _ _) (congrArg (World.drewN _) (Nat.add_assoc _ _ _))⟩))); try go_wp2_with (first | (go_at_call 48; (with_reducible refine (bitset_Check.calls k a0 _ _ l1 t192 _ ?side1 ?side2 A5.out).mono ?_); (case side1 => exact HR1.out); (case side2 => exact HC1.out); rintro e w' ⟨rfl, ⟨nd, rfl⟩⟩; (try first | exact ⟨rfl, _, World.drewN_drewN _ _ _⟩ | exact ⟨rfl, _, Eq.trans (World.drewN_drewN _ _ _) (congrArg (World.drewN _) (Nat.add_assoc _ _ _))⟩))))
    go_ret2
    exact ⟨by first | rfl | (simp [errW_none, errW_some] <;> rfl) | (simp [*, errW_none, errW_some] <;> rfl), by repeat (first | (with_reducible first | exact HB.out | apply below_alloc | apply pw_below_drewN | apply below_drew1) | exact HB.out)⟩

end Go.Proofs.Ytoohpdamndgdlaa.P


-- Made by a program of this session (the print of the kit over a neighbour), for this claim.
namespace Go.Proofs.Ytoohpdamndgdlaa.P
open Go.RowKit Go.Proofs.YtoohpdamndgdlaaW.PrintWords Go.Proofs.YtoohpdamndgdlaaW.PrintLast Go.Proofs.YtoohpdamndgdlaaW.PrintMore
attribute [local go_sem] max2_int min2_int max_two min_two max_three min_three max_four min_four   -- for this text's walks alone
set_option linter.unusedVariables false
set_option linter.unusedSimpArgs false

theorem eqA59 (d : Nat) (w : World) (x0 y0 : Int) (x1 y1 : Int) :
    (Op.equalIn (d + 2) 59 (.agg #[.int .i64 x0, .int .i64 x1]) (.agg #[.int .i64 y0, .int .i64 y1])).run Try.prog w = .ok (x0 == y0 && (x1 == y1)) w := by
  refine eqA_of Try.underlying59 (by kernel_rfl) ?_
  refine eqf_cons (by rfl) (by go_simp; rfl) (by go_simp; rfl) (by go_simp) ?_
  exact eqf_last (by rfl) (by go_simp; rfl) (by go_simp; rfl) (by go_simp)
end Go.Proofs.Ytoohpdamndgdlaa.P


-- Made by a program of this session (the print of the kit over a neighbour), for this claim.
namespace Go.Proofs.Ytoohpdamndgdlaa.P
open Go.RowKit Go.Proofs.YtoohpdamndgdlaaW.PrintWords Go.Proofs.YtoohpdamndgdlaaW.PrintLast Go.Proofs.YtoohpdamndgdlaaW.PrintMore
attribute [local go_sem] max2_int min2_int max_two min_two max_three min_three max_four min_four   -- for this text's walks alone
set_option linter.unusedVariables false
set_option linter.unusedSimpArgs false

attribute [local go_sem high] eqA59
/-! ### torrentlaw4_sameRuns: function 30 -/
def torrentlaw4_sameRuns.l0 : Nat → List (S59) → List (S59) → Int → Option (Bool)
  | 0, _, _, _ => none
  | k + 1, x0, x1, x5 => if x5 < (x0.length : Int) then (if 0 ≤ x5 then (if x5 < (x1.length : Int) then (if (!(((rd_T59 x0 x5).f0) == ((rd_T59 x1 x5).f0)) || (!(((rd_T59 x0 x5).f1) == ((rd_T59 x1 x5).f1)))) = true then (some false) else (torrentlaw4_sameRuns.l0 k x0 x1 (wrap64 (x5 + 1)))) else (none)) else (none)) else (some true)
def torrentlaw4_sameRuns.f (k : Nat) (l0 : List (S59)) (l1 : List (S59)) : Option (Bool) := if (l0.length : Int) = (l1.length : Int) then (torrentlaw4_sameRuns.l0 k l0 l1 0) else (some false)
set_option maxHeartbeats 8000000 in
set_option maxRecDepth 100000 in
theorem torrentlaw4_sameRuns.calls (k : Nat) (A0 : Option Addr) (c0 : Nat) (l0 : List (S59)) (A1 : Option Addr) (c1 : Nat) (l1 : List (S59)) (r : Bool) (w : World) (hr0 : Kd.C k59 w A0 l0.length l0) (hc0 : l0.length ≤ c0) (hr1 : Kd.C k59 w A1 l1.length l1) (hc1 : l1.length ≤ c1) (h : torrentlaw4_sameRuns.f k l0 l1 = some r) :
    Calls Try.prog 30 #[.slice A0 l0.length c0, .slice A1 l1.length c1] w fun e w' => e = .returned (.bool r) ∧ Drawn0 w w' := by
  have hu59 := Try.underlying59
  have HR0 := Aside0.mk hr0
  have HC0 := Aside0.mk hc0
  clear hr0 hc0
  have HR1 := Aside0.mk hr1
  have HC1 := Aside0.mk hc1
  clear hr1 hc1
  have H : (if (l0.length : Int) = (l1.length : Int) then (torrentlaw4_sameRuns.l0 k l0 l1 0) else (some false)) = some r := h
  clear h
  by_cases c3 : (l0.length : Int) = (l1.length : Int)
  · rw [if_pos c3] at H
    have c3b0 : ((l0.length : Int) == (l1.length : Int)) = true := beq_iff_eq.mpr c3
    have c3b1 : ((l0.length : Int) != (l1.length : Int)) = false := bne_eq_false_iff_eq.mpr c3
    have c3b2 : (l0.length == l1.length) = true := by first | simpa using c3 | (simp at c3 ⊢; omega)
    clear c3
    have H' := Aside0.mk H
    clear H
    go_enter Try.func30, Try.ntmps30
    go_wp2
    repeat (go_quiet (fail); try go_wp2)
    go_loopg [5] k (fun kq v5 w' => ∃ (x5_1 : Int), v5 = .int .i64 x5_1 ∧ Aside0 (torrentlaw4_sameRuns.l0 kq l0 l1 x5_1 = some r) ∧ Aside0 (kq ≤ k) ∧ Drawn0 w w')
    case atStart => exact ⟨(0), (by first | rfl | (simp; done) | (simp [*]; done)), H', ⟨Nat.le_refl _⟩, by repeat (first | exact Drawn0.refl _ | apply Drawn0.step)⟩
    case round =>
      clear H'
      try clear c1
      try clear p2
      try clear c3
      try clear c3b0
      try clear c3b1
      try clear c3b2
      obtain ⟨x5_1, rfl, HA, HK1, ⟨m1, rfl⟩⟩ := hrel
      cases gk with
      | zero => exact absurd HA.out (by simp [torrentlaw4_sameRuns.l0])
      | succ k1 =>
        have H := HA.out
        clear HA
        simp only [torrentlaw4_sameRuns.l0] at H
        by_cases c4 : x5_1 < (l0.length : Int)
        · rw [if_pos c4] at H
          have c4b0 : decide (x5_1 < (l0.length : Int)) = true := decide_eq_true c4
          clear c4
          by_cases c5 : 0 ≤ x5_1
          · rw [if_pos c5] at H
            have c5b0 : decide (0 ≤ x5_1) = true := decide_eq_true c5
            clear c5
            by_cases c6 : x5_1 < (l1.length : Int)
            · rw [if_pos c6] at H
              have c6b0 : decide (x5_1 < (l1.length : Int)) = true := decide_eq_true c6
              clear c6
              by_cases c7 : (!(((rd_T59 l0 x5_1).f0) == ((rd_T59 l1 x5_1).f0)) || (!(((rd_T59 l0 x5_1).f1) == ((rd_T59 l1 x5_1).f1)))) = true
              · rw [if_pos c7] at H
                have c7b0 : (!(((rd_T59 l0 x5_1).f0) == ((rd_T59 l1 x5_1).f0)) || (!(((rd_T59 l0 x5_1).f1) == ((rd_T59 l1 x5_1).f1)))) = true := c7
                clear c7
                obtain rfl := Option.some.inj H
                have p240 : 0 ≤ (x5_1 : Int) := of_decide_eq_true (by first | (with_reducible assumption) | assumption)
                have q240 : x5_1 < (l0.length : Int) := of_decide_eq_true (by first | (with_reducible assumption) | assumption)
                obtain ⟨ad240, e240, hx240_0, hx240_1⟩ := at_T59 HR0.out x5_1 p240 q240
                cases e240
                replace p240 := eq_true p240
                replace q240 := eq_true q240
                have p241 : 0 ≤ (x5_1 : Int) := of_decide_eq_true (by first | (with_reducible assumption) | assumption)
                have q241 : x5_1 < (l1.length : Int) := of_decide_eq_true (by first | (with_reducible assumption) | assumption)
                obtain ⟨ad241, e241, hx241_0, hx241_1⟩ := at_T59 HR1.out x5_1 p241 q241
                cases e241
                replace p241 := eq_true p241
                replace q241 := eq_true q241
                go_wp2
                repeat (go_quiet (fail); try go_wp2)
                go_ret
                exact ⟨by first | rfl | (simp; done) | (simp [*]; done), by repeat (first | exact Drawn0.refl _ | apply Drawn0.step)⟩
              · rw [if_neg c7] at H
                have c7b0 : (!(((rd_T59 l0 x5_1).f0) == ((rd_T59 l1 x5_1).f0)) || (!(((rd_T59 l0 x5_1).f1) == ((rd_T59 l1 x5_1).f1)))) = false := by simpa using c7
                clear c7
                have H' := Aside0.mk H
                clear H
                have p240 : 0 ≤ (x5_1 : Int) := of_decide_eq_true (by first | (with_reducible assumption) | assumption)
                have q240 : x5_1 < (l0.length : Int) := of_decide_eq_true (by first | (with_reducible assumption) | assumption)
                obtain ⟨ad240, e240, hx240_0, hx240_1⟩ := at_T59 HR0.out x5_1 p240 q240
                cases e240
                replace p240 := eq_true p240
                replace q240 := eq_true q240
                have p241 : 0 ≤ (x5_1 : Int) := of_decide_eq_true (by first | (with_reducible assumption) | assumption)
                have q241 : x5_1 < (l1.length : Int) := of_decide_eq_true (by first | (with_reducible assumption) | assumption)
                obtain ⟨ad241, e241, hx241_0, hx241_1⟩ := at_T59 HR1.out x5_1 p241 q241
                cases e241
                replace p241 := eq_true p241
                replace q241 := eq_true q241
                go_wp2
                repeat (go_quiet (fail); try go_wp2)
                go_roundg k1
                case measure => have := HK1.out; omega
                case rel => exact ⟨(wrap64 (x5_1 + 1)), (by first | rfl | (simp; done) | (simp [*]; done)), H', ⟨by have := HK1.out; omega⟩, by repeat (first | exact Drawn0.refl _ | apply Drawn0.step)⟩
            · rw [if_neg c6] at H
              exact absurd H (by simp)
          · rw [if_neg c5] at H
            exact absurd H (by simp)
        · rw [if_neg c4] at H
          have c4b0 : decide (x5_1 < (l0.length : Int)) = false := decide_eq_false c4
          clear c4
          obtain rfl := Option.some.inj H
          go_wp2
          repeat (go_quiet (fail); try go_wp2)
          go_ret
          exact ⟨by first | rfl | (simp; done) | (simp [*]; done), by repeat (first | exact Drawn0.refl _ | apply Drawn0.step)⟩
  · rw [if_neg c3] at H
    have c3b0 : ((l0.length : Int) == (l1.length : Int)) = false := beq_eq_false_iff_ne.mpr c3
    have c3b1 : ((l0.length : Int) != (l1.length : Int)) = true := bne_iff_ne.mpr c3
    have c3b2 : (l0.length == l1.length) = false := by first | simpa using c3 | (simp at c3 ⊢; omega)
    obtain rfl := Option.some.inj H
    go_enter Try.func30, Try.ntmps30
    go_wp2
    repeat (go_quiet (fail); try go_wp2)
    go_ret
    exact ⟨by first | rfl | (simp; done) | (simp [*]; done), by repeat (first | exact Drawn0.refl _ | apply Drawn0.step)⟩

end Go.Proofs.Ytoohpdamndgdlaa.P


-- Made by a program of this session (the print of the kit over a neighbour), for this claim.
namespace Go.Proofs.Ytoohpdamndgdlaa.P
open Go.RowKit Go.Proofs.YtoohpdamndgdlaaW.PrintWords Go.Proofs.YtoohpdamndgdlaaW.PrintLast Go.Proofs.YtoohpdamndgdlaaW.PrintMore
attribute [local go_sem] max2_int min2_int max_two min_two max_three min_three max_four min_four   -- for this text's walks alone
set_option linter.unusedVariables false
set_option linter.unusedSimpArgs false

/-! ### torrentlaw4_sameInts: function 22 -/
def torrentlaw4_sameInts.l0 : Nat → List Int → List Int → Int → Option (Bool)
  | 0, _, _, _ => none
  | k + 1, x0, x1, x5 => if x5 < (x0.length : Int) then (if 0 ≤ x5 then (if x5 < (x1.length : Int) then (if (rd x0 x5) = (rd x1 x5) then (torrentlaw4_sameInts.l0 k x0 x1 (wrap64 (x5 + 1))) else (some false)) else (none)) else (none)) else (some true)
def torrentlaw4_sameInts.f (k : Nat) (l0 : List Int) (l1 : List Int) : Option (Bool) := if (l0.length : Int) = (l1.length : Int) then (torrentlaw4_sameInts.l0 k l0 l1 0) else (some false)
set_option maxHeartbeats 8000000 in
set_option maxRecDepth 100000 in
theorem torrentlaw4_sameInts.calls (k : Nat) (A0 : Option Addr) (c0 : Nat) (l0 : List Int) (A1 : Option Addr) (c1 : Nat) (l1 : List Int) (r : Bool) (w : World) (hr0 : Kd.C (Kd.int .i64) w A0 l0.length l0) (hc0 : l0.length ≤ c0) (hr1 : Kd.C (Kd.int .i64) w A1 l1.length l1) (hc1 : l1.length ≤ c1) (h : torrentlaw4_sameInts.f k l0 l1 = some r) :
    Calls Try.prog 22 #[.slice A0 l0.length c0, .slice A1 l1.length c1] w fun e w' => e = .returned (.bool r) ∧ Drawn0 w w' := by
  have HR0 := Aside0.mk hr0
  have HC0 := Aside0.mk hc0
  clear hr0 hc0
  have HR1 := Aside0.mk hr1
  have HC1 := Aside0.mk hc1
  clear hr1 hc1
  have H : (if (l0.length : Int) = (l1.length : Int) then (torrentlaw4_sameInts.l0 k l0 l1 0) else (some false)) = some r := h
  clear h
  by_cases c3 : (l0.length : Int) = (l1.length : Int)
  · rw [if_pos c3] at H
    have c3b0 : ((l0.length : Int) == (l1.length : Int)) = true := beq_iff_eq.mpr c3
    have c3b1 : ((l0.length : Int) != (l1.length : Int)) = false := bne_eq_false_iff_eq.mpr c3
    have c3b2 : (l0.length == l1.length) = true := by first | simpa using c3 | (simp at c3 ⊢; omega)
    clear c3
    have H' := Aside0.mk H
    clear H
    go_enter Try.func22, Try.ntmps22
    go_wp2
    repeat (go_quiet (fail); try go_wp2)
    go_loopg [5] k (fun kq v5 w' => ∃ (x5_1 : Int), v5 = .int .i64 x5_1 ∧ Aside0 (torrentlaw4_sameInts.l0 kq l0 l1 x5_1 = some r) ∧ Aside0 (kq ≤ k) ∧ Drawn0 w w')
    case atStart => exact ⟨(0), (by first | rfl | (simp; done) | (simp [*]; done)), H', ⟨Nat.le_refl _⟩, by repeat (first | exact Drawn0.refl _ | apply Drawn0.step)⟩
    case round =>
      clear H'
      try clear c1
      try clear c2
      try clear p2
      try clear c3
      try clear c3b0
      try clear c3b1
      try clear c3b2
      obtain ⟨x5_1, rfl, HA, HK1, ⟨m1, rfl⟩⟩ := hrel
      cases gk with
      | zero => exact absurd HA.out (by simp [torrentlaw4_sameInts.l0])
      | succ k1 =>
        have H := HA.out
        clear HA
        simp only [torrentlaw4_sameInts.l0] at H
        by_cases c4 : x5_1 < (l0.length : Int)
        · rw [if_pos c4] at H
          have c4b0 : decide (x5_1 < (l0.length : Int)) = true := decide_eq_true c4
          clear c4
          by_cases c5 : 0 ≤ x5_1
          · rw [if_pos c5] at H
            have c5b0 : decide (0 ≤ x5_1) = true := decide_eq_true c5
            clear c5
            by_cases c6 : x5_1 < (l1.length : Int)
            · rw [if_pos c6] at H
              have c6b0 : decide (x5_1 < (l1.length : Int)) = true := decide_eq_true c6
              clear c6
              by_cases c7 : (rd l0 x5_1) = (rd l1 x5_1)
              · rw [if_pos c7] at H
                have c7b0 : ((rd l0 x5_1) == (rd l1 x5_1)) = true := beq_iff_eq.mpr c7
                have c7b1 : ((rd l0 x5_1) != (rd l1 x5_1)) = false := bne_eq_false_iff_eq.mpr c7
                clear c7
                have H' := Aside0.mk H
                clear H
                have p171 : 0 ≤ (x5_1 : Int) := of_decide_eq_true (by first | (with_reducible assumption) | assumption)
                have q171 : x5_1 < (l0.length : Int) := of_decide_eq_true (by first | (with_reducible assumption) | assumption)
                obtain ⟨ad171, e171, hx171_0⟩ := Kd.at_int HR0.out x5_1 p171 q171
                cases e171
                replace p171 := eq_true p171
                replace q171 := eq_true q171
                have p172 : 0 ≤ (x5_1 : Int) := of_decide_eq_true (by first | (with_reducible assumption) | assumption)
                have q172 : x5_1 < (l1.length : Int) := of_decide_eq_true (by first | (with_reducible assumption) | assumption)
                obtain ⟨ad172, e172, hx172_0⟩ := Kd.at_int HR1.out x5_1 p172 q172
                cases e172
                replace p172 := eq_true p172
                replace q172 := eq_true q172
                go_wp2
                repeat (go_quiet (fail); try go_wp2)
                go_roundg k1
                case measure => have := HK1.out; omega
                case rel => exact ⟨(wrap64 (x5_1 + 1)), (by first | rfl | (simp; done) | (simp [*]; done)), H', ⟨by have := HK1.out; omega⟩, by repeat (first | exact Drawn0.refl _ | apply Drawn0.step)⟩
              · rw [if_neg c7] at H
                have c7b0 : ((rd l0 x5_1) == (rd l1 x5_1)) = false := beq_eq_false_iff_ne.mpr c7
                have c7b1 : ((rd l0 x5_1) != (rd l1 x5_1)) = true := bne_iff_ne.mpr c7
                obtain rfl := Option.some.inj H
                have p171 : 0 ≤ (x5_1 : Int) := of_decide_eq_true (by first | (with_reducible assumption) | assumption)
                have q171 : x5_1 < (l0.length : Int) := of_decide_eq_true (by first | (with_reducible assumption) | assumption)
                obtain ⟨ad171, e171, hx171_0⟩ := Kd.at_int HR0.out x5_1 p171 q171
                cases e171
                replace p171 := eq_true p171
                replace q171 := eq_true q171
                have p172 : 0 ≤ (x5_1 : Int) := of_decide_eq_true (by first | (with_reducible assumption) | assumption)
                have q172 : x5_1 < (l1.length : Int) := of_decide_eq_true (by first | (with_reducible assumption) | assumption)
                obtain ⟨ad172, e172, hx172_0⟩ := Kd.at_int HR1.out x5_1 p172 q172
                cases e172
                replace p172 := eq_true p172
                replace q172 := eq_true q172
                go_wp2
                repeat (go_quiet (fail); try go_wp2)
                go_ret
                exact ⟨by first | rfl | (simp; done) | (simp [*]; done), by repeat (first | exact Drawn0.refl _ | apply Drawn0.step)⟩
            · rw [if_neg c6] at H
              exact absurd H (by simp)
          · rw [if_neg c5] at H
            exact absurd H (by simp)
        · rw [if_neg c4] at H
          have c4b0 : decide (x5_1 < (l0.length : Int)) = false := decide_eq_false c4
          clear c4
          obtain rfl := Option.some.inj H
          go_wp2
          repeat (go_quiet (fail); try go_wp2)
          go_ret
          exact ⟨by first | rfl | (simp; done) | (simp [*]; done), by repeat (first | exact Drawn0.refl _ | apply Drawn0.step)⟩
  · rw [if_neg c3] at H
    have c3b0 : ((l0.length : Int) == (l1.length : Int)) = false := beq_eq_false_iff_ne.mpr c3
    have c3b1 : ((l0.length : Int) != (l1.length : Int)) = true := bne_iff_ne.mpr c3
    have c3b2 : (l0.length == l1.length) = false := by first | simpa using c3 | (simp at c3 ⊢; omega)
    obtain rfl := Option.some.inj H
    go_enter Try.func22, Try.ntmps22
    go_wp2
    repeat (go_quiet (fail); try go_wp2)
    go_ret
    exact ⟨by first | rfl | (simp; done) | (simp [*]; done), by repeat (first | exact Drawn0.refl _ | apply Drawn0.step)⟩

end Go.Proofs.Ytoohpdamndgdlaa.P

