-- Merged by a program of this session out of the texts QAlgBase, QAlg, PureBitsetAlgebra of this claim's own.
import Derived.Test.YtoohpdamndgdlaaZBitsetAlgebra3

/- What the law Algebra needs of the plain law (told out of the Q texts by a program). Conditions: bytes. -/
set_option linter.unusedVariables false
set_option linter.unusedSimpArgs false
namespace Go.Proofs.Ytoohpdamndgdlaa.B
open Go.RowKit Go.Proofs.Ytoohpdamndgdlaa.P Go.Proofs.YtoohpdamndgdlaaW.PrintWords Go.Proofs.YtoohpdamndgdlaaW.PrintLast Go.Proofs.YtoohpdamndgdlaaW.PrintMore
theorem spare_mask (x : Int) (hx : 0 ≤ x ∧ x < 256) (t : Nat) (h : t < 8) : Go.bits .and .u8 x (shr .u8 255 (t : Int)) = x % 2 ^ (8 - t) := by
  have e : shr .u8 255 (t : Int) = 2 ^ (8 - t) - 1 := by
    match t, h with
    | 0, _ | 1, _ | 2, _ | 3, _ | 4, _ | 5, _ | 6, _ | 7, _ => decide
  rw [e]
  exact bits_mask .u8 8 (by decide) wraps_u8 (8 - t) (by omega) x hx.1 (by omega)
theorem check_ok {n : Int} {l : List Int} (h : Ev (fun k => bitset_Check.f k n l) 0) : ∃ m : Nat, n = m ∧ m ≤ 65536 ∧ l.length = (m + 7) / 8 := by
  obtain ⟨k, hk⟩ := h.rounds
  exact check_zero hk
def onesL (l : List Int) (j : Nat) : List Int := ((List.range j).filter (gbit l)).map (fun (i : Nat) => (i : Int))
theorem onesL_succ (l : List Int) (j : Nat) : onesL l (j + 1) = if gbit l j then onesL l j ++ [(j : Int)] else onesL l j := by
  unfold onesL
  rw [List.range_succ, List.filter_append, List.map_append]
  cases h : gbit l j <;> simp [h]
theorem onesL_le (l : List Int) (j : Nat) : (onesL l j).length ≤ j := by
  unfold onesL
  rw [List.length_map]
  exact Nat.le_trans (List.length_filter_le _ _) (by simp)
theorem mask_zero (l : List Int) (hx : IsB l) (i : Nat) (hi : i ≤ 65536) : ((Go.bits .and .u8 (rd l (wrap64 (Int.tdiv (i : Int) 8))) (shr .u8 128 (Int.tmod (i : Int) 8))) = 0) = (gbit l i = false) := propext (get_mask l hx i hi)
theorem count_l (m : Nat) (hm : m ≤ 65536) (l : List Int) (hx : IsB l) (hl : l.length = (m + 7) / 8) : ∀ (d i : Nat), i + d = m → Ev (fun k => bitset_Count.l0 k (m : Int) l ((onesL l i).length : Int) (i : Int)) (((onesL l m).length : Int), 0)
  | 0, i, h => Ev.step (f := fun _ => some (((onesL l m).length : Int), 0)) (fun k => by
      simp only [bitset_Count.l0]
      rw [if_neg (by omega), show i = m by omega]) (Ev.now _)
  | d + 1, i, h => by
    obtain ⟨g1, g2, g3⟩ := tests_in l i (by omega) (by omega)
    have hle := onesL_le l i
    refine Ev.step (f := fun k => bitset_Count.l0 k (m : Int) l ((onesL l (i + 1)).length : Int) ((i + 1 : Nat) : Int)) (fun k => ?_) (count_l m hm l hx hl d (i + 1) (by omega))
    simp only [bitset_Count.l0]
    rw [if_pos (by omega), if_pos g1, if_pos g2, if_pos g3, inc i (by omega), inc (onesL l i).length (by omega), onesL_succ]
    simp only [mask_zero l hx i (by omega)]
    cases hb : gbit l i with
    | false => rw [if_pos rfl]; rfl
    | true => rw [if_neg (by decide), if_pos rfl, List.length_append]; rfl
/-- No spare bit is set, where Check is content. -/
theorem spare_none {m : Nat} {l : List Int} (hx : IsB l) (hl : l.length ≤ 140737488351232) (h : Ev (fun k => bitset_Check.f k (m : Int) l) 0) (i : Nat) (h1 : m ≤ i) (h2 : i < 8 * l.length) : gbit l i = false := by
  obtain ⟨m', e, hm, hlen⟩ := check_ok h
  obtain rfl : m = m' := by omega
  have h8 : m % 8 ≠ 0 := by omega
  have h88 := Nat.mod_lt m (show 8 > 0 by decide)
  have hxb := hx.getD (m / 8)
  have hs := spare_mask _ hxb (m % 8) h88
  have e1 : ∀ k, bitset_Check.f k (m : Int) l = bitset_Check.j0 k (m : Int) l false := fun k => by
    unfold bitset_Check.f
    rw [if_neg (by omega), decide_eq_false (by omega)]
  obtain ⟨K, hK⟩ := h
  have := hK (K + 1) (by omega)
  simp only [e1, bitset_Check.j0] at this
  rw [if_neg (by decide), size_f m hm] at this
  simp only [Option.bind_some] at this
  rw [if_pos (by omega), rem8, quo8 m (by omega), if_neg (by omega), if_pos (by omega), if_pos (by omega), if_pos (by omega), rd_nat, hs] at this
  have hz : l.getD (m / 8) 0 % 2 ^ (8 - m % 8) = 0 := by
    by_cases hz : l.getD (m / 8) 0 % 2 ^ (8 - m % 8) = 0
    · exact hz
    · rw [if_neg hz] at this
      simp at this
  unfold gbit
  rw [show i / 8 = m / 8 by omega]
  obtain ⟨a, ha⟩ : ∃ a : Nat, l.getD (m / 8) 0 = a := ⟨(l.getD (m / 8) 0).toNat, by omega⟩
  rw [ha] at hz ⊢
  rw [Int.toNat_natCast]
  have hz2 : a % 2 ^ (8 - m % 8) = 0 := by exact_mod_cast hz
  have := Nat.testBit_mod_two_pow a (8 - m % 8) (7 - i % 8)
  rw [hz2, Nat.zero_testBit] at this
  have hlt : 7 - i % 8 < 8 - m % 8 := by omega
  simpa [hlt] using this.symm
/-- A bitfield that Check takes is packed. -/
theorem packed_of_check {m : Nat} {l : List Int} (hx : IsB l) (hl : l.length ≤ 140737488351232) (h : Ev (fun k => bitset_Check.f k (m : Int) l) 0) : Packed (gbit l) m l := by
  obtain ⟨m', e, hm, hlen⟩ := check_ok h
  obtain rfl : m = m' := by omega
  refine ⟨hlen, hx, fun i hi => ?_⟩
  by_cases h1 : i < m
  · simp [h1]
  · rw [spare_none hx hl h i (by omega) hi]
    simp
/-- Does the place j stand among these? -/
def among (l : List Int) (j : Nat) : Bool := l.any fun x => decide (x = (j : Int))
theorem among_nil (j : Nat) : among [] j = false := rfl
theorem among_take_succ (l : List Int) (i j : Nat) (hi : i < l.length) : among (l.take (i + 1)) j = (among (l.take i) j || decide (l.getD i 0 = (j : Int))) := by
  unfold among
  rw [List.take_succ_eq_append_getElem hi, List.any_append]
  simp [List.getD_eq_getElem?_getD, List.getElem?_eq_getElem hi]
theorem has_l (l : List Int) (hl : l.length ≤ 9223372036854775807) (j : Nat) : ∀ (d i : Nat), i + d = l.length → among (l.take i) j = false → Ev (fun k => torrentlaw4_has.l0 k l (j : Int) (i : Int)) (among l j)
  | 0, i, h, hn => by
    rw [List.take_of_length_le (by omega)] at hn
    refine Ev.step (f := fun _ => some (among l j)) (fun k => ?_) (Ev.now _)
    simp only [torrentlaw4_has.l0]
    rw [if_neg (by omega), hn]
  | d + 1, i, h, hn => by
    have e0 : ∀ k, torrentlaw4_has.l0 (k + 1) l (j : Int) (i : Int) = if l.getD i 0 = (j : Int) then some true else torrentlaw4_has.l0 k l (j : Int) ((i + 1 : Nat) : Int) := fun k => by
      simp only [torrentlaw4_has.l0]
      rw [if_pos (by omega), if_pos (by omega), rd_nat, inc i (by omega)]
    by_cases hv : l.getD i 0 = (j : Int)
    · have : among l j = true := by
        unfold among
        rw [List.any_eq_true]
        refine ⟨l.getD i 0, ?_, by simpa using hv⟩
        rw [List.getD_eq_getElem?_getD, List.getElem?_eq_getElem (by omega)]
        exact List.getElem_mem _
      rw [this]
      exact Ev.step (f := fun _ => some true) (fun k => by rw [e0, if_pos hv]) (Ev.now _)
    · refine Ev.step (fun k => by rw [e0, if_neg hv]) (has_l l hl j d (i + 1) (by omega) ?_)
      rw [among_take_succ l i j (by omega), hn, decide_eq_false hv]
      rfl
theorem has_f (l : List Int) (hl : l.length ≤ 9223372036854775807) (j : Nat) : Ev (fun k => torrentlaw4_has.f k l (j : Int)) (among l j) := has_l l hl j l.length 0 (by omega) rfl
theorem count_is {m : Nat} {l : List Int} (hx : IsB l) (hc : Ev (fun k => bitset_Check.f k (m : Int) l) 0) : Ev (fun k => bitset_Count.f k (m : Int) l) (((onesL l m).length : Int), 0) := by
  obtain ⟨m', e, hm, hlen⟩ := check_ok hc
  obtain rfl : m = m' := by omega
  exact Ev.bind hc (Ev.congr (fun k => if_pos rfl) (count_l m hm l hx hlen m 0 (by omega)))
theorem qfull_l (n : Nat) (hn : n ≤ 65536) : ∀ (d i : Nat) (xs : List Int), i + d = n → IsB xs → xs.length = (n + 7) / 8 → (∀ j, j < 8 * xs.length → gbit xs j = decide (j < i)) →
    ∃ r, Ev (fun k => bitset_Full.l0 k xs (n : Int) (i : Int)) (r, 0) ∧ Packed (fun _ => true) n r
  | 0, i, xs, hd, hx, hl, hb => by
    obtain rfl : i = n := by omega
    refine ⟨xs, Ev.step (f := fun _ => some (xs, 0)) (fun k => ?_) (Ev.now _), hl, hx, fun j hj => by rw [hb j hj]; simp⟩
    simp only [bitset_Full.l0]
    rw [if_neg (by omega)]
  | d + 1, i, xs, hd, hx, hl, hb => by
    obtain ⟨r, hr, hp⟩ := qfull_l n hn d (i + 1) (put1 xs i) (by omega) (put1_isB hx i) (by rw [put1_length]; exact hl) (fun j hj => by
      rw [put1_length] at hj
      rw [put1_bit hx i j (by omega), hb j hj]
      by_cases h : j = i
      · subst h; simp
      · by_cases h2 : j < i
        · simp [h, h2, show j < i + 1 by omega]
        · simp [h, h2, show ¬ j < i + 1 by omega])
    refine ⟨r, Ev.step (f := fun k => bitset_Full.l0 k (put1 xs i) (n : Int) ((i + 1 : Nat) : Int)) (fun k => ?_) hr, hp⟩
    obtain ⟨g1, g2, g3⟩ := tests_in xs i (by omega) (by omega)
    simp only [bitset_Full.l0]
    rw [if_pos (by omega), if_pos g1, if_pos g2, if_pos g3, set_mask xs i (by omega), inc i (by omega)]
theorem qfull_ok (n : Nat) (h : n ≤ 65536) : ∃ r, Ev (fun k => bitset_Full.f k (n : Int)) (r, 0) ∧ Packed (fun _ => true) n r := by
  obtain ⟨r, hr, hp⟩ := qfull_l n h n 0 (List.replicate ((n + 7) / 8) 0) (by omega) (IsB.replicate _) (by simp) (fun j hj => by rw [gbit_replicate]; simp)
  refine ⟨r, Ev.congr (fun k => ?_) hr, hp⟩
  unfold bitset_Full.f
  rw [make_ok n h]
  simp only [Option.bind_some]
  rw [if_pos trivial]
  rfl
/-- A packed bitfield passes Check. -/
theorem check_packed {p : Nat → Bool} {m : Nat} {l : List Int} (hm : m ≤ 65536) (hp : Packed p m l) : Ev (fun k => bitset_Check.f k (m : Int) l) 0 := by
  have hlen := hp.len
  have hx := hp.isB
  have e1 : ∀ k, bitset_Check.f k (m : Int) l = bitset_Check.j0 k (m : Int) l false := fun k => by
    unfold bitset_Check.f
    rw [if_neg (by omega), decide_eq_false (by omega)]
  refine Ev.congr e1 (Ev.step (f := fun _ => some 0) (fun k => ?_) (Ev.now _))
  simp only [bitset_Check.j0]
  rw [if_neg (by decide), size_f m hm]
  simp only [Option.bind_some]
  rw [if_pos (by omega), rem8]
  by_cases h8 : m % 8 = 0
  · rw [if_pos (by omega)]
  · have h88 := Nat.mod_lt m (show 8 > 0 by decide)
    have hxb := hx.getD (m / 8)
    rw [quo8 m (by omega), if_neg (by omega), if_pos (by omega), if_pos (by omega), if_pos (by omega), rd_nat, spare_mask _ hxb (m % 8) h88]
    have hz : l.getD (m / 8) 0 % 2 ^ (8 - m % 8) = 0 := by
      obtain ⟨a, ha⟩ : ∃ a : Nat, l.getD (m / 8) 0 = a := ⟨(l.getD (m / 8) 0).toNat, by omega⟩
      rw [ha]
      have hz2 : a % 2 ^ (8 - m % 8) = 0 := by
        apply Nat.eq_of_testBit_eq
        intro j
        rw [Nat.testBit_mod_two_pow, Nat.zero_testBit]
        by_cases hj : j < 8 - m % 8
        · have h1 := hp.bit (8 * (m / 8) + (7 - j)) (by omega)
          unfold gbit at h1
          rw [show (8 * (m / 8) + (7 - j)) / 8 = m / 8 by omega, show 7 - (8 * (m / 8) + (7 - j)) % 8 = j by omega, ha, Int.toNat_natCast, decide_eq_false (by omega)] at h1
          rw [h1]
          simp
        · simp [hj]
      exact_mod_cast hz2
    rw [if_pos hz]
def comb (how : Int) (x y : Bool) : Bool := if how = 1 then x && y else if how = 2 then x || y else x && !y
theorem byte_step (op : BinOp) (how : Int) (hop : op = .and ∧ how = 1 ∨ op = .or ∧ how = 2 ∨ op = .andNot ∧ how = 3) {a b c : List Int} (ha : IsB a) (hb : IsB b) (hc : IsB c) (i : Nat) (hi : i < c.length) (h : ∀ q, q < 8 * i → gbit c q = comb how (gbit a q) (gbit b q)) :
    IsB (c.set i (Go.bits op .u8 (a.getD i 0) (b.getD i 0))) ∧ ∀ q, q < 8 * (i + 1) → gbit (c.set i (Go.bits op .u8 (a.getD i 0) (b.getD i 0))) q = comb how (gbit a q) (gbit b q) := by
  obtain ⟨h1, h2⟩ := bits_byte op (by rcases hop with ⟨h, _⟩ | ⟨h, _⟩ | ⟨h, _⟩ <;> simp [h]) _ _ (ha.getD i) (hb.getD i)
  refine ⟨hc.set i h1, fun q hq => ?_⟩
  rw [gbit_set _ _ _ _ hi]
  by_cases hqi : q / 8 = i
  · rw [if_pos hqi, h2 _ (by omega)]
    unfold gbit
    rw [hqi]
    rcases hop with ⟨rfl, rfl⟩ | ⟨rfl, rfl⟩ | ⟨rfl, rfl⟩ <;> simp [opb, comb]
  · rw [if_neg hqi]
    exact h q (by omega)
theorem comb_packed (how : Int) (hh : how = 1 ∨ how = 2 ∨ how = 3) {m : Nat} {a b r : List Int} {p q : Nat → Bool} (hp : Packed p m a) (hq : Packed q m b) (hl : r.length = a.length) (hx : IsB r) (h : ∀ q, q < 8 * a.length → gbit r q = comb how (gbit a q) (gbit b q)) : Packed (fun q => comb how (gbit a q) (gbit b q)) m r := by
  have h1 := hp.len
  have h2 := hq.len
  refine ⟨hl.trans h1, hx, fun i hi => ?_⟩
  rw [h i (by omega), hp.bit i (by omega), hq.bit i (by omega)]
  by_cases him : i < m
  · simp [him]
  · rcases hh with rfl | rfl | rfl <;> simp [him, comb]
theorem and_l {a b : List Int} (ha : IsB a) (hb : IsB b) (L : Nat) (la : a.length = L) (lb : b.length = L) (hL : L ≤ 8192) : ∀ (d i : Nat) (c : List Int), i + d = L → c.length = L → IsB c → (∀ q, q < 8 * i → gbit c q = comb 1 (gbit a q) (gbit b q)) →
    ∃ r, Ev (fun k => bitset_And.l0 k a b c (L : Int) (i : Int)) (r, 0) ∧ r.length = L ∧ IsB r ∧ ∀ q, q < 8 * L → gbit r q = comb 1 (gbit a q) (gbit b q)
  | 0, i, c, h, hc, hx, hq => by
    obtain rfl : i = L := by omega
    refine ⟨c, Ev.step (f := fun _ => some (c, 0)) (fun k => ?_) (Ev.now _), hc, hx, hq⟩
    simp only [bitset_And.l0]
    rw [if_neg (by omega)]
  | d + 1, i, c, h, hc, hx, hq => by
    obtain ⟨g1, g2⟩ := byte_step .and 1 (by simp) ha hb hx i (by omega) hq
    obtain ⟨r, hr, hs⟩ := and_l ha hb L la lb hL d (i + 1) _ (by omega) (by rw [List.length_set]; exact hc) g1 g2
    refine ⟨r, Ev.step (fun k => ?_) hr, hs⟩
    simp only [bitset_And.l0]
    rw [if_pos (by omega), if_pos (by omega), if_pos (by omega), if_pos (by omega), if_pos (by omega), rd_nat, rd_nat, inc i (by omega), Int.toNat_natCast]
theorem and_ok {m : Nat} (hm : m ≤ 65536) {a b : List Int} {p q : Nat → Bool} (hp : Packed p m a) (hq : Packed q m b) (hc : Ev (fun k => bitset_both.f k (m : Int) a b) 0) : ∃ r, Ev (fun k => bitset_And.f k (m : Int) a b) (r, 0) ∧ Packed (fun q => comb 1 (gbit a q) (gbit b q)) m r := by
  have h1 := hp.len
  have h2 := hq.len
  obtain ⟨r, hr, h3, h4, h5⟩ := and_l hp.isB hq.isB a.length rfl (by omega) (by omega) a.length 0 (List.replicate a.length 0) (by omega) (by simp) (IsB.replicate _) (fun q h => by omega)
  refine ⟨r, Ev.bind hc (Ev.congr (fun k => ?_) hr), comb_packed 1 (by simp) hp hq h3 h4 h5⟩
  rw [if_pos rfl, if_pos (by omega), if_pos (by omega), Int.toNat_natCast]
  simp only [Option.bind_some, List.length_replicate]
  rfl
theorem or_l {a b : List Int} (ha : IsB a) (hb : IsB b) (L : Nat) (la : a.length = L) (lb : b.length = L) (hL : L ≤ 8192) : ∀ (d i : Nat) (c : List Int), i + d = L → c.length = L → IsB c → (∀ q, q < 8 * i → gbit c q = comb 2 (gbit a q) (gbit b q)) →
    ∃ r, Ev (fun k => bitset_Or.l0 k a b c (L : Int) (i : Int)) (r, 0) ∧ r.length = L ∧ IsB r ∧ ∀ q, q < 8 * L → gbit r q = comb 2 (gbit a q) (gbit b q)
  | 0, i, c, h, hc, hx, hq => by
    obtain rfl : i = L := by omega
    refine ⟨c, Ev.step (f := fun _ => some (c, 0)) (fun k => ?_) (Ev.now _), hc, hx, hq⟩
    simp only [bitset_Or.l0]
    rw [if_neg (by omega)]
  | d + 1, i, c, h, hc, hx, hq => by
    obtain ⟨g1, g2⟩ := byte_step .or 2 (by simp) ha hb hx i (by omega) hq
    obtain ⟨r, hr, hs⟩ := or_l ha hb L la lb hL d (i + 1) _ (by omega) (by rw [List.length_set]; exact hc) g1 g2
    refine ⟨r, Ev.step (fun k => ?_) hr, hs⟩
    simp only [bitset_Or.l0]
    rw [if_pos (by omega), if_pos (by omega), if_pos (by omega), if_pos (by omega), if_pos (by omega), rd_nat, rd_nat, inc i (by omega), Int.toNat_natCast]
theorem or_ok {m : Nat} (hm : m ≤ 65536) {a b : List Int} {p q : Nat → Bool} (hp : Packed p m a) (hq : Packed q m b) (hc : Ev (fun k => bitset_both.f k (m : Int) a b) 0) : ∃ r, Ev (fun k => bitset_Or.f k (m : Int) a b) (r, 0) ∧ Packed (fun q => comb 2 (gbit a q) (gbit b q)) m r := by
  have h1 := hp.len
  have h2 := hq.len
  obtain ⟨r, hr, h3, h4, h5⟩ := or_l hp.isB hq.isB a.length rfl (by omega) (by omega) a.length 0 (List.replicate a.length 0) (by omega) (by simp) (IsB.replicate _) (fun q h => by omega)
  refine ⟨r, Ev.bind hc (Ev.congr (fun k => ?_) hr), comb_packed 2 (by simp) hp hq h3 h4 h5⟩
  rw [if_pos rfl, if_pos (by omega), if_pos (by omega), Int.toNat_natCast]
  simp only [Option.bind_some, List.length_replicate]
  rfl
theorem minus_l {a b : List Int} (ha : IsB a) (hb : IsB b) (L : Nat) (la : a.length = L) (lb : b.length = L) (hL : L ≤ 8192) : ∀ (d i : Nat) (c : List Int), i + d = L → c.length = L → IsB c → (∀ q, q < 8 * i → gbit c q = comb 3 (gbit a q) (gbit b q)) →
    ∃ r, Ev (fun k => bitset_Minus.l0 k a b c (L : Int) (i : Int)) (r, 0) ∧ r.length = L ∧ IsB r ∧ ∀ q, q < 8 * L → gbit r q = comb 3 (gbit a q) (gbit b q)
  | 0, i, c, h, hc, hx, hq => by
    obtain rfl : i = L := by omega
    refine ⟨c, Ev.step (f := fun _ => some (c, 0)) (fun k => ?_) (Ev.now _), hc, hx, hq⟩
    simp only [bitset_Minus.l0]
    rw [if_neg (by omega)]
  | d + 1, i, c, h, hc, hx, hq => by
    obtain ⟨g1, g2⟩ := byte_step .andNot 3 (by simp) ha hb hx i (by omega) hq
    obtain ⟨r, hr, hs⟩ := minus_l ha hb L la lb hL d (i + 1) _ (by omega) (by rw [List.length_set]; exact hc) g1 g2
    refine ⟨r, Ev.step (fun k => ?_) hr, hs⟩
    simp only [bitset_Minus.l0]
    rw [if_pos (by omega), if_pos (by omega), if_pos (by omega), if_pos (by omega), if_pos (by omega), rd_nat, rd_nat, inc i (by omega), Int.toNat_natCast]
theorem minus_ok {m : Nat} (hm : m ≤ 65536) {a b : List Int} {p q : Nat → Bool} (hp : Packed p m a) (hq : Packed q m b) (hc : Ev (fun k => bitset_both.f k (m : Int) a b) 0) : ∃ r, Ev (fun k => bitset_Minus.f k (m : Int) a b) (r, 0) ∧ Packed (fun q => comb 3 (gbit a q) (gbit b q)) m r := by
  have h1 := hp.len
  have h2 := hq.len
  obtain ⟨r, hr, h3, h4, h5⟩ := minus_l hp.isB hq.isB a.length rfl (by omega) (by omega) a.length 0 (List.replicate a.length 0) (by omega) (by simp) (IsB.replicate _) (fun q h => by omega)
  refine ⟨r, Ev.bind hc (Ev.congr (fun k => ?_) hr), comb_packed 3 (by simp) hp hq h3 h4 h5⟩
  rw [if_pos rfl, if_pos (by omega), if_pos (by omega), Int.toNat_natCast]
  simp only [Option.bind_some, List.length_replicate]
  rfl
theorem none_byte (y x : Int) (hy : 0 ≤ y ∧ y < 256) (hx : 0 ≤ x ∧ x < 256) : Go.bits .andNot .u8 y x = 0 ↔ ∀ t, t < 8 → (y.toNat.testBit t && !x.toNat.testBit t) = false := by
  obtain ⟨h1, h2⟩ := bits_byte .andNot (by simp) y x hy hx
  constructor
  · intro h t ht
    have := h2 t ht
    rw [h] at this
    simpa [opb] using this.symm
  · intro h
    have : (Go.bits .andNot .u8 y x).toNat = 0 := nat_ext8 _ _ (by omega) (by decide) fun i hi => by
      rw [h2 i hi, Nat.zero_testBit]
      simpa [opb] using h i hi
    omega
theorem covers_l {a b : List Int} (ha : IsB a) (hb : IsB b) (L : Nat) (la : a.length = L) (lb : b.length = L) (hL : L ≤ 8192) : ∀ (d i : Nat), i + d = L → (∀ q, q < 8 * i → (gbit b q && !gbit a q) = false) →
    ∃ v, Ev (fun k => bitset_Covers.l0 k a b (L : Int) (i : Int)) (v, 0) ∧ (v = true ↔ ∀ q, q < 8 * L → (gbit b q && !gbit a q) = false)
  | 0, i, h, hq => by
    obtain rfl : i = L := by omega
    refine ⟨true, Ev.step (f := fun _ => some (true, 0)) (fun k => ?_) (Ev.now _), ⟨fun _ => hq, fun _ => rfl⟩⟩
    simp only [bitset_Covers.l0]
    rw [if_neg (by omega)]
  | d + 1, i, h, hq => by
    have e0 : ∀ k, bitset_Covers.l0 (k + 1) a b (L : Int) (i : Int) = if Go.bits .andNot .u8 (b.getD i 0) (a.getD i 0) = 0 then bitset_Covers.l0 k a b (L : Int) ((i + 1 : Nat) : Int) else some (false, 0) := fun k => by
      simp only [bitset_Covers.l0]
      rw [if_pos (by omega), if_pos (by omega), if_pos (by omega), if_pos (by omega), rd_nat, rd_nat, inc i (by omega)]
    have hn := none_byte _ _ (hb.getD i) (ha.getD i)
    by_cases hz : Go.bits .andNot .u8 (b.getD i 0) (a.getD i 0) = 0
    · obtain ⟨v, hv, hw⟩ := covers_l ha hb L la lb hL d (i + 1) (by omega) (fun q h1 => by
        by_cases hqi : q / 8 = i
        · have := hn.1 hz (7 - q % 8) (by omega)
          unfold gbit
          rw [hqi]
          exact this
        · exact hq q (by omega))
      exact ⟨v, Ev.step (fun k => by rw [e0, if_pos hz]) hv, hw⟩
    · refine ⟨false, Ev.step (f := fun _ => some (false, 0)) (fun k => by rw [e0, if_neg hz]) (Ev.now _), ⟨(fun h => by cases h), fun h => absurd (hn.2 fun t ht => ?_) hz⟩⟩
      have := h (8 * i + (7 - t)) (by omega)
      unfold gbit at this
      rw [show (8 * i + (7 - t)) / 8 = i by omega, show 7 - (8 * i + (7 - t)) % 8 = t by omega] at this
      exact this
theorem get_is {m : Nat} {l : List Int} (hx : IsB l) (hc : Ev (fun k => bitset_Check.f k (m : Int) l) 0) (j : Nat) (hj : j < m) : Ev (fun k => bitset_Get.f k (m : Int) l (j : Int)) (gbit l j, 0) := by
  obtain ⟨m', e, hm, hlen⟩ := check_ok hc
  obtain rfl : m = m' := by omega
  have ha : Ev (fun k => bitset_at.f k (m : Int) l (j : Int)) 0 := by
    refine Ev.bind hc (Ev.congr (fun k => if_pos rfl) (Ev.congr (f := fun _ => some 0) (fun k => ?_) (Ev.now _)))
    rw [if_neg (by omega), if_neg (by omega)]
  obtain ⟨g1, g2, g3⟩ := tests_in l j (by omega) (by omega)
  refine Ev.bind ha (Ev.congr (f := fun _ => some (gbit l j, 0)) (fun k => ?_) (Ev.now _))
  rw [if_pos rfl, if_pos g1, if_pos g2, if_pos g3]
  have h := get_mask l hx j (by omega)
  congr 2
  cases hb : gbit l j with
  | true =>
    rw [bne_iff_ne]
    intro h0
    rw [h.1 h0] at hb
    cases hb
  | false => rw [bne_eq_false_iff_eq]; exact h.2 hb
end Go.Proofs.Ytoohpdamndgdlaa.B

/- The law Algebra's loops in plain words. -/
set_option linter.unusedVariables false
set_option linter.unusedSimpArgs false
namespace Go.Proofs.Ytoohpdamndgdlaa.B
open Go.RowKit Go.Proofs.Ytoohpdamndgdlaa.P Go.Proofs.YtoohpdamndgdlaaW.PrintWords Go.Proofs.YtoohpdamndgdlaaW.PrintLast Go.Proofs.YtoohpdamndgdlaaW.PrintMore
theorem put_is {p : Nat → Bool} {m : Nat} (hm : m ≤ 65536) {l : List Int} (hpk : Packed p m l) (j : Nat) (hj : j < m) (on : Bool) : ∃ r, Ev (fun k => bitset_Put.f k (m : Int) l (j : Int) on) (r, 0) ∧ Packed (fun q => if q = j then on else p q) m r := by
  have hlen := hpk.len
  have hx := hpk.isB
  have hc := check_packed hm hpk
  have ha : Ev (fun k => bitset_at.f k (m : Int) l (j : Int)) 0 := by
    refine Ev.bind hc (Ev.congr (fun k => if_pos rfl) (Ev.congr (f := fun _ => some 0) (fun k => ?_) (Ev.now _)))
    rw [if_neg (by omega), if_neg (by omega)]
  obtain ⟨g1, g2, g3⟩ := tests_in l j (by omega) (by omega)
  have hjl : j < 8 * l.length := by omega
  refine ⟨if on then put1 l j else put0 l j, ?_, ?_⟩
  · refine Ev.bind ha (Ev.congr (f := fun _ => some (if on then put1 l j else put0 l j, 0)) (fun k => ?_) (Ev.now _))
    rw [if_pos rfl, if_pos (by simp; omega)]
    simp only [Option.bind_some, List.nil_append]
    cases on with
    | true => rw [if_pos rfl, if_pos g1, if_pos g2, if_pos g3, set_mask l j (by omega)]; rfl
    | false => rw [if_neg (by decide), if_pos g1, if_pos g2, if_pos g3, clear_mask l j (by omega)]; rfl
  · cases on with
    | true =>
      refine ⟨by rw [if_pos rfl, put1_length]; exact hlen, by rw [if_pos rfl]; exact put1_isB hx j, fun q hq => ?_⟩
      rw [if_pos rfl] at hq ⊢
      rw [put1_length] at hq
      rw [put1_bit hx j q hjl, hpk.bit q hq]
      by_cases hqj : q = j
      · subst hqj; simp; omega
      · simp [hqj]
    | false =>
      refine ⟨by rw [if_neg (by decide), put0_length]; exact hlen, by rw [if_neg (by decide)]; exact put0_isB hx j, fun q hq => ?_⟩
      rw [if_neg (by decide)] at hq ⊢
      rw [put0_length] at hq
      rw [put0_bit hx j q hjl, hpk.bit q hq]
      by_cases hqj : q = j
      · subst hqj; simp
      · simp [hqj]
theorem both_ok {p q : Nat → Bool} {m : Nat} (hm : m ≤ 65536) {a b : List Int} (hp : Packed p m a) (hq : Packed q m b) : Ev (fun k => bitset_both.f k (m : Int) a b) 0 :=
  Ev.bind (check_packed hm hp) (Ev.congr (fun k => if_pos rfl) (Ev.bind (check_packed hm hq) (Ev.now _)))
theorem not_ok {q : Nat → Bool} {m : Nat} (hm : m ≤ 65536) {b : List Int} (hq : Packed q m b) : ∃ r, Ev (fun k => bitset_Not.f k (m : Int) b) (r, 0) ∧ Packed (fun i => !gbit b i) m r := by
  obtain ⟨f, hf, p1⟩ := qfull_ok m hm
  obtain ⟨r, hr, hp⟩ := minus_ok hm p1 hq (both_ok hm p1 hq)
  refine ⟨r, Ev.bind (check_packed hm hq) (Ev.congr (fun k => if_pos rfl) (Ev.bind hf (Ev.bind hr (Ev.now _)))), hp.congr fun i hi => ?_⟩
  have := p1.bit i (by have := p1.len; omega)
  simp [comb, this, hi]
theorem covers_is {p q : Nat → Bool} {m : Nat} (hm : m ≤ 65536) {a b : List Int} (hp : Packed p m a) (hq : Packed q m b) : ∃ v, Ev (fun k => bitset_Covers.f k (m : Int) a b) (v, 0) ∧ (v = true ↔ ∀ i, i < m → (gbit b i && !gbit a i) = false) := by
  have h1 := hp.len
  have h2 := hq.len
  obtain ⟨v, hv, hw⟩ := covers_l hp.isB hq.isB b.length (by omega) rfl (by omega) b.length 0 (by omega) (fun q h => by omega)
  refine ⟨v, Ev.bind (both_ok hm hp hq) (Ev.congr (fun k => if_pos rfl) hv), hw.trans ⟨fun h i hi => h i (by omega), fun h i hi => ?_⟩⟩
  by_cases him : i < m
  · exact h i him
  · rw [hq.bit i hi]
    simp [him]
def bv (x : Bool) : Int := if x then 1 else 0
theorem bit_is {p : Nat → Bool} {m : Nat} (hm : m ≤ 65536) {l : List Int} (hp : Packed p m l) (i : Nat) (hi : i < m) : Ev (fun k => torrentlaw4_bit.f k (m : Int) l (i : Int)) (bv (gbit l i)) := by
  refine Ev.bind (get_is hp.isB (check_packed hm hp) i hi) (Ev.congr (f := fun _ => some (bv (gbit l i))) (fun k => ?_) (Ev.now _))
  rw [if_pos rfl]
  cases gbit l i <;> rfl
/-! ### counts -/
theorem cnt_sum {m : Nat} {a b x y : List Int} (hx : ∀ q, q < m → gbit x q = (gbit a q && gbit b q)) (hy : ∀ q, q < m → gbit y q = (gbit a q || gbit b q)) : ∀ j, j ≤ m → (onesL a j).length + (onesL b j).length = (onesL x j).length + (onesL y j).length
  | 0, _ => rfl
  | j + 1, h => by
    have ih := cnt_sum hx hy j (by omega)
    simp only [onesL_succ, hx j (by omega), hy j (by omega)]
    cases gbit a j <;> cases gbit b j <;> simp <;> omega
theorem cnt_not {m : Nat} {a w : List Int} (hw : ∀ q, q < m → gbit w q = !gbit a q) : ∀ j, j ≤ m → (onesL a j).length + (onesL w j).length = j
  | 0, _ => rfl
  | j + 1, h => by
    have ih := cnt_not hw j (by omega)
    simp only [onesL_succ, hw j (by omega)]
    cases gbit a j <;> simp <;> omega
theorem cnt_zero (z : List Int) : ∀ j, (onesL z j).length = 0 ↔ ∀ q, q < j → gbit z q = false
  | 0 => ⟨fun _ q h => by omega, fun _ => rfl⟩
  | j + 1 => by
    have ih := cnt_zero z j
    rw [onesL_succ]
    cases hz : gbit z j with
    | true =>
      rw [if_pos rfl]
      exact ⟨fun h => by simp at h, fun h => by have := h j (by omega); rw [hz] at this; cases this⟩
    | false =>
      rw [if_neg (by decide), ih]
      refine ⟨fun h q hq => ?_, fun h q hq => h q (by omega)⟩
      by_cases hqj : q = j
      · subst hqj; exact hz
      · exact h q (by omega)
/-! ### the law's loops -/
structure AlgIn (m : Nat) (one a b x y z w : List Int) : Prop where
  hm : m ≤ 65536
  pa : Packed (gbit a) m a
  pb : Packed (gbit b) m b
  px : Packed (gbit x) m x
  py : Packed (gbit y) m y
  pz : Packed (gbit z) m z
  pw : Packed (gbit w) m w
  one : ∀ q, q < m → gbit a q = among one q
  hx : ∀ q, q < m → gbit x q = (gbit a q && gbit b q)
  hy : ∀ q, q < m → gbit y q = (gbit a q || gbit b q)
  hz : ∀ q, q < m → gbit z q = (gbit a q && !gbit b q)
  hw : ∀ q, q < m → gbit w q = !gbit a q
theorem alg_l2 {m : Nat} {one a b x y z w : List Int} (hO : one.length ≤ 9223372036854775807) (A : AlgIn m one a b x y z w) : ∀ (d i : Nat), i + d = m →
    Ev (fun k => torrentlaw4_BitsetAlgebra.l2 k (m : Int) one a b x y z w ((onesL z i).length : Int) (i : Int)) true
  | 0, i, h => by
    obtain rfl : i = m := by omega
    obtain ⟨v, hv, hv2⟩ := covers_is A.hm A.pb A.pa
    have c1 := count_is A.pa.isB (check_packed A.hm A.pa)
    have c2 := count_is A.pb.isB (check_packed A.hm A.pb)
    have c3 := count_is A.px.isB (check_packed A.hm A.px)
    have c4 := count_is A.py.isB (check_packed A.hm A.py)
    have c5 := count_is A.pw.isB (check_packed A.hm A.pw)
    have c6 := count_is A.pz.isB (check_packed A.hm A.pz)
    have s1 := cnt_sum A.hx A.hy i (Nat.le_refl _)
    have s2 := cnt_not A.hw i (Nat.le_refl _)
    have s3 := cnt_zero z i
    have b1 := onesL_le a i
    have b2 := onesL_le b i
    have hm := A.hm
    have t1 : wrap64 (((onesL a i).length : Int) + ((onesL b i).length : Int)) = wrap64 (((onesL x i).length : Int) + ((onesL y i).length : Int)) := by congr 1; omega
    have t2 : wrap64 (((onesL a i).length : Int) + ((onesL w i).length : Int)) = (i : Int) := by rw [w64 _ (by omega) (by omega)]; omega
    have t3 : (v == (((onesL z i).length : Int) == 0)) = true := by
      rw [beq_iff_eq, Bool.eq_iff_iff, hv2, beq_iff_eq]
      constructor
      · intro h
        have := s3.2 fun q hq => by rw [A.hz q hq]; exact h q hq
        omega
      · intro h q hq
        have := s3.1 (by omega) q hq
        rw [A.hz q hq] at this
        exact this
    refine Ev.step (f := fun k => (bitset_Count.f k (i : Int) a).bind fun c1 => (bitset_Count.f k (i : Int) b).bind fun c2 => (bitset_Count.f k (i : Int) x).bind fun c3 => (bitset_Count.f k (i : Int) y).bind fun c4 => (bitset_Count.f k (i : Int) w).bind fun c5 => (bitset_Count.f k (i : Int) z).bind fun c6 => (bitset_Covers.f k (i : Int) b a).bind fun c7 =>
      if wrap64 (c1.1 + c2.1) = wrap64 (c3.1 + c4.1) then if wrap64 (c1.1 + c5.1) = (i : Int) then if c6.1 = ((onesL z i).length : Int) then if c7.2 = 0 then some (c7.1 == (((onesL z i).length : Int) == 0)) else some false else some false else some false else some false) (fun k => ?_)
      (Ev.bind c1 (Ev.bind c2 (Ev.bind c3 (Ev.bind c4 (Ev.bind c5 (Ev.bind c6 (Ev.bind hv (Ev.congr (fun k => if_pos t1) (Ev.congr (fun k => if_pos t2) (Ev.congr (fun k => if_pos rfl) (Ev.congr (fun k => if_pos rfl) (Ev.congr (f := fun _ => some true) (fun k => by rw [t3]) (Ev.now _)))))))))))))
    simp only [torrentlaw4_BitsetAlgebra.l2]
    rw [if_neg (by omega)]
  | d + 1, i, h => by
    have ih := alg_l2 hO A d (i + 1) (by omega)
    have hm := A.hm
    have him : i < m := by omega
    have f1 := bit_is A.hm A.pa i him
    have f2 := bit_is A.hm A.pb i him
    have f3 := bit_is A.hm A.px i him
    have f4 := bit_is A.hm A.py i him
    have f5 := bit_is A.hm A.pz i him
    have f6 := bit_is A.hm A.pw i him
    have f7 := has_f one hO i
    rw [← A.one i him] at f7
    rw [A.hx i him] at f3
    rw [A.hy i him] at f4
    rw [A.hz i him] at f5
    rw [A.hw i him] at f6
    have hle := onesL_le z i
    have hn : ((onesL z (i + 1)).length : Int) = wrap64 (wrap64 (((onesL z i).length : Int) + bv (gbit a i)) - wrap64 (bv (gbit a i) * bv (gbit b i))) := by
      rw [onesL_succ, A.hz i him]
      cases gbit a i <;> cases gbit b i <;> simp [bv, wrap64] <;> omega
    rw [hn] at ih
    generalize gbit a i = p at *
    generalize gbit b i = q at *
    have q1 : bv (p && q) = wrap64 (bv p * bv q) := by cases p <;> cases q <;> decide +kernel
    have q2 : bv (p || q) = wrap64 (wrap64 (bv p + bv q) - wrap64 (bv p * bv q)) := by cases p <;> cases q <;> decide +kernel
    have q3 : bv (p && !q) = wrap64 (bv p - wrap64 (bv p * bv q)) := by cases p <;> cases q <;> decide +kernel
    have q4 : bv (!p) = wrap64 (1 - bv p) := by cases p <;> decide +kernel
    have q5 : ((bv p == 1) != p) = false := by cases p <;> decide +kernel
    have q6 : ¬ bv p = 2 := by cases p <;> decide
    have q7 : ¬ bv q = 2 := by cases q <;> decide
    have j8 : Ev (fun k => torrentlaw4_BitsetAlgebra.j8 k (m : Int) one a b x y z w ((onesL z i).length : Int) (i : Int) (bv p) (bv q) ((bv p == 1) != p)) true := by
      rw [q5]
      refine Ev.step (f := fun k => (torrentlaw4_bit.f k (m : Int) x (i : Int)).bind fun t8 => if t8 = wrap64 (bv p * bv q) then ((torrentlaw4_bit.f k (m : Int) y (i : Int)).bind fun t9 => if t9 = wrap64 (wrap64 (bv p + bv q) - wrap64 (bv p * bv q)) then ((torrentlaw4_bit.f k (m : Int) z (i : Int)).bind fun t10 => if t10 = wrap64 (bv p - wrap64 (bv p * bv q)) then ((torrentlaw4_bit.f k (m : Int) w (i : Int)).bind fun t11 => if t11 = wrap64 (1 - bv p) then torrentlaw4_BitsetAlgebra.l2 k (m : Int) one a b x y z w (wrap64 (wrap64 (((onesL z i).length : Int) + bv p) - wrap64 (bv p * bv q))) ((i + 1 : Nat) : Int) else some false) else some false) else some false) else some false) (fun k => ?_)
        (Ev.bind f3 (Ev.congr (fun k => if_pos q1) (Ev.bind f4 (Ev.congr (fun k => if_pos q2) (Ev.bind f5 (Ev.congr (fun k => if_pos q3) (Ev.bind f6 (Ev.congr (fun k => if_pos q4) ih))))))))
      simp only [torrentlaw4_BitsetAlgebra.j8]
      rw [if_neg (by decide), inc i (by omega)]
    refine Ev.step (f := fun k => (torrentlaw4_bit.f k (m : Int) a (i : Int)).bind fun t => (torrentlaw4_bit.f k (m : Int) b (i : Int)).bind fun u => if t = 2 then torrentlaw4_BitsetAlgebra.j8 k (m : Int) one a b x y z w ((onesL z i).length : Int) (i : Int) t u true else if u = 2 then torrentlaw4_BitsetAlgebra.j8 k (m : Int) one a b x y z w ((onesL z i).length : Int) (i : Int) t u true else (torrentlaw4_has.f k one (i : Int)).bind fun v => torrentlaw4_BitsetAlgebra.j8 k (m : Int) one a b x y z w ((onesL z i).length : Int) (i : Int) t u ((t == 1) != v)) (fun k => ?_)
      (Ev.bind f1 (Ev.bind f2 (Ev.congr (fun k => if_neg q6) (Ev.congr (fun k => if_neg q7) (Ev.bind f7 j8)))))
    simp only [torrentlaw4_BitsetAlgebra.l2]
    rw [if_pos (by omega)]
theorem self_packed {p : Nat → Bool} {m : Nat} (hm : m ≤ 65536) {l : List Int} (hp : Packed p m l) : Packed (gbit l) m l := packed_of_check hp.isB (by have := hp.len; omega) (check_packed hm hp)
theorem bit_of {p : Nat → Bool} {m : Nat} {l : List Int} (hp : Packed p m l) (q : Nat) (hq : q < m) : gbit l q = p q := by
  rw [hp.bit q (by have := hp.len; omega), decide_eq_true hq, Bool.true_and]
theorem alg_l1 {m : Nat} (hm : m ≤ 65536) (one two : List Int) (hO : one.length ≤ 9223372036854775807) (hT : two.length < 9223372036854775807) {a : List Int} (ha : Packed (among one) m a) : ∀ (d i : Nat) (b : List Int) (p : Nat → Bool), i + d = two.length → Packed p m b →
    Ev (fun k => torrentlaw4_BitsetAlgebra.l1 k (m : Int) one two a b (i : Int)) true
  | 0, i, b, p, h, hb => by
    obtain ⟨x, hx, px⟩ := and_ok hm ha hb (both_ok hm ha hb)
    obtain ⟨y, hy, py⟩ := or_ok hm ha hb (both_ok hm ha hb)
    obtain ⟨z, hz, pz⟩ := minus_ok hm ha hb (both_ok hm ha hb)
    obtain ⟨w, hw, pw⟩ := not_ok hm ha
    have A : AlgIn m one a b x y z w := ⟨hm, self_packed hm ha, self_packed hm hb, self_packed hm px, self_packed hm py, self_packed hm pz, self_packed hm pw, fun q h => bit_of ha q h, fun q h => bit_of px q h, fun q h => bit_of py q h, fun q h => bit_of pz q h, fun q h => bit_of pw q h⟩
    have h2 := alg_l2 hO A m 0 (by omega)
    have hj6 : Ev (fun k => torrentlaw4_BitsetAlgebra.j6 k (m : Int) one a b x y z w ((0 : Int) != 0)) true := Ev.step (fun k => by simp only [torrentlaw4_BitsetAlgebra.j6]; rfl) h2
    refine Ev.step (f := fun k => (bitset_And.f k (m : Int) a b).bind fun c1 => (bitset_Or.f k (m : Int) a b).bind fun c2 => (bitset_Minus.f k (m : Int) a b).bind fun c3 => (bitset_Not.f k (m : Int) a).bind fun c4 => if c1.2 = 0 then if c2.2 = 0 then if c3.2 = 0 then torrentlaw4_BitsetAlgebra.j6 k (m : Int) one a b c1.1 c2.1 c3.1 c4.1 (c4.2 != 0) else torrentlaw4_BitsetAlgebra.j6 k (m : Int) one a b c1.1 c2.1 c3.1 c4.1 true else torrentlaw4_BitsetAlgebra.j6 k (m : Int) one a b c1.1 c2.1 c3.1 c4.1 true else torrentlaw4_BitsetAlgebra.j6 k (m : Int) one a b c1.1 c2.1 c3.1 c4.1 true) (fun k => ?_)
      (Ev.bind hx (Ev.bind hy (Ev.bind hz (Ev.bind hw (Ev.congr (fun k => if_pos rfl) (Ev.congr (fun k => if_pos rfl) (Ev.congr (fun k => if_pos rfl) hj6)))))))
    simp only [torrentlaw4_BitsetAlgebra.l1]
    rw [if_neg (by omega)]
  | d + 1, i, b, p, h, hb => by
    have e0 : ∀ k, torrentlaw4_BitsetAlgebra.l1 (k + 1) (m : Int) one two a b (i : Int) = torrentlaw4_BitsetAlgebra.j5 k (m : Int) one two a b (i : Int) (decide (0 ≤ two.getD i 0 ∧ two.getD i 0 < (m : Int))) := fun k => by
      simp only [torrentlaw4_BitsetAlgebra.l1]
      rw [if_pos (by omega), if_pos (by omega), rd_nat]
      by_cases h0 : two.getD i 0 ≥ 0
      · rw [if_pos h0]
        congr 1
        rw [decide_eq_decide]
        omega
      · rw [if_neg h0, decide_eq_false (by omega)]
    by_cases hin : 0 ≤ two.getD i 0 ∧ two.getD i 0 < (m : Int)
    · obtain ⟨j, hj⟩ : ∃ j : Nat, two.getD i 0 = j := ⟨(two.getD i 0).toNat, by omega⟩
      obtain ⟨r, hr, hp⟩ := put_is hm hb j (by omega) (decide ((Int.tmod (i : Int) 5) > 0))
      refine Ev.step (f := fun k => torrentlaw4_BitsetAlgebra.j5 k (m : Int) one two a b (i : Int) true) (fun k => by rw [e0, decide_eq_true hin]) (Ev.step (f := fun k => (bitset_Put.f k (m : Int) b (j : Int) (decide ((Int.tmod (i : Int) 5) > 0))).bind fun c => if c.2 = 0 then torrentlaw4_BitsetAlgebra.l1 k (m : Int) one two a c.1 ((i + 1 : Nat) : Int) else some false) (fun k => ?_) (Ev.bind hr (Ev.congr (fun k => if_pos rfl) (alg_l1 hm one two hO hT ha d (i + 1) r _ (by omega) hp))))
      simp only [torrentlaw4_BitsetAlgebra.j5]
      rw [if_pos trivial, if_pos (by omega), if_pos (by omega), rd_nat, hj, inc i (by omega)]
    · refine Ev.step (f := fun k => torrentlaw4_BitsetAlgebra.j5 k (m : Int) one two a b (i : Int) false) (fun k => by rw [e0, decide_eq_false hin]) (Ev.step (fun k => ?_) (alg_l1 hm one two hO hT ha d (i + 1) b p (by omega) hb))
      simp only [torrentlaw4_BitsetAlgebra.j5]
      rw [if_neg (by decide), inc i (by omega)]
theorem alg_l0 {m : Nat} (hm : m ≤ 65536) (one two : List Int) (hO : one.length < 9223372036854775807) (hT : two.length < 9223372036854775807) {b : List Int} {p : Nat → Bool} (hb : Packed p m b) : ∀ (d i : Nat) (a : List Int), i + d = one.length → Packed (among (one.take i)) m a →
    Ev (fun k => torrentlaw4_BitsetAlgebra.l0 k (m : Int) one two a b (i : Int)) true
  | 0, i, a, h, ha => by
    rw [List.take_of_length_le (by omega)] at ha
    refine Ev.step (fun k => ?_) (alg_l1 hm one two (by omega) hT ha two.length 0 b p (by omega) hb)
    simp only [torrentlaw4_BitsetAlgebra.l0]
    rw [if_neg (by omega)]
    rfl
  | d + 1, i, a, h, ha => by
    have e0 : ∀ k, torrentlaw4_BitsetAlgebra.l0 (k + 1) (m : Int) one two a b (i : Int) = torrentlaw4_BitsetAlgebra.j3 k (m : Int) one two a b (i : Int) (decide (0 ≤ one.getD i 0 ∧ one.getD i 0 < (m : Int))) := fun k => by
      simp only [torrentlaw4_BitsetAlgebra.l0]
      rw [if_pos (by omega), if_pos (by omega), rd_nat]
      by_cases h0 : one.getD i 0 ≥ 0
      · rw [if_pos h0]
        congr 1
        rw [decide_eq_decide]
        omega
      · rw [if_neg h0, decide_eq_false (by omega)]
    by_cases hin : 0 ≤ one.getD i 0 ∧ one.getD i 0 < (m : Int)
    · obtain ⟨j, hj⟩ : ∃ j : Nat, one.getD i 0 = j := ⟨(one.getD i 0).toNat, by omega⟩
      obtain ⟨r, hr, hp⟩ := put_is hm ha j (by omega) true
      have hp2 : Packed (among (one.take (i + 1))) m r := hp.congr fun q hq => by
        rw [among_take_succ one i q (by omega), hj]
        by_cases hqj : q = j
        · subst hqj; simp
        · rw [if_neg hqj, decide_eq_false (by omega), Bool.or_false]
      refine Ev.step (f := fun k => torrentlaw4_BitsetAlgebra.j3 k (m : Int) one two a b (i : Int) true) (fun k => by rw [e0, decide_eq_true hin]) (Ev.step (f := fun k => (bitset_Put.f k (m : Int) a (j : Int) true).bind fun c => if c.2 = 0 then torrentlaw4_BitsetAlgebra.l0 k (m : Int) one two c.1 b ((i + 1 : Nat) : Int) else some false) (fun k => ?_) (Ev.bind hr (Ev.congr (fun k => if_pos rfl) (alg_l0 hm one two hO hT hb d (i + 1) r (by omega) hp2))))
      simp only [torrentlaw4_BitsetAlgebra.j3]
      rw [if_pos trivial, if_pos (by omega), if_pos (by omega), rd_nat, hj, inc i (by omega)]
    · have hp2 : Packed (among (one.take (i + 1))) m a := ha.congr fun q hq => by
        rw [among_take_succ one i q (by omega), decide_eq_false (by omega), Bool.or_false]
      refine Ev.step (f := fun k => torrentlaw4_BitsetAlgebra.j3 k (m : Int) one two a b (i : Int) false) (fun k => by rw [e0, decide_eq_false hin]) (Ev.step (fun k => ?_) (alg_l0 hm one two hO hT hb d (i + 1) a (by omega) hp2))
      simp only [torrentlaw4_BitsetAlgebra.j3]
      rw [if_neg (by decide), inc i (by omega)]
end Go.Proofs.Ytoohpdamndgdlaa.B

/- BitsetAlgebra: And, Or, Minus and Not are, bit by bit, what their names say; counts add up; Covers. No condition. -/
set_option linter.unusedVariables false
namespace Go.Proofs.Ytoohpdamndgdlaa.Pure
open Go.RowKit Go.Proofs.Ytoohpdamndgdlaa.P Go.Proofs.YtoohpdamndgdlaaW.PrintWords Go.Proofs.YtoohpdamndgdlaaW.PrintLast
open Go.Proofs.Ytoohpdamndgdlaa.B

theorem BitsetAlgebra : torrentlaw4_BitsetAlgebra.Pure := by
  intro n one two _ _ h1 _ _ h2 _
  refine Ev.rounds (g := fun k => torrentlaw4_BitsetAlgebra.f k n one two) ?_
  by_cases hn : n < 0 ∨ 65536 < n
  · refine Ev.congr (f := fun k => torrentlaw4_BitsetAlgebra.j0 k n one two true) (fun k => ?_) (Ev.step (f := fun k => some true) (fun k => by simp only [torrentlaw4_BitsetAlgebra.j0]; rw [if_pos trivial, make_no n hn]; rfl) (Ev.now _))
    unfold torrentlaw4_BitsetAlgebra.f
    by_cases h0 : n < 0
    · rw [if_pos h0]
    · rw [if_neg h0, decide_eq_true (by omega)]
  · obtain ⟨m, rfl⟩ : ∃ m : Nat, n = m := ⟨n.toNat, by omega⟩
    have hm : m ≤ 65536 := by omega
    have hz := isPacked_zero m
    have hl0 := alg_l0 hm one two (by omega) (by omega) hz one.length 0 (List.replicate ((m + 7) / 8) 0) (by omega) (hz.congr fun q hq => rfl)
    refine Ev.congr (f := fun k => torrentlaw4_BitsetAlgebra.j0 k (m : Int) one two false) (fun k => ?_) (Ev.step (f := fun k => torrentlaw4_BitsetAlgebra.j1 k (m : Int) one two (List.replicate ((m + 7) / 8) 0) (List.replicate ((m + 7) / 8) 0) false) (fun k => ?_) (Ev.step (fun k => by simp only [torrentlaw4_BitsetAlgebra.j1]; rfl) hl0))
    · unfold torrentlaw4_BitsetAlgebra.f
      rw [if_neg (by omega), decide_eq_false (by omega)]
    · simp only [torrentlaw4_BitsetAlgebra.j0]
      rw [if_neg (by decide), make_ok m hm]
      rfl
end Go.Proofs.Ytoohpdamndgdlaa.Pure
