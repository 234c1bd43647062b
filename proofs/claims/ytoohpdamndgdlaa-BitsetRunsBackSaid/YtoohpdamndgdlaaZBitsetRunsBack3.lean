-- Merged by a program of this session out of the texts QSpare, QBack, PureBitsetRunsBack of this claim's own.
import Derived.Test.YtoohpdamndgdlaaZBitsetRunsBack2

/- What Check's content says of the spare bits. Condition: bytes. -/
set_option linter.unusedVariables false
set_option linter.unusedSimpArgs false
namespace Go.Proofs.Ytoohpdamndgdlaa.B
open Go.RowKit Go.Proofs.Ytoohpdamndgdlaa.P Go.Proofs.YtoohpdamndgdlaaW.PrintWords Go.Proofs.YtoohpdamndgdlaaW.PrintLast Go.Proofs.YtoohpdamndgdlaaW.PrintMore
/-- No spare bit is set, where Check is content. -/
theorem spare_none {m : Nat} {l : List Int} (hx : IsB l) (hl : l.length ≤ 140737488351232) (h : Ev (fun k => bitset_Check.f k (m : Int) l) 0) (i : Nat) (h1 : m ≤ i) (h2 : i < 8 * l.length) : gbit l i = false := by
  obtain ⟨m', e, hm, hlen⟩ := check_ok h
  obtain rfl : m = m' := by omega
  have h8 : m % 8 ≠ 0 := by omega
  have h88 := Nat.mod_lt m (show 8 > 0 by decide)
  have hxb := hx.getD (m / 8)
  have hs := spare_mask _ hxb (m % 8) h88
  have e1 : ∀ k, bitset_Check.f k (m : Int) l = bitset_Check.j0 k (m : Int) l false := fun k => by
    unfold bitset_Check.f
    rw [if_neg (by omega), decide_eq_false (by omega)]
  obtain ⟨K, hK⟩ := h
  have := hK (K + 1) (by omega)
  simp only [e1, bitset_Check.j0] at this
  rw [if_neg (by decide), size_f m hm] at this
  simp only [Option.bind_some] at this
  rw [if_pos (by omega), rem8, quo8 m (by omega), if_neg (by omega), if_pos (by omega), if_pos (by omega), if_pos (by omega), rd_nat, hs] at this
  have hz : l.getD (m / 8) 0 % 2 ^ (8 - m % 8) = 0 := by
    by_cases hz : l.getD (m / 8) 0 % 2 ^ (8 - m % 8) = 0
    · exact hz
    · rw [if_neg hz] at this
      simp at this
  unfold gbit
  rw [show i / 8 = m / 8 by omega]
  obtain ⟨a, ha⟩ : ∃ a : Nat, l.getD (m / 8) 0 = a := ⟨(l.getD (m / 8) 0).toNat, by omega⟩
  rw [ha] at hz ⊢
  rw [Int.toNat_natCast]
  have hz2 : a % 2 ^ (8 - m % 8) = 0 := by exact_mod_cast hz
  have := Nat.testBit_mod_two_pow a (8 - m % 8) (7 - i % 8)
  rw [hz2, Nat.zero_testBit] at this
  have hlt : 7 - i % 8 < 8 - m % 8 := by omega
  simpa [hlt] using this.symm
/-- A bitfield that Check takes is packed. -/
theorem packed_of_check {m : Nat} {l : List Int} (hx : IsB l) (hl : l.length ≤ 140737488351232) (h : Ev (fun k => bitset_Check.f k (m : Int) l) 0) : Packed (gbit l) m l := by
  obtain ⟨m', e, hm, hlen⟩ := check_ok h
  obtain rfl : m = m' := by omega
  refine ⟨hlen, hx, fun i hi => ?_⟩
  by_cases h1 : i < m
  · simp [h1]
  · rw [spare_none hx hl h i (by omega) hi]
    simp
end Go.Proofs.Ytoohpdamndgdlaa.B

/- The runs of a bitfield as a chain, Next's answer, has, and the law RunsBack's loops, in plain words. Condition: bytes. -/
set_option linter.unusedVariables false
set_option linter.unusedSimpArgs false
namespace Go.Proofs.Ytoohpdamndgdlaa.B
open Go.RowKit Go.Proofs.Ytoohpdamndgdlaa.P Go.Proofs.YtoohpdamndgdlaaW.PrintWords Go.Proofs.YtoohpdamndgdlaaW.PrintLast Go.Proofs.YtoohpdamndgdlaaW.PrintMore
/-! ### the chain of runs -/
def Chain (g : Nat → Bool) (m : Nat) : Nat → List S59 → Prop
  | a, [] => ∀ q, a ≤ q → q < m → g q = false
  | a, x :: xs => ∃ p n : Nat, x = ⟨(p : Int), (n : Int)⟩ ∧ a ≤ p ∧ 1 ≤ n ∧ p + n ≤ m ∧ (∀ q, a ≤ q → q < p → g q = false) ∧ (∀ q, p ≤ q → q < p + n → g q = true) ∧ (p + n < m → g (p + n) = false) ∧ Chain g m (p + n) xs
theorem chain_back {g : Nat → Bool} {m i : Nat} {L : List S59} (h0 : g i = false) (h : Chain g m (i + 1) L) : Chain g m i L := by
  cases L with
  | nil =>
    intro q h1 h2
    by_cases hq : q = i
    · subst hq; exact h0
    · exact h q (by omega) h2
  | cons x xs =>
    obtain ⟨p, n, h1, h2, h3, h4, h5, h6⟩ := h
    refine ⟨p, n, h1, by omega, h3, h4, fun q hq hp => ?_, h6⟩
    by_cases hqi : q = i
    · subst hqi; exact h0
    · exact h5 q (by omega) hp
def restR (g : Nat → Bool) : Nat → Nat → List S59
  | 0, _ => []
  | d + 1, i => if g i = true ∧ (i = 0 ∨ g (i - 1) = false) then ⟨(i : Int), (lenR g (d + 1) i : Nat)⟩ :: restR g d (i + 1) else restR g d (i + 1)
theorem rr_rest (g : Nat → Bool) (m : Nat) : ∀ (d i : Nat), i + d = m → rr g m m = rr g m i ++ restR g d i
  | 0, i, h => by
    obtain rfl : i = m := by omega
    simp [restR]
  | d + 1, i, h => by
    rw [rr_rest g m d (i + 1) (by omega)]
    have e : m - i = d + 1 := by omega
    simp only [rr, restR, e]
    split <;> simp
theorem lenR_on (g : Nat → Bool) : ∀ (d a : Nat), (∀ q, a ≤ q → q < a + lenR g d a → g q = true) ∧ (lenR g d a < d → g (a + lenR g d a) = false)
  | 0, a => ⟨fun q h1 h2 => by simp only [lenR] at h2; omega, fun h => by omega⟩
  | d + 1, a => by
    obtain ⟨h1, h2⟩ := lenR_on g d (a + 1)
    simp only [lenR]
    cases hg : g a with
    | false => exact ⟨fun q h3 h4 => by simp at h4; omega, fun _ => by simpa using hg⟩
    | true =>
      refine ⟨fun q h3 h4 => ?_, fun h => ?_⟩
      · by_cases hq : q = a
        · subst hq; exact hg
        · exact h1 q (by omega) (by simp at h4; omega)
      · simp only [if_true] at h ⊢
        rw [show a + (lenR g d (a + 1) + 1) = a + 1 + lenR g d (a + 1) by omega]
        exact h2 (by omega)
mutual
theorem chain_a (g : Nat → Bool) (m : Nat) : ∀ (d i : Nat), i + d = m → (i = 0 ∨ g (i - 1) = false) → Chain g m i (restR g d i)
  | 0, i, h, _ => fun q h1 h2 => by omega
  | d + 1, i, h, hp => by
    cases hg : g i with
    | false =>
      have e : restR g (d + 1) i = restR g d (i + 1) := by simp [restR, hg]
      rw [e]
      exact chain_back hg (chain_a g m d (i + 1) (by omega) (Or.inr (by simpa using hg)))
    | true =>
      have e : restR g (d + 1) i = ⟨(i : Int), (lenR g (d + 1) i : Nat)⟩ :: restR g d (i + 1) := by simp only [restR]; rw [if_pos ⟨hg, hp⟩]
      have el : lenR g (d + 1) i = lenR g d (i + 1) + 1 := by simp only [lenR]; rw [if_pos hg]
      obtain ⟨h1, h2⟩ := lenR_on g (d + 1) i
      have h3 := lenR_le g (d + 1) i
      have ih := chain_b g m d (i + 1) (by omega) (by omega) (by simpa using hg)
      rw [e]
      refine ⟨i, lenR g (d + 1) i, rfl, Nat.le_refl _, by omega, by omega, fun q h4 h5 => by omega, h1, fun h4 => h2 (by omega), ?_⟩
      rw [show i + lenR g (d + 1) i = i + 1 + lenR g d (i + 1) by omega]
      exact ih
theorem chain_b (g : Nat → Bool) (m : Nat) : ∀ (d i : Nat), i + d = m → 0 < i → g (i - 1) = true → Chain g m (i + lenR g d i) (restR g d i)
  | 0, i, h, _, _ => fun q h1 h2 => by omega
  | d + 1, i, h, hi, hp => by
    have e : restR g (d + 1) i = restR g d (i + 1) := by
      simp only [restR]
      rw [if_neg (fun hh => by
        rcases hh.2 with h1 | h1
        · omega
        · rw [hp] at h1
          cases h1)]
    rw [e]
    cases hg : g i with
    | false =>
      have el : lenR g (d + 1) i = 0 := by simp [lenR, hg]
      rw [el]
      exact chain_back hg (chain_a g m d (i + 1) (by omega) (Or.inr (by simpa using hg)))
    | true =>
      have el : lenR g (d + 1) i = lenR g d (i + 1) + 1 := by simp only [lenR]; rw [if_pos hg]
      rw [show i + lenR g (d + 1) i = i + 1 + lenR g d (i + 1) by omega]
      exact chain_b g m d (i + 1) (by omega) (by omega) (by simpa using hg)
end
theorem rr_chain (g : Nat → Bool) (m : Nat) : Chain g m 0 (rr g m m) := by
  rw [rr_rest g m m 0 (by omega)]
  exact chain_a g m m 0 (by omega) (Or.inl rfl)
/-! ### counts -/
theorem cnt_false (l : List Int) : ∀ (d a : Nat), (∀ q, a ≤ q → q < a + d → gbit l q = false) → (onesL l (a + d)).length = (onesL l a).length
  | 0, a, _ => rfl
  | d + 1, a, h => by
    have := cnt_false l d a (fun q h1 h2 => h q h1 (by omega))
    rw [show a + (d + 1) = a + d + 1 by omega, onesL_succ, h (a + d) (by omega) (by omega)]
    exact this
theorem cnt_true (l : List Int) : ∀ (d a : Nat), (∀ q, a ≤ q → q < a + d → gbit l q = true) → (onesL l (a + d)).length = (onesL l a).length + d
  | 0, a, _ => rfl
  | d + 1, a, h => by
    have := cnt_true l d a (fun q h1 h2 => h q h1 (by omega))
    rw [show a + (d + 1) = a + d + 1 by omega, onesL_succ, h (a + d) (by omega) (by omega), if_pos rfl, List.length_append, this]
    simp
    omega
/-- A packed bitfield passes Check. -/
theorem check_packed' {p : Nat → Bool} {m : Nat} {l : List Int} (hm : m ≤ 65536) (hp : Packed p m l) : Ev (fun k => bitset_Check.f k (m : Int) l) 0 := by
  have hlen := hp.len
  have hx := hp.isB
  have e1 : ∀ k, bitset_Check.f k (m : Int) l = bitset_Check.j0 k (m : Int) l false := fun k => by
    unfold bitset_Check.f
    rw [if_neg (by omega), decide_eq_false (by omega)]
  refine Ev.congr e1 (Ev.step (f := fun _ => some 0) (fun k => ?_) (Ev.now _))
  simp only [bitset_Check.j0]
  rw [if_neg (by decide), size_f m hm]
  simp only [Option.bind_some]
  rw [if_pos (by omega), rem8]
  by_cases h8 : m % 8 = 0
  · rw [if_pos (by omega)]
  · have h88 := Nat.mod_lt m (show 8 > 0 by decide)
    have hxb := hx.getD (m / 8)
    rw [quo8 m (by omega), if_neg (by omega), if_pos (by omega), if_pos (by omega), if_pos (by omega), rd_nat, spare_mask _ hxb (m % 8) h88]
    have hz : l.getD (m / 8) 0 % 2 ^ (8 - m % 8) = 0 := by
      obtain ⟨a, ha⟩ : ∃ a : Nat, l.getD (m / 8) 0 = a := ⟨(l.getD (m / 8) 0).toNat, by omega⟩
      rw [ha]
      have hz2 : a % 2 ^ (8 - m % 8) = 0 := by
        apply Nat.eq_of_testBit_eq
        intro j
        rw [Nat.testBit_mod_two_pow, Nat.zero_testBit]
        by_cases hj : j < 8 - m % 8
        · have h1 := hp.bit (8 * (m / 8) + (7 - j)) (by omega)
          unfold gbit at h1
          rw [show (8 * (m / 8) + (7 - j)) / 8 = m / 8 by omega, show 7 - (8 * (m / 8) + (7 - j)) % 8 = j by omega, ha, Int.toNat_natCast, decide_eq_false (by omega)] at h1
          rw [h1]
          simp
        · simp [hj]
      exact_mod_cast hz2
    rw [if_pos hz]
/-! ### Next, has -/
theorem next_is_l (m : Nat) (hm : m ≤ 65536) (l : List Int) (hx : IsB l) (hl : l.length = (m + 7) / 8) (on : Bool) (j : Nat) (hj : j ≤ m) (hon : j < m → gbit l j = on) : ∀ (d i : Nat), i + d = j → (∀ q, i ≤ q → q < j → gbit l q = !on) → Ev (fun k => bitset_Next.l0 k (m : Int) l on (i : Int)) ((j : Int), 0)
  | 0, i, h, _ => by
    obtain rfl : i = j := by omega
    refine Ev.step (f := fun _ => some ((i : Int), 0)) (fun k => ?_) (Ev.now _)
    simp only [bitset_Next.l0]
    by_cases him : i < m
    · obtain ⟨g1, g2, g3⟩ := tests_in l i (by omega) (by omega)
      rw [if_pos (by omega), if_pos g1, if_pos g2, if_pos g3]
      have h1 := get_mask l hx i (by omega)
      have h2 := hon him
      rw [if_pos]
      cases on with
      | true =>
        rw [beq_iff_eq, bne_iff_ne]
        intro h3
        rw [h1.1 h3] at h2
        cases h2
      | false =>
        rw [beq_iff_eq, bne_eq_false_iff_eq]
        exact h1.2 h2
    · rw [if_neg (by omega), show i = m by omega]
  | d + 1, i, h, hq => by
    refine Ev.step (fun k => ?_) (next_is_l m hm l hx hl on j hj hon d (i + 1) (by omega) (fun q h1 h2 => hq q (by omega) h2))
    obtain ⟨g1, g2, g3⟩ := tests_in l i (by omega) (by omega)
    have h1 := get_mask l hx i (by omega)
    have h2 := hq i (Nat.le_refl _) (by omega)
    simp only [bitset_Next.l0]
    rw [if_pos (by omega), if_pos g1, if_pos g2, if_pos g3, inc i (by omega), if_neg]
    cases on with
    | true =>
      rw [beq_iff_eq, bne_iff_ne]
      exact fun h3 => h3 (h1.2 h2)
    | false =>
      rw [beq_iff_eq, bne_eq_false_iff_eq]
      intro h3
      rw [h1.1 h3] at h2
      cases h2
theorem next_is {m : Nat} {l : List Int} (hx : IsB l) (hc : Ev (fun k => bitset_Check.f k (m : Int) l) 0) (on : Bool) (i j : Nat) (hij : i ≤ j) (hj : j ≤ m) (hq : ∀ q, i ≤ q → q < j → gbit l q = !on) (hon : j < m → gbit l j = on) : Ev (fun k => bitset_Next.f k (m : Int) l (i : Int) on) ((j : Int), 0) := by
  obtain ⟨m', e, hm, hlen⟩ := check_ok hc
  obtain rfl : m = m' := by omega
  refine Ev.bind hc (Ev.congr (f := fun k => bitset_Next.j0 k (m : Int) l (i : Int) on false) (fun k => ?_) (Ev.step (fun k => by simp only [bitset_Next.j0]; rfl) (next_is_l m hm l hx hlen on j hj hon (j - i) i (by omega) hq)))
  rw [if_pos rfl, if_neg (by omega), decide_eq_false (by omega)]
theorem has_l (l : List Int) (hl : l.length ≤ 9223372036854775807) (j : Nat) : ∀ (d i : Nat), i + d = l.length → among (l.take i) j = false → Ev (fun k => torrentlaw4_has.l0 k l (j : Int) (i : Int)) (among l j)
  | 0, i, h, hn => by
    rw [List.take_of_length_le (by omega)] at hn
    refine Ev.step (f := fun _ => some (among l j)) (fun k => ?_) (Ev.now _)
    simp only [torrentlaw4_has.l0]
    rw [if_neg (by omega), hn]
  | d + 1, i, h, hn => by
    have e0 : ∀ k, torrentlaw4_has.l0 (k + 1) l (j : Int) (i : Int) = if l.getD i 0 = (j : Int) then some true else torrentlaw4_has.l0 k l (j : Int) ((i + 1 : Nat) : Int) := fun k => by
      simp only [torrentlaw4_has.l0]
      rw [if_pos (by omega), if_pos (by omega), rd_nat, inc i (by omega)]
    by_cases hv : l.getD i 0 = (j : Int)
    · have : among l j = true := by
        unfold among
        rw [List.any_eq_true]
        refine ⟨l.getD i 0, ?_, by simpa using hv⟩
        rw [List.getD_eq_getElem?_getD, List.getElem?_eq_getElem (by omega)]
        exact List.getElem_mem _
      rw [this]
      exact Ev.step (f := fun _ => some true) (fun k => by rw [e0, if_pos hv]) (Ev.now _)
    · refine Ev.step (fun k => by rw [e0, if_neg hv]) (has_l l hl j d (i + 1) (by omega) ?_)
      rw [among_take_succ l i j (by omega), hn, decide_eq_false hv]
      rfl
theorem has_f (l : List Int) (hl : l.length ≤ 9223372036854775807) (j : Nat) : Ev (fun k => torrentlaw4_has.f k l (j : Int)) (among l j) := has_l l hl j l.length 0 (by omega) rfl
/-! ### the law's loops -/
def okPlace (n : Int) (x : Int) : Bool := decide (0 ≤ x ∧ x < n)
theorem filter_inside (m : Nat) (l : List Int) : inside m (l.filter (okPlace (m : Int))) := fun i hi => by
  have h := List.getElem_mem hi
  rw [List.mem_filter] at h
  rw [List.getD_eq_getElem?_getD, List.getElem?_eq_getElem hi]
  simpa [okPlace] using h.2
theorem count_is {m : Nat} {l : List Int} (hx : IsB l) (hc : Ev (fun k => bitset_Check.f k (m : Int) l) 0) : Ev (fun k => bitset_Count.f k (m : Int) l) (((onesL l m).length : Int), 0) := by
  obtain ⟨m', e, hm, hlen⟩ := check_ok hc
  obtain rfl : m = m' := by omega
  exact Ev.bind hc (Ev.congr (fun k => if_pos rfl) (count_l m hm l hx hlen m 0 (by omega)))
theorem rd59_mid (S T : List S59) (x : S59) : rd_T59 (S ++ x :: T) ((S.length : Nat) : Int) = x := by
  unfold rd_T59
  rw [Int.toNat_natCast, List.getD_eq_getElem?_getD, List.getElem?_append_right (Nat.le_refl _)]
  simp
theorem back_l2 (m : Nat) (hm : m ≤ 65536) (O b : List Int) (hO : O.length ≤ 9223372036854775807) (R : List S59) (s t : Int) (p n : Nat) (hpn : p + n ≤ m) (x : S59) (hg : ∀ q, p ≤ q → q < p + n → among O q = true) (hR : Ev (fun k => torrentlaw4_BitsetRunsBack.l1 k (m : Int) O b R ((p + n : Nat) : Int) (wrap64 (s + x.f1)) (wrap64 (t + 1))) true) : ∀ (d i : Nat), i + d = p + n → p ≤ i →
    Ev (fun k => torrentlaw4_BitsetRunsBack.l2 k (m : Int) O b R s t ((p + n : Nat) : Int) (i : Int) x.f0 x.f1) true
  | 0, i, h, hi => by
    refine Ev.step (fun k => ?_) hR
    simp only [torrentlaw4_BitsetRunsBack.l2]
    rw [if_neg (by omega)]
  | d + 1, i, h, hi => by
    have hh := has_f O hO i
    rw [hg i hi (by omega)] at hh
    refine Ev.step (f := fun k => (torrentlaw4_has.f k O (i : Int)).bind fun v => if v = true then torrentlaw4_BitsetRunsBack.l2 k (m : Int) O b R s t ((p + n : Nat) : Int) ((i + 1 : Nat) : Int) x.f0 x.f1 else some false) (fun k => ?_) (Ev.bind hh (Ev.congr (fun k => if_pos rfl) (back_l2 m hm O b hO R s t p n hpn x hg hR d (i + 1) (by omega) (by omega))))
    simp only [torrentlaw4_BitsetRunsBack.l2]
    rw [if_pos (by omega), inc i (by omega)]
theorem back_l1 (m : Nat) (hm : m ≤ 65536) (O b : List Int) (hO : O.length ≤ 9223372036854775807) (hp : Packed (among O) m b) (hc : Ev (fun k => bitset_Check.f k (m : Int) b) 0) : ∀ (xs pre : List S59) (a : Nat), (pre ++ xs).length ≤ 65536 → a ≤ m → Chain (gbit b) m a xs → (pre = [] ∨ a = m ∨ gbit b a = false) →
    Ev (fun k => torrentlaw4_BitsetRunsBack.l1 k (m : Int) O b (pre ++ xs) (a : Int) ((onesL b a).length : Int) (pre.length : Int)) true
  | [], pre, a, hlen, ha, hch, hs => by
    have hn := next_is hp.isB hc true a m ha (Nat.le_refl _) hch (fun h => by omega)
    have hk := count_is hp.isB hc
    have ec : (onesL b m).length = (onesL b a).length := by
      have := cnt_false b (m - a) a (fun q h1 h2 => hch q h1 (by omega))
      rwa [show a + (m - a) = m by omega] at this
    refine Ev.step (f := fun k => (bitset_Next.f k (m : Int) b (a : Int) true).bind fun x => (bitset_Count.f k (m : Int) b).bind fun y => if x.2 = 0 then if y.2 = 0 then if x.1 = (m : Int) then some (y.1 == ((onesL b a).length : Int)) else some false else some false else some false) (fun k => ?_) (Ev.bind hn (Ev.bind hk (Ev.congr (fun k => if_pos rfl) (Ev.congr (fun k => if_pos rfl) (Ev.congr (fun k => if_pos rfl) (Ev.congr (f := fun _ => some true) (fun k => by rw [ec, beq_self_eq_true]) (Ev.now _)))))))
    simp only [torrentlaw4_BitsetRunsBack.l1]
    rw [if_neg (by simp)]
  | x :: xs, pre, a, hlen, ha, hch, hs => by
    obtain ⟨p, n, hx, hap, hn1, hpn, hf, ht, hend, hrest⟩ := hch
    have hstrict : 0 < pre.length → p ≠ a := fun hpre he => by
      subst he
      rcases hs with h | h | h
      · rw [h] at hpre; simp at hpre
      · omega
      · rw [ht p (Nat.le_refl _) (by omega)] at h
        cases h
    have ih := back_l1 m hm O b hO hp hc xs (pre ++ [x]) (p + n) (by simpa using hlen) hpn hrest (by
      by_cases h : p + n < m
      · exact Or.inr (Or.inr (hend h))
      · exact Or.inr (Or.inl (by omega)))
    have hple : pre.length ≤ 65536 := by rw [List.length_append] at hlen; omega
    have hcl := onesL_le b a
    have ec : (onesL b (p + n)).length = (onesL b a).length + n := by
      have h1 := cnt_false b (p - a) a (fun q h1 h2 => hf q h1 (by omega))
      rw [show a + (p - a) = p by omega] at h1
      rw [cnt_true b n p ht, h1]
    have e1 : pre ++ [x] ++ xs = pre ++ x :: xs := by simp
    have e2 : wrap64 (((onesL b a).length : Int) + x.f1) = ((onesL b (p + n)).length : Int) := by
      rw [hx, ec]
      show wrap64 (_ + (n : Int)) = _
      rw [w64 _ (by omega) (by omega)]
      omega
    have e3 : wrap64 ((pre.length : Int) + 1) = ((pre ++ [x]).length : Int) := by rw [inc _ (by omega), List.length_append]; rfl
    rw [e1] at ih
    have hl2 := back_l2 m hm O b hO (pre ++ x :: xs) ((onesL b a).length : Int) (pre.length : Int) p n hpn x (fun q h1 h2 => by
      have h3 := hp.bit q (by have := hp.len; omega)
      rw [ht q h1 h2, decide_eq_true (by omega)] at h3
      simpa using h3.symm) (by rw [e2, e3]; exact ih) n p rfl (Nat.le_refl _)
    have n1 := next_is hp.isB hc true a p hap (by omega) hf (fun h => ht p (Nat.le_refl _) (by omega))
    have n2 := next_is hp.isB hc false p (p + n) (by omega) hpn ht (fun h => hend h)
    have hj4 : Ev (fun k => torrentlaw4_BitsetRunsBack.j4 k (m : Int) O b (pre ++ x :: xs) ((onesL b a).length : Int) (pre.length : Int) ((p + n : Nat) : Int) (((p + n : Nat) : Int) != wrap64 ((p : Int) + (n : Int))) (p : Int) (n : Int)) true := by
      refine Ev.step (fun k => ?_) hl2
      simp only [torrentlaw4_BitsetRunsBack.j4]
      rw [hx, w64 _ (by omega) (by omega), if_neg (by simp)]
    have hj3 : Ev (fun k => torrentlaw4_BitsetRunsBack.j3 k (m : Int) O b (pre ++ x :: xs) (a : Int) ((onesL b a).length : Int) (pre.length : Int) false (p : Int) (n : Int)) true := by
      refine Ev.step (f := fun k => (bitset_Next.f k (m : Int) b (a : Int) true).bind fun u => (bitset_Next.f k (m : Int) b (p : Int) false).bind fun v => if u.2 = 0 then if v.2 = 0 then if u.1 = (p : Int) then torrentlaw4_BitsetRunsBack.j4 k (m : Int) O b (pre ++ x :: xs) ((onesL b a).length : Int) (pre.length : Int) v.1 (v.1 != wrap64 ((p : Int) + (n : Int))) (p : Int) (n : Int) else torrentlaw4_BitsetRunsBack.j4 k (m : Int) O b (pre ++ x :: xs) ((onesL b a).length : Int) (pre.length : Int) v.1 true (p : Int) (n : Int) else torrentlaw4_BitsetRunsBack.j4 k (m : Int) O b (pre ++ x :: xs) ((onesL b a).length : Int) (pre.length : Int) v.1 true (p : Int) (n : Int) else torrentlaw4_BitsetRunsBack.j4 k (m : Int) O b (pre ++ x :: xs) ((onesL b a).length : Int) (pre.length : Int) v.1 true (p : Int) (n : Int)) (fun k => ?_) (Ev.bind n1 (Ev.bind n2 (Ev.congr (fun k => if_pos rfl) (Ev.congr (fun k => if_pos rfl) (Ev.congr (fun k => if_pos rfl) hj4)))))
      simp only [torrentlaw4_BitsetRunsBack.j3]
      rw [if_neg (by decide)]
    refine Ev.step (fun k => ?_) hj3
    have hd : decide ((p : Int) > wrap64 ((m : Int) - (n : Int))) = false := by
      rw [w64 _ (by omega) (by omega)]
      exact decide_eq_false (by omega)
    simp only [torrentlaw4_BitsetRunsBack.l1, rd59_mid]
    rw [if_pos (by rw [List.length_append, List.length_cons]; omega), if_pos (by omega), hx]
    simp only [hd]
    rw [if_neg (by omega), if_neg (by omega)]
    by_cases hpre : 0 < pre.length
    · have := hstrict hpre
      rw [if_pos (by omega), if_neg (by omega)]
    · rw [if_neg (by omega)]
theorem back_l0 (m : Nat) (hm : m ≤ 65536) (l : List Int) (hl : l.length < 17592186044416) : ∀ (d i : Nat), i + d = l.length → Ev (fun k => torrentlaw4_BitsetRunsBack.l0 k (m : Int) l ((l.take i).filter (okPlace (m : Int))) (i : Int)) true
  | 0, i, h => by
    rw [List.take_of_length_le (by omega)]
    have hfl := List.length_filter_le (okPlace (m : Int)) l
    rcases of_ok m hm (l.filter (okPlace (m : Int))) (by omega) with ⟨hi, b, hb, hp⟩ | ⟨hi, _⟩
    · have hc := check_packed' hm hp
      have hlen := hp.len
      have hR : Ev (fun k => bitset_Runs.f k (m : Int) b) (rr (gbit b) m m, 0) := Ev.bind hc (Ev.congr (fun k => if_pos rfl) (runs_a m hm b hp.isB hlen m 0 (by omega) (Or.inl rfl) (fun S x e => by simp [rr] at e)))
      have hrl := rr_length (gbit b) m m
      have hmain := back_l1 m hm (l.filter (okPlace (m : Int))) b (by omega) hp hc (rr (gbit b) m m) [] 0 (by simpa using (by omega : (rr (gbit b) m m).length ≤ 65536)) (by omega) (rr_chain _ m) (Or.inl rfl)
      refine Ev.step (f := fun k => (bitset_Of.f k (m : Int) (l.filter (okPlace (m : Int)))).bind fun x => if x.2 = 0 then (bitset_Runs.f k (m : Int) x.1).bind fun y => if y.2 = 0 then torrentlaw4_BitsetRunsBack.l1 k (m : Int) (l.filter (okPlace (m : Int))) x.1 y.1 0 0 0 else some false else some false) (fun k => ?_) (Ev.bind hb (Ev.congr (fun k => if_pos rfl) (Ev.bind hR (Ev.congr (fun k => if_pos rfl) hmain))))
      simp only [torrentlaw4_BitsetRunsBack.l0]
      rw [if_neg (by omega)]
    · exact absurd (filter_inside m l) hi
  | d + 1, i, h => by
    have hfl := List.length_filter_le (okPlace (m : Int)) (l.take i)
    rw [List.length_take] at hfl
    refine Ev.step (fun k => ?_) (back_l0 m hm l hl d (i + 1) (by omega))
    simp only [torrentlaw4_BitsetRunsBack.l0]
    rw [if_pos (by omega), if_pos (by omega), rd_nat, inc i (by omega), List.take_succ_eq_append_getElem (by omega), List.filter_append]
    have eg : l.getD i 0 = l[i] := by rw [List.getD_eq_getElem?_getD, List.getElem?_eq_getElem (by omega)]; rfl
    rw [eg]
    by_cases h1 : l[i] ≥ 0
    · rw [if_pos h1]
      by_cases h2 : l[i] < (m : Int)
      · rw [if_pos h2, if_pos (by omega), List.filter_cons_of_pos (by simp [okPlace]; omega), List.filter_nil]
      · rw [if_neg h2, List.filter_cons_of_neg (by simp [okPlace]; omega), List.filter_nil, List.append_nil]
    · rw [if_neg h1, List.filter_cons_of_neg (by simp [okPlace]; omega), List.filter_nil, List.append_nil]
end Go.Proofs.Ytoohpdamndgdlaa.B

/- BitsetRunsBack: the runs of any set of places are what the law says of them. No condition. -/
set_option linter.unusedVariables false
namespace Go.Proofs.Ytoohpdamndgdlaa.Pure
open Go.RowKit Go.Proofs.Ytoohpdamndgdlaa.P Go.Proofs.YtoohpdamndgdlaaW.PrintWords Go.Proofs.YtoohpdamndgdlaaW.PrintLast
open Go.Proofs.Ytoohpdamndgdlaa.B

theorem BitsetRunsBack : torrentlaw4_BitsetRunsBack.Pure := by
  intro n l _ _ hl _
  refine Ev.rounds (g := fun k => torrentlaw4_BitsetRunsBack.f k n l) ?_
  by_cases hn : n < 0 ∨ 65536 < n
  · refine Ev.congr (f := fun k => torrentlaw4_BitsetRunsBack.j0 k n l true) (fun k => ?_) (Ev.step (f := fun k => (bitset_Of.f k n l).bind fun x => some (x.2 != 0)) (fun k => by simp only [torrentlaw4_BitsetRunsBack.j0]; rfl) (Ev.bind (Ev.congr (f := fun _ => some ([], 40)) (fun k => of_no n l hn k) (Ev.now _)) (Ev.congr (f := fun _ => some true) (fun k => rfl) (Ev.now _))))
    unfold torrentlaw4_BitsetRunsBack.f
    by_cases h0 : n < 0
    · rw [if_pos h0]
    · rw [if_neg h0, decide_eq_true (by omega)]
  · obtain ⟨m, rfl⟩ : ∃ m : Nat, n = m := ⟨n.toNat, by omega⟩
    refine Ev.congr (f := fun k => torrentlaw4_BitsetRunsBack.j0 k (m : Int) l false) (fun k => ?_) (Ev.step (fun k => by simp only [torrentlaw4_BitsetRunsBack.j0]; rfl) (back_l0 m (by omega) l (by omega) l.length 0 (by omega)))
    unfold torrentlaw4_BitsetRunsBack.f
    rw [if_neg (by omega), decide_eq_false (by omega)]
end Go.Proofs.Ytoohpdamndgdlaa.Pure
