/- Plain arithmetic of bytes and bits for the statements of chapter 4: a list of bytes as a sequence of bits, the high bit first. No condition, no program. -/
import Derived.Laws.Entries
import Derived.Laws.BitsLemmas
import Derived.RowKit
import Derived.Test.YtoohpdamndgdlaaWWords
import Derived.Test.YtoohpdamndgdlaaWMore
set_option linter.unusedVariables false
set_option linter.unusedSimpArgs false
namespace Go.Proofs.Ytoohpdamndgdlaa.B
open Go.RowKit Go.Proofs.YtoohpdamndgdlaaW.PrintWords Go.Proofs.YtoohpdamndgdlaaW.PrintLast Go.Proofs.YtoohpdamndgdlaaW.PrintMore

/-! ### whole numbers -/
theorem w64 (n : Int) (h0 : -9223372036854775808 ≤ n) (h1 : n ≤ 9223372036854775807) : wrap64 n = n := by unfold wrap64; omega
theorem wf64 {n : Int} (h : (Lit.int .i64 n).wf = true) : -9223372036854775808 ≤ n ∧ n ≤ 9223372036854775807 := by
  simp [Lit.wf, IntKind.min, IntKind.max, IntKind.bits, IntKind.signed] at h
  omega
theorem wf8 {n : Int} (h : (Lit.int .u8 n).wf = true) : 0 ≤ n ∧ n < 256 := by
  simp [Lit.wf, IntKind.min, IntKind.max, IntKind.bits, IntKind.signed] at h
  omega

/-! ### one byte -/
theorem tb8 (m i : Nat) (h : m < 256) (hi : 8 ≤ i) : m.testBit i = false := by
  refine Nat.testBit_lt_two_pow (Nat.lt_of_lt_of_le h ?_)
  exact (show 256 = 2 ^ 8 by decide) ▸ Nat.pow_le_pow_right (by decide) hi
theorem nat_ext8 (m n : Nat) (hm : m < 256) (hn : n < 256) (h : ∀ i, i < 8 → m.testBit i = n.testBit i) : m = n := by
  refine Nat.eq_of_testBit_eq fun i => ?_
  by_cases hi : i < 8
  · exact h i hi
  · rw [tb8 m i hm (by omega), tb8 n i hn (by omega)]
theorem bits_and8 (a b : Nat) (ha : a < 256) (hb : b < 256) : Go.bits .and .u8 a b = ((a &&& b : Nat) : Int) := (bits_nat .u8 8 (by decide) wraps_u8 a b ha hb).1
theorem bits_or8 (a b : Nat) (ha : a < 256) (hb : b < 256) : Go.bits .or .u8 a b = ((a ||| b : Nat) : Int) := (bits_nat .u8 8 (by decide) wraps_u8 a b ha hb).2
theorem bits_not8 (a b : Nat) (ha : a < 256) (hb : b < 256) : ∃ r : Nat, Go.bits .andNot .u8 a b = (r : Int) ∧ r < 256 ∧ ∀ i, i < 8 → r.testBit i = (a.testBit i && !b.testBit i) := by
  refine ⟨(BitVec.ofNat 8 a &&& ~~~ BitVec.ofNat 8 b).toNat, ?_, ?_, ?_⟩
  · simp only [Go.bits, BitVec.ofInt_natCast]
    exact wraps_u8 _ (Int.natCast_nonneg _) (by exact_mod_cast (BitVec.ofNat 8 a &&& ~~~ BitVec.ofNat 8 b).isLt)
  · exact (BitVec.ofNat 8 a &&& ~~~ BitVec.ofNat 8 b).isLt
  · intro i hi
    have e : ∀ x : BitVec 8, x.toNat.testBit i = x.getLsbD i := fun x => rfl
    rw [e, BitVec.getLsbD_and, BitVec.getLsbD_not, BitVec.getLsbD_ofNat, BitVec.getLsbD_ofNat]
    simp [hi]

/-- What an operation on two bytes gives, bit by bit. -/
def opb : BinOp → Bool → Bool → Bool
  | .and, x, y => x && y
  | .or, x, y => x || y
  | _, x, y => x && !y
theorem bits_byte (op : BinOp) (hop : op = .and ∨ op = .or ∨ op = .andNot) (x y : Int) (hx : 0 ≤ x ∧ x < 256) (hy : 0 ≤ y ∧ y < 256) :
    (0 ≤ Go.bits op .u8 x y ∧ Go.bits op .u8 x y < 256) ∧ ∀ i, i < 8 → (Go.bits op .u8 x y).toNat.testBit i = opb op (x.toNat.testBit i) (y.toNat.testBit i) := by
  obtain ⟨a, rfl⟩ : ∃ a : Nat, x = a := ⟨x.toNat, by omega⟩
  obtain ⟨b, rfl⟩ : ∃ b : Nat, y = b := ⟨y.toNat, by omega⟩
  have ha : a < 256 := by omega
  have hb : b < 256 := by omega
  simp only [Int.toNat_natCast]
  rcases hop with rfl | rfl | rfl
  · rw [bits_and8 a b ha hb]
    have h : a &&& b < 256 := Nat.and_lt_two_pow (n := 8) _ hb
    exact ⟨by omega, fun i _ => by simp [opb, Nat.testBit_and]⟩
  · rw [bits_or8 a b ha hb]
    have h : a ||| b < 256 := Nat.or_lt_two_pow (n := 8) ha hb
    exact ⟨by omega, fun i _ => by simp [opb, Nat.testBit_or]⟩
  · obtain ⟨r, hr, hl, ht⟩ := bits_not8 a b ha hb
    rw [hr]
    exact ⟨by omega, fun i hi => by simpa [opb] using ht i hi⟩

/-! ### the masks -/
def mk8 (t : Nat) : Int := (2 ^ (7 - t) : Nat)
theorem shr_mask (t : Nat) (h : t < 8) : shr .u8 128 (t : Int) = mk8 t := by
  match t, h with
  | 0, _ | 1, _ | 2, _ | 3, _ | 4, _ | 5, _ | 6, _ | 7, _ => decide
theorem mk8_range (t : Nat) (h : t < 8) : 0 ≤ mk8 t ∧ mk8 t < 256 := by
  match t, h with
  | 0, _ | 1, _ | 2, _ | 3, _ | 4, _ | 5, _ | 6, _ | 7, _ => decide
theorem mk8_bit (t i : Nat) (h : t < 8) : (mk8 t).toNat.testBit i = decide (i = 7 - t) := by
  unfold mk8
  rw [Int.toNat_natCast, Nat.testBit_two_pow]
  exact decide_eq_decide.mpr ⟨fun h => h.symm, fun h => h.symm⟩
/-- A byte and a mask: is the bit set? -/
theorem and_mask (x : Int) (hx : 0 ≤ x ∧ x < 256) (t : Nat) (h : t < 8) : (Go.bits .and .u8 x (mk8 t) = 0) ↔ x.toNat.testBit (7 - t) = false := by
  obtain ⟨hr, hb⟩ := bits_byte .and (.inl rfl) x (mk8 t) hx (mk8_range t h)
  constructor
  · intro h0
    have := hb (7 - t) (by omega)
    rw [h0, mk8_bit t _ h] at this
    simpa [opb] using this.symm
  · intro h0
    have : (Go.bits .and .u8 x (mk8 t)).toNat = 0 := nat_ext8 _ _ (by omega) (by decide) fun i hi => by
      rw [hb i hi, mk8_bit t _ h]
      by_cases hit : i = 7 - t
      · subst hit; simp [opb, h0]
      · simp [opb, hit]
    omega
theorem add_bit (a t : Nat) (ha : a < 256) (ht : t < 8) (h : a.testBit t = false) : a + 2 ^ t = a ||| 2 ^ t := by
  have key : ∀ t : Fin 8, ∀ a : Fin 256, a.val.testBit t.val = false → a.val + 2 ^ t.val = a.val ||| 2 ^ t.val := by decide +kernel
  exact key ⟨t, ht⟩ ⟨a, ha⟩ h
/-- A mask is added to a byte that lacks the bit. -/
theorem add_mask (x : Int) (hx : 0 ≤ x ∧ x < 256) (t : Nat) (h : t < 8) (h0 : x.toNat.testBit (7 - t) = false) :
    (x + mk8 t % 256) % 256 = Go.bits .or .u8 x (mk8 t) := by
  obtain ⟨a, rfl⟩ : ∃ a : Nat, x = a := ⟨x.toNat, by omega⟩
  have hm := mk8_range t h
  rw [Int.toNat_natCast] at h0
  have ha : a < 256 := by omega
  have e := add_bit a (7 - t) ha (by omega) h0
  have hl : a ||| 2 ^ (7 - t) < 256 := Nat.or_lt_two_pow (n := 8) ha (by unfold mk8 at hm; omega)
  have e2 : Go.bits .or .u8 (a : Int) (mk8 t) = ((a ||| 2 ^ (7 - t) : Nat) : Int) := bits_or8 a _ ha (by unfold mk8 at hm; omega)
  rw [e2, ← e]
  have e3 : mk8 t % 256 = mk8 t := by omega
  rw [e3]
  unfold mk8
  rw [← Int.natCast_add]
  omega

/-! ### a list of bytes as bits -/
def gbit (xs : List Int) (i : Nat) : Bool := (xs.getD (i / 8) 0).toNat.testBit (7 - i % 8)
def IsB (xs : List Int) : Prop := ∀ x ∈ xs, 0 ≤ x ∧ x < 256
theorem IsB.nil : IsB [] := fun x hx => by simp at hx
theorem IsB.getD {xs : List Int} (h : IsB xs) (j : Nat) : 0 ≤ xs.getD j 0 ∧ xs.getD j 0 < 256 := by
  by_cases hj : j < xs.length
  · rw [List.getD_eq_getElem?_getD, List.getElem?_eq_getElem hj, Option.getD_some]
    exact h _ (List.getElem_mem hj)
  · rw [List.getD_eq_getElem?_getD, List.getElem?_eq_none (by omega)]
    exact ⟨by simp, by simp⟩
theorem IsB.set {xs : List Int} (h : IsB xs) (j : Nat) {v : Int} (hv : 0 ≤ v ∧ v < 256) : IsB (xs.set j v) := fun x hx => by
  rcases List.mem_or_eq_of_mem_set hx with hx | rfl
  · exact h x hx
  · exact hv
theorem IsB.append {xs ys : List Int} (h : IsB xs) (k : IsB ys) : IsB (xs ++ ys) := fun x hx => by
  rcases List.mem_append.1 hx with hx | hx
  · exact h x hx
  · exact k x hx
theorem IsB.replicate (n : Nat) : IsB (List.replicate n 0) := fun x hx => by
  obtain rfl := List.eq_of_mem_replicate hx
  decide
theorem IsB.of_wf {xs : List Int} (h : ∀ x ∈ xs, (Lit.int .u8 x).wf = true) : IsB xs := fun x hx => wf8 (h x hx)
theorem gbit_ext {xs ys : List Int} (hl : xs.length = ys.length) (hx : IsB xs) (hy : IsB ys) (h : ∀ i, i < 8 * xs.length → gbit xs i = gbit ys i) : xs = ys := by
  refine List.ext_getElem hl fun j h1 h2 => ?_
  have ex : xs.getD j 0 = xs[j] := by rw [List.getD_eq_getElem?_getD, List.getElem?_eq_getElem h1, Option.getD_some]
  have ey : ys.getD j 0 = ys[j] := by rw [List.getD_eq_getElem?_getD, List.getElem?_eq_getElem h2, Option.getD_some]
  have bx := hx.getD j
  have by_ := hy.getD j
  have : (xs.getD j 0).toNat = (ys.getD j 0).toNat := nat_ext8 _ _ (by omega) (by omega) fun i hi => by
    have := h (8 * j + (7 - i)) (by omega)
    unfold gbit at this
    rw [show (8 * j + (7 - i)) / 8 = j by omega, show 7 - (8 * j + (7 - i)) % 8 = i by omega] at this
    exact this
  rw [← ex, ← ey]
  omega
theorem gbit_set (xs : List Int) (q : Nat) (v : Int) (j : Nat) (hq : q < xs.length) : gbit (xs.set q v) j = if j / 8 = q then v.toNat.testBit (7 - j % 8) else gbit xs j := by
  unfold gbit
  by_cases h : j / 8 = q
  · subst h
    rw [if_pos rfl, List.getD_eq_getElem?_getD, List.getElem?_set_self hq, Option.getD_some]
  · rw [if_neg h, List.getD_eq_getElem?_getD, List.getElem?_set_ne (Ne.symm h), ← List.getD_eq_getElem?_getD]
theorem gbit_replicate (n i : Nat) : gbit (List.replicate n 0) i = false := by
  unfold gbit
  have : (List.replicate n (0 : Int)).getD (i / 8) 0 = 0 := by
    rw [List.getD_eq_getElem?_getD, List.getElem?_replicate]
    split <;> rfl
  rw [this]
  simp
theorem gbit_append_zero (xs : List Int) (i : Nat) : gbit (xs ++ [0]) i = gbit xs i := by
  unfold gbit
  have : (xs ++ [(0 : Int)]).getD (i / 8) 0 = xs.getD (i / 8) 0 := by
    simp only [List.getD_eq_getElem?_getD]
    by_cases h : i / 8 < xs.length
    · rw [List.getElem?_append_left h]
    · rw [List.getElem?_eq_none (by omega : xs.length ≤ i / 8)]
      by_cases h2 : i / 8 = xs.length
      · rw [h2, List.getElem?_append_right (by omega)]
        simp
      · rw [List.getElem?_eq_none (by simp; omega)]
  rw [this]
theorem gbit_beyond (xs : List Int) (i : Nat) (h : 8 * xs.length ≤ i) : gbit xs i = false := by
  unfold gbit
  rw [List.getD_eq_getElem?_getD, List.getElem?_eq_none (by omega)]
  simp

/-! ### the bit i set, taken out -/
def put1 (xs : List Int) (i : Nat) : List Int := xs.set (i / 8) (Go.bits .or .u8 (xs.getD (i / 8) 0) (mk8 (i % 8)))
def put0 (xs : List Int) (i : Nat) : List Int := xs.set (i / 8) (Go.bits .andNot .u8 (xs.getD (i / 8) 0) (mk8 (i % 8)))
theorem put1_length (xs : List Int) (i : Nat) : (put1 xs i).length = xs.length := by simp [put1]
theorem put0_length (xs : List Int) (i : Nat) : (put0 xs i).length = xs.length := by simp [put0]
theorem put1_isB {xs : List Int} (h : IsB xs) (i : Nat) : IsB (put1 xs i) := h.set _ (bits_byte .or (.inr (.inl rfl)) _ _ (h.getD _) (mk8_range _ (Nat.mod_lt _ (by decide)))).1
theorem put0_isB {xs : List Int} (h : IsB xs) (i : Nat) : IsB (put0 xs i) := h.set _ (bits_byte .andNot (.inr (.inr rfl)) _ _ (h.getD _) (mk8_range _ (Nat.mod_lt _ (by decide)))).1
theorem put1_bit {xs : List Int} (h : IsB xs) (i j : Nat) (hi : i < 8 * xs.length) : gbit (put1 xs i) j = (gbit xs j || decide (j = i)) := by
  unfold put1
  rw [gbit_set _ _ _ _ (by omega)]
  split
  · rename_i hj
    rw [(bits_byte .or (.inr (.inl rfl)) _ _ (h.getD _) (mk8_range _ (Nat.mod_lt _ (by decide)))).2 _ (by omega), mk8_bit _ _ (Nat.mod_lt _ (by decide))]
    show (_ || _) = _
    unfold gbit
    rw [hj]
    congr 1
    exact decide_eq_decide.mpr ⟨fun h => by omega, fun h => by subst h; rfl⟩
  · rename_i hj
    have : ¬ j = i := fun e => hj (by rw [e])
    simp [this]
theorem put0_bit {xs : List Int} (h : IsB xs) (i j : Nat) (hi : i < 8 * xs.length) : gbit (put0 xs i) j = (gbit xs j && !decide (j = i)) := by
  unfold put0
  rw [gbit_set _ _ _ _ (by omega)]
  split
  · rename_i hj
    rw [(bits_byte .andNot (.inr (.inr rfl)) _ _ (h.getD _) (mk8_range _ (Nat.mod_lt _ (by decide)))).2 _ (by omega), mk8_bit _ _ (Nat.mod_lt _ (by decide))]
    show (_ && !_) = _
    unfold gbit
    rw [hj]
    congr 2
    exact decide_eq_decide.mpr ⟨fun h => by omega, fun h => by subst h; rfl⟩
  · rename_i hj
    have : ¬ j = i := fun e => hj (by rw [e])
    simp [this]

/-! ### Go's spellings -/
theorem quo8 (n : Nat) (h : n ≤ 9223372036854775807) : wrap64 (Int.tdiv (n : Int) 8) = ((n / 8 : Nat) : Int) := by
  have : Int.tdiv (n : Int) 8 = ((n / 8 : Nat) : Int) := by
    rw [Int.tdiv_eq_ediv_of_nonneg (by omega)]
    omega
  rw [this, w64 _ (by omega) (by omega)]
theorem rem8 (n : Nat) : Int.tmod (n : Int) 8 = ((n % 8 : Nat) : Int) := by
  rw [Int.tmod_eq_emod_of_nonneg (by omega)]
  omega
theorem rd_nat (xs : List Int) (n : Nat) : rd xs (n : Int) = xs.getD n 0 := by unfold rd; rw [Int.toNat_natCast]
theorem inc (n : Nat) (h : n < 9223372036854775807) : wrap64 ((n : Int) + 1) = ((n + 1 : Nat) : Int) := by rw [w64 _ (by omega) (by omega)]; omega

/-! ### what a packed list of bits is -/
structure Packed (p : Nat → Bool) (n : Nat) (r : List Int) : Prop where
  len : r.length = (n + 7) / 8
  isB : IsB r
  bit : ∀ i, i < 8 * r.length → gbit r i = (decide (i < n) && p i)
theorem Packed.unique {p q : Nat → Bool} {n : Nat} {r s : List Int} (h : Packed p n r) (k : Packed q n s) (e : ∀ i, i < n → p i = q i) : r = s :=
  gbit_ext (h.len.trans k.len.symm) h.isB k.isB fun i hi => by
    rw [h.bit i hi, k.bit i (by have := h.len.trans k.len.symm; omega)]
    by_cases hn : i < n
    · rw [e i hn]
    · simp [hn]
theorem Packed.congr {p q : Nat → Bool} {n : Nat} {r : List Int} (h : Packed p n r) (e : ∀ i, i < n → p i = q i) : Packed q n r :=
  ⟨h.len, h.isB, fun i hi => by
    rw [h.bit i hi]
    by_cases hn : i < n
    · rw [e i hn]
    · simp [hn]⟩
end Go.Proofs.Ytoohpdamndgdlaa.B
