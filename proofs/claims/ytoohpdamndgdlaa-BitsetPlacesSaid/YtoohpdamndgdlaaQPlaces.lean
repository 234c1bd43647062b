/- Get and Put, the program's and the reference's, in plain words: the same answers. Condition: bytes. -/
import Derived.Test.YtoohpdamndgdlaaQOpen
import Derived.Test.YtoohpdamndgdlaaPx30
import Derived.Test.YtoohpdamndgdlaaPx31
import Derived.Test.YtoohpdamndgdlaaPx32
import Derived.Test.YtoohpdamndgdlaaPx33
set_option linter.unusedVariables false
set_option linter.unusedSimpArgs false
namespace Go.Proofs.Ytoohpdamndgdlaa.B
open Go.RowKit Go.Proofs.Ytoohpdamndgdlaa.P Go.Proofs.YtoohpdamndgdlaaW.PrintWords Go.Proofs.YtoohpdamndgdlaaW.PrintLast Go.Proofs.YtoohpdamndgdlaaW.PrintMore

theorem get_bool' (xs : List Int) (hx : IsB xs) (i : Nat) (hi : i ≤ 65536) : (Go.bits .and .u8 (rd xs (wrap64 (Int.tdiv (i : Int) 8))) (shr .u8 128 (Int.tmod (i : Int) 8)) != 0) = gbit xs i := by
  have h := get_mask xs hx i hi
  cases hb : gbit xs i with
  | true =>
    rw [bne_iff_ne]
    intro h0
    rw [h.1 h0] at hb
    cases hb
  | false => rw [bne_eq_false_iff_eq]; exact h.2 hb
/-- What 'at' answers where Check is content. -/
theorem at_ok {m : Nat} {l : List Int} (hc : Ev (fun k => bitset_Check.f k (m : Int) l) 0) (i : Int) : Ev (fun k => bitset_at.f k (m : Int) l i) (if 0 ≤ i ∧ i < (m : Int) then 0 else 43) := by
  refine Ev.bind hc (Ev.congr (fun k => if_pos rfl) (Ev.congr (f := fun _ => some (if 0 ≤ i ∧ i < (m : Int) then 0 else 43)) (fun k => ?_) (Ev.now _)))
  by_cases h0 : i < 0
  · rw [if_pos h0, if_neg (by omega)]
  · rw [if_neg h0]
    by_cases h1 : i ≥ (m : Int)
    · rw [if_pos h1, if_neg (by omega)]
    · rw [if_neg h1, if_pos (by omega)]
theorem at_no {n c : Int} {l : List Int} (hc : Ev (fun k => bitset_Check.f k n l) c) (h0 : c ≠ 0) (i : Int) : Ev (fun k => bitset_at.f k n l i) c :=
  Ev.bind hc (Ev.congr (fun k => if_neg h0) (Ev.now _))
/-- What the two Gets answer. -/
theorem get_same (n : Int) (l : List Int) (i : Int) (hx : IsB l) (hl : l.length ≤ 140737488351232) : ∃ r, Ev (fun k => bitset_Get.f k n l i) r ∧ Ev (fun k => torrentref4_Get.f k n l i) r := by
  obtain ⟨c, hc, hd⟩ := check_both n l hx hl
  by_cases h0 : c = 0
  · subst h0
    obtain ⟨m, rfl, hm, hlen⟩ := check_ok hc
    by_cases h1 : 0 ≤ i ∧ i < (m : Int)
    · obtain ⟨j, rfl⟩ : ∃ j : Nat, i = j := ⟨i.toNat, by omega⟩
      have ha := at_ok hc (j : Int)
      rw [if_pos h1] at ha
      obtain ⟨g1, g2, g3⟩ := tests_in l j (by omega) (by omega)
      refine ⟨(gbit l j, 0), ?_, ?_⟩
      · refine Ev.bind ha (Ev.congr (f := fun _ => some (gbit l j, 0)) (fun k => ?_) (Ev.now _))
        rw [if_pos rfl, if_pos g1, if_pos g2, if_pos g3, get_bool' l hx j (by omega)]
      · refine Ev.bind hd (Ev.congr (f := fun k => (torrentref4_open.f k l).bind fun t => if 0 ≤ (j : Int) then if (j : Int) < (t.length : Int) then some (rdOf false t (j : Int), 0) else none else none) (fun k => ?_) (Ev.bind (open_f l hx (by omega)) (Ev.congr (f := fun _ => some (gbit l j, 0)) (fun k => ?_) (Ev.now _))))
        · rw [if_pos rfl, if_neg (by omega), if_neg (by omega)]
        · rw [if_pos (by omega), if_pos (by rw [bitsL_length]; omega), rdOf_nat, bitsL_at l _ j (by omega)]
    · have ha := at_ok hc i
      rw [if_neg h1] at ha
      refine ⟨(false, 43), ?_, ?_⟩
      · exact Ev.bind ha (Ev.congr (fun k => if_neg (by decide)) (Ev.now _))
      · refine Ev.bind hd (Ev.congr (f := fun _ => some (false, 43)) (fun k => ?_) (Ev.now _))
        rw [if_pos rfl]
        by_cases h2 : i < 0
        · rw [if_pos h2]
        · rw [if_neg h2, if_pos (by omega)]
  · refine ⟨(false, c), ?_, ?_⟩
    · exact Ev.bind (at_no hc h0 i) (Ev.congr (fun k => if_neg h0) (Ev.now _))
    · exact Ev.bind hd (Ev.congr (fun k => if_neg h0) (Ev.now _))
/-- No spare bit is set, where Check is content. -/
theorem spare_none {m : Nat} {l : List Int} (hx : IsB l) (hl : l.length ≤ 140737488351232) (h : Ev (fun k => bitset_Check.f k (m : Int) l) 0) (i : Nat) (h1 : m ≤ i) (h2 : i < 8 * l.length) : gbit l i = false := by
  obtain ⟨m', e, hm, hlen⟩ := check_ok h
  obtain rfl : m = m' := by omega
  have h8 : m % 8 ≠ 0 := by omega
  have h88 := Nat.mod_lt m (show 8 > 0 by decide)
  have hxb := hx.getD (m / 8)
  have hs := spare_mask _ hxb (m % 8) h88
  have e1 : ∀ k, bitset_Check.f k (m : Int) l = bitset_Check.j0 k (m : Int) l false := fun k => by
    unfold bitset_Check.f
    rw [if_neg (by omega), decide_eq_false (by omega)]
  obtain ⟨K, hK⟩ := h
  have := hK (K + 1) (by omega)
  simp only [e1, bitset_Check.j0] at this
  rw [if_neg (by decide), size_f m hm] at this
  simp only [Option.bind_some] at this
  rw [if_pos (by omega), rem8, quo8 m (by omega), if_neg (by omega), if_pos (by omega), if_pos (by omega), if_pos (by omega), rd_nat, hs] at this
  have hz : l.getD (m / 8) 0 % 2 ^ (8 - m % 8) = 0 := by
    by_cases hz : l.getD (m / 8) 0 % 2 ^ (8 - m % 8) = 0
    · exact hz
    · rw [if_neg hz] at this
      simp at this
  unfold gbit
  rw [show i / 8 = m / 8 by omega]
  obtain ⟨a, ha⟩ : ∃ a : Nat, l.getD (m / 8) 0 = a := ⟨(l.getD (m / 8) 0).toNat, by omega⟩
  rw [ha] at hz ⊢
  rw [Int.toNat_natCast]
  have hz2 : a % 2 ^ (8 - m % 8) = 0 := by exact_mod_cast hz
  have := Nat.testBit_mod_two_pow a (8 - m % 8) (7 - i % 8)
  rw [hz2, Nat.zero_testBit] at this
  have hlt : 7 - i % 8 < 8 - m % 8 := by omega
  simpa [hlt] using this.symm
/-- A bitfield that Check takes is packed. -/
theorem packed_of_check {m : Nat} {l : List Int} (hx : IsB l) (hl : l.length ≤ 140737488351232) (h : Ev (fun k => bitset_Check.f k (m : Int) l) 0) : Packed (gbit l) m l := by
  obtain ⟨m', e, hm, hlen⟩ := check_ok h
  obtain rfl : m = m' := by omega
  refine ⟨hlen, hx, fun i hi => ?_⟩
  by_cases h1 : i < m
  · simp [h1]
  · rw [spare_none hx hl h i (by omega) hi]
    simp
/-- What the two Puts answer. -/
theorem put_same (n : Int) (l : List Int) (i : Int) (on : Bool) (hx : IsB l) (hl : l.length ≤ 140737488351232) : ∃ r e, Ev (fun k => bitset_Put.f k n l i on) (r, e) ∧ Ev (fun k => torrentref4_Put.f k n l i on) (r, e) ∧ r.length ≤ 8192 := by
  obtain ⟨c, hc, hd⟩ := check_both n l hx hl
  by_cases h0 : c = 0
  · subst h0
    obtain ⟨m, rfl, hm, hlen⟩ := check_ok hc
    by_cases h1 : 0 ≤ i ∧ i < (m : Int)
    · obtain ⟨j, rfl⟩ : ∃ j : Nat, i = j := ⟨i.toNat, by omega⟩
      have ha := at_ok hc (j : Int)
      rw [if_pos h1] at ha
      obtain ⟨g1, g2, g3⟩ := tests_in l j (by omega) (by omega)
      have hpk := packed_of_check hx hl hc
      have hjl : j < 8 * l.length := by omega
      -- the program's own
      have h2 : Ev (fun k => bitset_Put.f k (m : Int) l (j : Int) on) (if on then put1 l j else put0 l j, 0) := by
        refine Ev.bind ha (Ev.congr (f := fun _ => some (if on then put1 l j else put0 l j, 0)) (fun k => ?_) (Ev.now _))
        rw [if_pos rfl, if_pos (by simp; omega)]
        simp only [Option.bind_some, List.nil_append]
        cases on with
        | true => rw [if_pos rfl, if_pos g1, if_pos g2, if_pos g3, set_mask l j (by omega)]; rfl
        | false => rw [if_neg (by decide), if_pos g1, if_pos g2, if_pos g3, clear_mask l j (by omega)]; rfl
      have h3 : Packed (fun q => if q = j then on else gbit l q) m (if on then put1 l j else put0 l j) := by
        cases on with
        | true =>
          refine ⟨by rw [if_pos rfl, put1_length]; exact hlen, by rw [if_pos rfl]; exact put1_isB hx j, fun q hq => ?_⟩
          rw [if_pos rfl] at hq ⊢
          rw [put1_length] at hq
          rw [put1_bit hx j q hjl, hpk.bit q hq]
          by_cases hqj : q = j
          · subst hqj; simp; omega
          · simp [hqj]
        | false =>
          refine ⟨by rw [if_neg (by decide), put0_length]; exact hlen, by rw [if_neg (by decide)]; exact put0_isB hx j, fun q hq => ?_⟩
          rw [if_neg (by decide)] at hq ⊢
          rw [put0_length] at hq
          rw [put0_bit hx j q hjl, hpk.bit q hq]
          by_cases hqj : q = j
          · subst hqj; simp
          · simp [hqj]
      -- the reference's
      obtain ⟨s, hs, hq⟩ := pack_f (((bitsL l (8 * l.length)).set j on).take m) (by rw [List.length_take]; omega)
      have hql : (((bitsL l (8 * l.length)).set j on).take m).length = m := by rw [List.length_take, List.length_set, bitsL_length]; omega
      rw [hql] at hq
      have hss : s = if on then put1 l j else put0 l j := by
        refine hq.unique h3 fun q hqm => ?_
        rw [List.getD_eq_getElem?_getD, List.getElem?_take_of_lt hqm]
        by_cases hqj : q = j
        · subst hqj
          rw [List.getElem?_set_self (by rw [bitsL_length]; omega), if_pos rfl]
          rfl
        · rw [List.getElem?_set_ne (Ne.symm hqj), if_neg hqj, ← List.getD_eq_getElem?_getD, bitsL_at l _ q (by omega)]
      subst hss
      refine ⟨_, 0, h2, ?_, by have := h3.len; omega⟩
      refine Ev.bind hd (Ev.congr (f := fun k => torrentref4_Put.j0 k (m : Int) l (j : Int) on false) (fun k => ?_) (Ev.step (f := fun k => (torrentref4_open.f k l).bind fun t => if 0 ≤ (j : Int) then if (j : Int) < (t.length : Int) then if 0 ≤ (m : Int) then if (m : Int) ≤ (t.length : Int) then (torrentref4_pack.f k ((t.set (j : Int).toNat on).take (m : Int).toNat)).bind fun u => some (u, 0) else none else none else none else none) (fun k => ?_) (Ev.bind (open_f l hx (by omega)) (Ev.congr (f := fun k => (torrentref4_pack.f k (((bitsL l (8 * l.length)).set j on).take m)).bind fun u => some (u, 0)) (fun k => ?_) (Ev.bind hs (Ev.now _))))))
      · rw [if_pos rfl, if_neg (by omega), decide_eq_false (by omega)]
      · simp only [torrentref4_Put.j0]
        rw [if_neg (by decide)]
      · rw [if_pos (by omega), if_pos (by rw [bitsL_length]; omega), if_pos (by omega), if_pos (by rw [bitsL_length]; omega), Int.toNat_natCast, Int.toNat_natCast]
    · have ha := at_ok hc i
      rw [if_neg h1] at ha
      refine ⟨[], 43, ?_, ?_, by simp⟩
      · exact Ev.bind ha (Ev.congr (fun k => if_neg (by decide)) (Ev.now _))
      · refine Ev.bind hd (Ev.congr (f := fun k => torrentref4_Put.j0 k (m : Int) l i on true) (fun k => ?_) (Ev.step (f := fun _ => some ([], 43)) (fun k => by simp only [torrentref4_Put.j0]; rfl) (Ev.now _)))
        rw [if_pos rfl]
        by_cases h2 : i < 0
        · rw [if_pos h2]
        · rw [if_neg h2, decide_eq_true (by omega)]
  · refine ⟨[], c, ?_, ?_, by simp⟩
    · exact Ev.bind (at_no hc h0 i) (Ev.congr (fun k => if_neg h0) (Ev.now _))
    · exact Ev.bind hd (Ev.congr (fun k => if_neg h0) (Ev.now _))
end Go.Proofs.Ytoohpdamndgdlaa.B
