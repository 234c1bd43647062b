/- What Of answers, the program's and the reference's, in plain words: an error, or the packed bits of the places. -/
import Derived.Test.YtoohpdamndgdlaaQMake
import Derived.Test.YtoohpdamndgdlaaPx12
import Derived.Test.YtoohpdamndgdlaaPx13
set_option linter.unusedVariables false
set_option linter.unusedSimpArgs false
namespace Go.Proofs.Ytoohpdamndgdlaa.B
open Go.RowKit Go.Proofs.Ytoohpdamndgdlaa.P Go.Proofs.YtoohpdamndgdlaaW.PrintWords Go.Proofs.YtoohpdamndgdlaaW.PrintLast Go.Proofs.YtoohpdamndgdlaaW.PrintMore

/-- Does the place j stand among these? -/
def among (l : List Int) (j : Nat) : Bool := l.any fun x => decide (x = (j : Int))
theorem among_nil (j : Nat) : among [] j = false := rfl
theorem among_take_succ (l : List Int) (i j : Nat) (hi : i < l.length) : among (l.take (i + 1)) j = (among (l.take i) j || decide (l.getD i 0 = (j : Int))) := by
  unfold among
  rw [List.take_succ_eq_append_getElem hi, List.any_append]
  simp [List.getD_eq_getElem?_getD, List.getElem?_eq_getElem hi]
/-- All places lie below n. -/
def inside (n : Nat) (l : List Int) : Prop := ∀ i, i < l.length → 0 ≤ l.getD i 0 ∧ l.getD i 0 < (n : Int)

theorem of_l (n : Nat) (hn : n ≤ 65536) (l : List Int) (hl : l.length ≤ 9223372036854775807) : ∀ (d i : Nat) (xs : List Int), i + d = l.length → IsB xs → xs.length = (n + 7) / 8 → (∀ j, j < 8 * xs.length → gbit xs j = among (l.take i) j) → (∀ q, q < i → 0 ≤ l.getD q 0 ∧ l.getD q 0 < (n : Int)) →
    (inside n l ∧ ∃ r, Ev (fun k => bitset_Of.l0 k (n : Int) xs l (l.length : Int) (i : Int)) (r, 0) ∧ Packed (among l) n r) ∨ (¬ inside n l ∧ Ev (fun k => bitset_Of.l0 k (n : Int) xs l (l.length : Int) (i : Int)) ([], 43))
  | 0, i, xs, hd, hx, hlen, hb, hin => by
    obtain rfl : i = l.length := by omega
    refine .inl ⟨hin, xs, Ev.step (f := fun _ => some (xs, 0)) (fun k => ?_) (Ev.now _), hlen, hx, fun j hj => ?_⟩
    · simp only [bitset_Of.l0]
      rw [if_neg (by omega)]
    · rw [hb j hj, List.take_length]
      by_cases hjn : j < n
      · simp [hjn]
      · have : among l j = false := by
          unfold among
          rw [List.any_eq_false]
          intro x hx2
          obtain ⟨q, hq, rfl⟩ := List.getElem_of_mem hx2
          have := hin q hq
          rw [List.getD_eq_getElem?_getD, List.getElem?_eq_getElem hq, Option.getD_some] at this
          simp
          omega
        simp [this]
  | d + 1, i, xs, hd, hx, hlen, hb, hin => by
    have hi : i < l.length := by omega
    have e1 : ((i : Nat) : Int) < (l.length : Int) := by omega
    by_cases h0 : l.getD i 0 < 0
    · refine .inr ⟨fun h => by have := h i hi; omega, Ev.step (f := fun _ => some ([], 43)) (fun k => ?_) (Ev.now _)⟩
      simp only [bitset_Of.l0]
      rw [if_pos e1, if_pos (by omega), if_pos e1, rd_nat, if_pos h0]
    · by_cases h1 : l.getD i 0 ≥ (n : Int)
      · refine .inr ⟨fun h => by have := h i hi; omega, Ev.step (f := fun _ => some ([], 43)) (fun k => ?_) (Ev.now _)⟩
        simp only [bitset_Of.l0]
        rw [if_pos e1, if_pos (by omega), if_pos e1, rd_nat, if_neg h0, if_pos h1]
      · obtain ⟨p, hp⟩ : ∃ p : Nat, l.getD i 0 = (p : Int) := ⟨(l.getD i 0).toNat, by omega⟩
        have hpn : p < n := by omega
        have ih := of_l n hn l hl d (i + 1) (put1 xs p) (by omega) (put1_isB hx p) (by rw [put1_length]; exact hlen) (fun j hj => by
          rw [put1_length] at hj
          rw [put1_bit hx p j (by omega), hb j hj, among_take_succ l i j hi, hp]
          congr 1
          exact decide_eq_decide.mpr ⟨fun h => by omega, fun h => by omega⟩) (fun q hq => by
          by_cases hqi : q = i
          · subst hqi; omega
          · exact hin q (by omega))
        have st : ∀ k, bitset_Of.l0 (k + 1) (n : Int) xs l (l.length : Int) (i : Int) = bitset_Of.l0 k (n : Int) (put1 xs p) l (l.length : Int) ((i + 1 : Nat) : Int) := fun k => by
          obtain ⟨g1, g2, g3⟩ := tests_in xs p (by omega) (by omega)
          simp only [bitset_Of.l0]
          rw [if_pos e1, if_pos (by omega), if_pos e1, rd_nat, if_neg h0, if_neg h1, hp, if_pos g1, if_pos g2, if_pos g3, set_mask xs p (by omega), inc i (by omega)]
        rcases ih with ⟨h2, r, hr, hp2⟩ | ⟨h2, hr⟩
        · exact .inl ⟨h2, r, Ev.step st hr, hp2⟩
        · exact .inr ⟨h2, Ev.step st hr⟩
theorem of_ok (n : Nat) (hn : n ≤ 65536) (l : List Int) (hl : l.length ≤ 9223372036854775807) :
    (inside n l ∧ ∃ r, Ev (fun k => bitset_Of.f k (n : Int) l) (r, 0) ∧ Packed (among l) n r) ∨ (¬ inside n l ∧ Ev (fun k => bitset_Of.f k (n : Int) l) ([], 43)) := by
  have e : ∀ k, bitset_Of.f k (n : Int) l = bitset_Of.l0 k (n : Int) (List.replicate ((n + 7) / 8) 0) l (l.length : Int) ((0 : Nat) : Int) := fun k => by
    unfold bitset_Of.f
    rw [make_ok n hn]
    simp only [Option.bind_some]
    rw [if_pos trivial]
    rfl
  rcases of_l n hn l hl l.length 0 (List.replicate ((n + 7) / 8) 0) (by omega) (IsB.replicate _) (by simp) (fun j hj => by rw [gbit_replicate]; rfl) (fun q hq => by omega) with ⟨h, r, hr, hp⟩ | ⟨h, hr⟩
  · exact .inl ⟨h, r, Ev.congr e hr, hp⟩
  · exact .inr ⟨h, Ev.congr e hr⟩
theorem of_no (n : Int) (l : List Int) (h : n < 0 ∨ 65536 < n) (k : Nat) : bitset_Of.f k n l = some ([], 40) := by
  unfold bitset_Of.f
  rw [make_no n h]
  rfl

theorem refOf_l (n : Nat) (hn : n ≤ 65536) (l : List Int) (hl : l.length ≤ 9223372036854775807) : ∀ (d i : Nat) (bs : List Bool), i + d = l.length → bs.length = n → (∀ j, j < n → bs.getD j false = among (l.take i) j) → (∀ q, q < i → 0 ≤ l.getD q 0 ∧ l.getD q 0 < (n : Int)) →
    (inside n l ∧ ∃ r, Ev (fun k => torrentref4_Of.l0 k (n : Int) l bs (i : Int)) (r, 0) ∧ Packed (among l) n r) ∨ (¬ inside n l ∧ Ev (fun k => torrentref4_Of.l0 k (n : Int) l bs (i : Int)) ([], 43))
  | 0, i, bs, hd, hlen, hb, hin => by
    obtain rfl : i = l.length := by omega
    obtain ⟨r, hr, hp⟩ := pack_f bs (by omega)
    refine .inl ⟨hin, r, Ev.step (f := fun k => (torrentref4_pack.f k bs).bind fun t => some (t, 0)) (fun k => ?_) (Ev.bind hr (Ev.now _)), ?_⟩
    · simp only [torrentref4_Of.l0]
      rw [if_neg (by omega)]
    · rw [hlen] at hp
      exact hp.congr fun j hj => by rw [hb j hj, List.take_length]
  | d + 1, i, bs, hd, hlen, hb, hin => by
    have hi : i < l.length := by omega
    have e1 : ((i : Nat) : Int) < (l.length : Int) := by omega
    by_cases h0 : l.getD i 0 < 0
    · refine .inr ⟨fun h => by have := h i hi; omega, Ev.step (f := fun _ => some ([], 43)) (fun k => ?_) (Ev.now _)⟩
      simp only [torrentref4_Of.l0]
      rw [if_pos e1, if_pos (by omega), rd_nat, if_pos h0]
    · by_cases h1 : l.getD i 0 ≥ (n : Int)
      · refine .inr ⟨fun h => by have := h i hi; omega, Ev.step (f := fun _ => some ([], 43)) (fun k => ?_) (Ev.now _)⟩
        simp only [torrentref4_Of.l0]
        rw [if_pos e1, if_pos (by omega), rd_nat, if_neg h0, if_pos h1]
      · obtain ⟨p, hp⟩ : ∃ p : Nat, l.getD i 0 = (p : Int) := ⟨(l.getD i 0).toNat, by omega⟩
        have hpn : p < n := by omega
        have ih := refOf_l n hn l hl d (i + 1) (bs.set p true) (by omega) (by simpa using hlen) (fun j hj => by
          rw [among_take_succ l i j hi, hp, ← hb j hj]
          simp only [List.getD_eq_getElem?_getD]
          by_cases hjp : p = j
          · subst hjp; rw [List.getElem?_set_self (by omega)]; simp
          · rw [List.getElem?_set_ne hjp]
            have : ¬ ((p : Int) = (j : Int)) := by omega
            simp [this]) (fun q hq => by
          by_cases hqi : q = i
          · subst hqi; omega
          · exact hin q (by omega))
        have st : ∀ k, torrentref4_Of.l0 (k + 1) (n : Int) l bs (i : Int) = torrentref4_Of.l0 k (n : Int) l (bs.set p true) ((i + 1 : Nat) : Int) := fun k => by
          simp only [torrentref4_Of.l0]
          rw [if_pos e1, if_pos (by omega), rd_nat, if_neg h0, if_neg h1, hp, if_pos (by omega), if_pos (by omega), Int.toNat_natCast, inc i (by omega)]
        rcases ih with ⟨h2, r, hr, hp2⟩ | ⟨h2, hr⟩
        · exact .inl ⟨h2, r, Ev.step st hr, hp2⟩
        · exact .inr ⟨h2, Ev.step st hr⟩
theorem refOf_ok (n : Nat) (hn : n ≤ 65536) (l : List Int) (hl : l.length ≤ 9223372036854775807) :
    (inside n l ∧ ∃ r, Ev (fun k => torrentref4_Of.f k (n : Int) l) (r, 0) ∧ Packed (among l) n r) ∨ (¬ inside n l ∧ Ev (fun k => torrentref4_Of.f k (n : Int) l) ([], 43)) := by
  have e : ∀ k, torrentref4_Of.f k (n : Int) l = torrentref4_Of.j0 k (n : Int) l false := fun k => by
    unfold torrentref4_Of.f
    rw [if_neg (by omega), decide_eq_false (by omega)]
  have e2 : ∀ k, torrentref4_Of.j0 (k + 1) (n : Int) l false = torrentref4_Of.l0 k (n : Int) l (List.replicate n false) ((0 : Nat) : Int) := fun k => by
    simp only [torrentref4_Of.j0]
    rw [if_neg (by decide), if_pos (by omega), if_pos (by omega), Int.toNat_natCast]
    rfl
  rcases refOf_l n hn l hl l.length 0 (List.replicate n false) (by omega) (by simp) (fun j hj => by simp [among, hj]) (fun q hq => by omega) with ⟨h, r, hr, hp⟩ | ⟨h, hr⟩
  · exact .inl ⟨h, r, Ev.congr e (Ev.step e2 hr), hp⟩
  · exact .inr ⟨h, Ev.congr e (Ev.step e2 hr)⟩
theorem refOf_no (n : Int) (l : List Int) (h : n < 0 ∨ 65536 < n) : Ev (fun k => torrentref4_Of.f k n l) ([], 40) := by
  refine Ev.congr (f := fun k => torrentref4_Of.j0 k n l true) (fun k => ?_) (Ev.step (f := fun _ => some ([], 40)) (fun k => by simp only [torrentref4_Of.j0]; rfl) (Ev.now _))
  unfold torrentref4_Of.f
  by_cases h0 : n < 0
  · rw [if_pos h0]
  · rw [if_neg h0, decide_eq_true (by omega)]
end Go.Proofs.Ytoohpdamndgdlaa.B
