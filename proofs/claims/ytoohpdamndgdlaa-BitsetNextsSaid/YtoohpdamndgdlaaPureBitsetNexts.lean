/- BitsetNexts: every Next answers what the reference answers, and leaves the bytes as they were. No condition. -/
import Derived.Test.YtoohpdamndgdlaaQOpen
import Derived.Test.YtoohpdamndgdlaaPx18
import Derived.Test.YtoohpdamndgdlaaPx22
import Derived.Test.YtoohpdamndgdlaaPx23
set_option linter.unusedVariables false
set_option linter.unusedSimpArgs false
namespace Go.Proofs.Ytoohpdamndgdlaa.B
open Go.RowKit Go.Proofs.Ytoohpdamndgdlaa.P Go.Proofs.YtoohpdamndgdlaaW.PrintWords Go.Proofs.YtoohpdamndgdlaaW.PrintLast Go.Proofs.YtoohpdamndgdlaaW.PrintMore

theorem get_bool (xs : List Int) (hx : IsB xs) (i : Nat) (hi : i ≤ 65536) : (Go.bits .and .u8 (rd xs (wrap64 (Int.tdiv (i : Int) 8))) (shr .u8 128 (Int.tmod (i : Int) 8)) != 0) = gbit xs i := by
  have h := get_mask xs hx i hi
  cases hb : gbit xs i with
  | true =>
    rw [bne_iff_ne]
    intro h0
    rw [h.1 h0] at hb
    cases hb
  | false => rw [bne_eq_false_iff_eq]; exact h.2 hb
theorem next_l (m : Nat) (hm : m ≤ 65536) (l : List Int) (hx : IsB l) (hl : l.length = (m + 7) / 8) (on : Bool) : ∀ (d i : Nat), i + d = m → ∃ r, Ev (fun k => bitset_Next.l0 k (m : Int) l on (i : Int)) (r, 0) ∧ Ev (fun k => torrentref4_Next.l0 k (m : Int) on (bitsL l (8 * l.length)) (i : Int)) (r, 0)
  | 0, i, h => by
    refine ⟨(m : Int), Ev.step (f := fun _ => some ((m : Int), 0)) (fun k => ?_) (Ev.now _), Ev.step (f := fun _ => some ((m : Int), 0)) (fun k => ?_) (Ev.now _)⟩
    · simp only [bitset_Next.l0]
      rw [if_neg (by omega)]
    · simp only [torrentref4_Next.l0]
      rw [if_neg (by omega)]
  | d + 1, i, h => by
    obtain ⟨g1, g2, g3⟩ := tests_in l i (by omega) (by omega)
    have e1 : ∀ k, bitset_Next.l0 (k + 1) (m : Int) l on (i : Int) = if (gbit l i == on) = true then some ((i : Int), 0) else bitset_Next.l0 k (m : Int) l on ((i + 1 : Nat) : Int) := fun k => by
      simp only [bitset_Next.l0]
      rw [if_pos (by omega), if_pos g1, if_pos g2, if_pos g3, get_bool l hx i (by omega), inc i (by omega)]
    have e2 : ∀ k, torrentref4_Next.l0 (k + 1) (m : Int) on (bitsL l (8 * l.length)) (i : Int) = if (gbit l i == on) = true then some ((i : Int), 0) else torrentref4_Next.l0 k (m : Int) on (bitsL l (8 * l.length)) ((i + 1 : Nat) : Int) := fun k => by
      simp only [torrentref4_Next.l0]
      rw [if_pos (by omega), if_pos (by omega), if_pos (by rw [bitsL_length]; omega), rdOf_nat, bitsL_at l _ i (by omega), inc i (by omega)]
    by_cases hb : (gbit l i == on) = true
    · exact ⟨(i : Int), Ev.step (f := fun _ => some ((i : Int), 0)) (fun k => by rw [e1, if_pos hb]) (Ev.now _), Ev.step (f := fun _ => some ((i : Int), 0)) (fun k => by rw [e2, if_pos hb]) (Ev.now _)⟩
    · obtain ⟨r, hr, hs⟩ := next_l m hm l hx hl on d (i + 1) (by omega)
      exact ⟨r, Ev.step (fun k => by rw [e1, if_neg hb]) hr, Ev.step (fun k => by rw [e2, if_neg hb]) hs⟩
theorem next_same (n : Int) (l : List Int) (a : Int) (on : Bool) (hx : IsB l) (hl : l.length ≤ 140737488351232) : ∃ r, Ev (fun k => bitset_Next.f k n l a on) r ∧ Ev (fun k => torrentref4_Next.f k n l a on) r := by
  obtain ⟨c, hc, hd⟩ := check_both n l hx hl
  by_cases h0 : c = 0
  · subst h0
    obtain ⟨m, rfl, hm, hlen⟩ := check_ok hc
    by_cases h1 : a < 0 ∨ (m : Int) < a
    · refine ⟨(0, 43), ?_, ?_⟩
      · refine Ev.bind hc (Ev.congr (f := fun k => bitset_Next.j0 k (m : Int) l a on true) (fun k => ?_) (Ev.step (f := fun _ => some (0, 43)) (fun k => by simp only [bitset_Next.j0]; rfl) (Ev.now _)))
        rw [if_pos rfl]
        by_cases h2 : a < 0
        · rw [if_pos h2]
        · rw [if_neg h2, decide_eq_true (by omega)]
      · refine Ev.bind hd (Ev.congr (f := fun k => torrentref4_Next.j0 k (m : Int) l a on true) (fun k => ?_) (Ev.step (f := fun _ => some (0, 43)) (fun k => by simp only [torrentref4_Next.j0]; rfl) (Ev.now _)))
        rw [if_pos rfl]
        by_cases h2 : a < 0
        · rw [if_pos h2]
        · rw [if_neg h2, decide_eq_true (by omega)]
    · obtain ⟨i, rfl⟩ : ∃ i : Nat, a = i := ⟨a.toNat, by omega⟩
      obtain ⟨r, hr, hs⟩ := next_l m hm l hx hlen on (m - i) i (by omega)
      refine ⟨(r, 0), ?_, ?_⟩
      · refine Ev.bind hc (Ev.congr (f := fun k => bitset_Next.j0 k (m : Int) l (i : Int) on false) (fun k => ?_) (Ev.step (fun k => by simp only [bitset_Next.j0]; rfl) hr))
        rw [if_pos rfl, if_neg (by omega), decide_eq_false (by omega)]
      · refine Ev.bind hd (Ev.congr (f := fun k => torrentref4_Next.j0 k (m : Int) l (i : Int) on false) (fun k => ?_) (Ev.step (f := fun k => (torrentref4_open.f k l).bind fun t => torrentref4_Next.l0 k (m : Int) on t (i : Int)) (fun k => by simp only [torrentref4_Next.j0]; rfl) (Ev.bind (open_f l hx (by omega)) hs)))
        rw [if_pos rfl, if_neg (by omega), decide_eq_false (by omega)]
  · exact ⟨(0, c), Ev.bind hc (Ev.congr (fun k => if_neg h0) (Ev.now _)), Ev.bind hd (Ev.congr (fun k => if_neg h0) (Ev.now _))⟩
end Go.Proofs.Ytoohpdamndgdlaa.B
namespace Go.Proofs.Ytoohpdamndgdlaa.Pure
open Go.RowKit Go.Proofs.Ytoohpdamndgdlaa.P Go.Proofs.YtoohpdamndgdlaaW.PrintWords Go.Proofs.YtoohpdamndgdlaaW.PrintLast
open Go.Proofs.Ytoohpdamndgdlaa.B

theorem BitsetNexts : torrentlaw4_BitsetNexts.Pure := by
  intro n l a on _ _ hl hw _
  have hx := IsB.of_wf hw
  obtain ⟨r, hr, hs⟩ := next_same n l a on hx (by omega)
  refine Ev.rounds (g := fun k => torrentlaw4_BitsetNexts.f k n l a on) ?_
  exact Ev.bind (copied_f l (by omega)) (Ev.bind hr (Ev.bind hs (Ev.congr (fun k => if_pos rfl) (Ev.congr (fun k => if_pos rfl) (Ev.bind (sameBytes_f l (by omega)) (Ev.now _))))))
end Go.Proofs.Ytoohpdamndgdlaa.Pure
