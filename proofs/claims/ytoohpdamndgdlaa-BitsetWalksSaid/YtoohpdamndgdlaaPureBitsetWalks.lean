/- BitsetWalks: what the reference's Ones, the copies and Check answer, and, with the walk of the law, that it returns true. No condition. -/
import Derived.Test.YtoohpdamndgdlaaQOnes
import Derived.Test.YtoohpdamndgdlaaHLaw
set_option linter.unusedVariables false
namespace Go.Proofs.Ytoohpdamndgdlaa.Pure
open Go.RowKit Go.Proofs.Ytoohpdamndgdlaa.P Go.Proofs.YtoohpdamndgdlaaW.PrintWords Go.Proofs.YtoohpdamndgdlaaW.PrintLast
open Go.Proofs.Ytoohpdamndgdlaa.B
theorem ones_walked (n : Int) (l : List Int) (hx : IsB l) (hl : l.length ≤ 140737488351232) : ∃ L e, Ev (fun k => torrentref4_Ones.f k n l) (L, e) ∧ Ev (fun k => bitset_Check.f k n l) e ∧ walked e n l = L ∧ L.length ≤ 65536 := by
  obtain ⟨r, e, h1, h2, _, _, hr⟩ := ones_same n l hx hl
  obtain ⟨K, hK⟩ := h1
  exact ⟨r, e, h2, ⟨K, fun k hk => (bitset_Ones.told (hK k hk)).1⟩, (bitset_Ones.told (hK K (Nat.le_refl _))).2.1.symm, hr⟩
theorem BitsetWalks (a0 : Int) (a1 : Option Addr) (len1 cap1 : Nat) (z1 : List Int) (a2 : Option Addr) (len2 cap2 : Nat) (z2 : List Int) (a3 : Int) (w : World)
    (w1 : (a1 = none ∧ len1 = 0 ∧ cap1 = 0 ∧ z1 = []) ∨ ∃ x, a1 = some x ∧ len1 ≤ cap1 ∧ cap1 ≤ maxLen ∧ z1.length = cap1 ∧ (∀ i, i < z1.length → w.cell? (x.add i) = some (.int .u8 (z1.getD i 0))) ∧ ∀ n ∈ z1, (Lit.int .u8 n).wf = true) (y1 : len1 * 1 ≤ 140737488351232)
    (w2 : (a2 = none ∧ len2 = 0 ∧ cap2 = 0 ∧ z2 = []) ∨ ∃ x, a2 = some x ∧ len2 ≤ cap2 ∧ cap2 ≤ maxLen ∧ z2.length = cap2 ∧ (∀ i, i < z2.length → w.cell? (x.add i) = some (.int .u8 (z2.getD i 0))) ∧ ∀ n ∈ z2, (Lit.int .u8 n).wf = true) (y2 : len2 * 1 ≤ 140737488351232) :
    Calls Try.prog 5 #[.int .i64 a0, .slice a1 len1 cap1, .slice a2 len2 cap2, .int .i64 a3] w fun e w' => e = .returned (.bool true) ∧ Below w.heap.size w w' := by
  obtain ⟨l1, rfl, hr1, hm1, hw1, hc1⟩ := ReadsInt.ofRowC w1
  obtain ⟨l2, rfl, hr2, hm2, hw2, hc2⟩ := ReadsInt.ofRowC w2
  obtain ⟨L1, e1, ⟨K1, g1⟩, ⟨K2, g2⟩, g3, g4⟩ := ones_walked a0 l1 (IsB.of_wf hw1) (by omega)
  obtain ⟨L2, e2, ⟨K3, f1⟩, ⟨K4, f2⟩, f3, f4⟩ := ones_walked a0 l2 (IsB.of_wf hw2) (by omega)
  obtain ⟨K5, c1⟩ := copied_f l1 (by omega)
  obtain ⟨K6, c2⟩ := copied_f l2 (by omega)
  obtain ⟨K7, s1⟩ := sameBytes_f l1 (by omega)
  exact callsIn_wide.1 (walks_in (K1 + K2 + K3 + K4 + K5 + K6 + K7) a0 a3 a1 cap1 l1 a2 cap2 l2 w (Kd.C_of_reads (d := (0 : Int)) (h1 := fun _ => rfl) hr1) hc1 (Kd.C_of_reads (d := (0 : Int)) (h1 := fun _ => rfl) hr2) hc2
    L1 L2 e1 e2 e1 e2 (g1 _ (by omega)) (f1 _ (by omega)) (c1 _ (by omega)) (c2 _ (by omega)) (g2 _ (by omega)) (f2 _ (by omega)) g3 f3 (s1 _ (by omega)) (by omega) g4 f4)
end Go.Proofs.Ytoohpdamndgdlaa.Pure
