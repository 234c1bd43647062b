/- BitsetCounts: every Count and Ones answers what the reference answers, and leaves the bytes as they were. No condition. -/
import Derived.Test.YtoohpdamndgdlaaQOnes
import Derived.Test.YtoohpdamndgdlaaPx39
set_option linter.unusedVariables false
namespace Go.Proofs.Ytoohpdamndgdlaa.Pure
open Go.RowKit Go.Proofs.Ytoohpdamndgdlaa.P Go.Proofs.YtoohpdamndgdlaaW.PrintWords Go.Proofs.YtoohpdamndgdlaaW.PrintLast
open Go.Proofs.Ytoohpdamndgdlaa.B

theorem BitsetCounts : torrentlaw4_BitsetCounts.Pure := by
  intro n l _ _ hl hw
  have hx := IsB.of_wf hw
  obtain ⟨r, e, h1, h2, h3, h4, hr⟩ := ones_same n l hx (by omega)
  have hb := sameBytes_f l (by omega)
  have second : Ev (fun k => torrentlaw4_BitsetCounts.j0 k n l l false) true := by
    refine Ev.step (f := fun k => (bitset_Ones.f k n l).bind fun bt328 => ((torrentref4_Ones.f k n l).bind fun bt332 => (if bt328.2 = bt332.2 then ((torrentlaw4_sameInts.f k bt328.1 bt332.1).bind fun t336 => (if t336 = true then ((torrentlaw4_sameBytes.f k l l).bind fun t337 => (some t337)) else (some false))) else (some false)))) (fun k => by simp only [torrentlaw4_BitsetCounts.j0]; rfl) ?_
    exact Ev.bind h1 (Ev.bind h2 (Ev.congr (fun k => if_pos rfl) (Ev.bind (sameI_f r (by omega)) (Ev.congr (fun k => if_pos rfl) (Ev.bind hb (Ev.now _))))))
  refine Ev.rounds (g := fun k => torrentlaw4_BitsetCounts.f k n l) ?_
  exact Ev.bind (copied_f l (by omega)) (Ev.bind h3 (Ev.bind h4 (Ev.congr (fun k => if_pos rfl) (Ev.congr (fun k => if_pos rfl) (Ev.bind hb second)))))
end Go.Proofs.Ytoohpdamndgdlaa.Pure
