/- BitsetPlaces: every Get and Put answers what the reference answers, and leaves the bytes as they were. No condition. -/
import Derived.Test.YtoohpdamndgdlaaQPlaces
import Derived.Test.YtoohpdamndgdlaaPx34
set_option linter.unusedVariables false
namespace Go.Proofs.Ytoohpdamndgdlaa.Pure
open Go.RowKit Go.Proofs.Ytoohpdamndgdlaa.P Go.Proofs.YtoohpdamndgdlaaW.PrintWords Go.Proofs.YtoohpdamndgdlaaW.PrintLast
open Go.Proofs.Ytoohpdamndgdlaa.B

theorem BitsetPlaces : torrentlaw4_BitsetPlaces.Pure := by
  intro n l i on _ _ hl hw _
  have hx := IsB.of_wf hw
  obtain ⟨r, hr, hs⟩ := get_same n l i hx (by omega)
  obtain ⟨p, e, hp, hq, hpl⟩ := put_same n l i on hx (by omega)
  have hb := sameBytes_f l (by omega)
  have second : Ev (fun k => torrentlaw4_BitsetPlaces.j0 k n l i on l false) true := by
    refine Ev.step (f := fun k => (bitset_Put.f k n l i on).bind fun bt291 => ((torrentref4_Put.f k n l i on).bind fun bt295 => (if bt291.2 = bt295.2 then ((torrentlaw4_sameBytes.f k bt291.1 bt295.1).bind fun t299 => (if t299 = true then ((torrentlaw4_sameBytes.f k l l).bind fun t300 => (some t300)) else (some false))) else (some false)))) (fun k => by simp only [torrentlaw4_BitsetPlaces.j0]; rfl) ?_
    exact Ev.bind hp (Ev.bind hq (Ev.congr (fun k => if_pos rfl) (Ev.bind (sameBytes_f p (by omega)) (Ev.congr (fun k => if_pos rfl) (Ev.bind hb (Ev.now _))))))
  refine Ev.rounds (g := fun k => torrentlaw4_BitsetPlaces.f k n l i on) ?_
  exact Ev.bind (copied_f l (by omega)) (Ev.bind hr (Ev.bind hs (Ev.congr (fun k => if_pos rfl) (Ev.congr (fun k => if_neg (by simp)) (Ev.bind hb second)))))
end Go.Proofs.Ytoohpdamndgdlaa.Pure
