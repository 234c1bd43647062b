/- BitsetOfs: every Of answers what the reference answers, and leaves the places as they were. No condition. -/
import Derived.Test.YtoohpdamndgdlaaQOf
import Derived.Test.YtoohpdamndgdlaaPx14
import Derived.Test.YtoohpdamndgdlaaPx15
set_option linter.unusedVariables false
set_option linter.unusedSimpArgs false
namespace Go.Proofs.Ytoohpdamndgdlaa.B
open Go.RowKit Go.Proofs.Ytoohpdamndgdlaa.P Go.Proofs.YtoohpdamndgdlaaW.PrintWords Go.Proofs.YtoohpdamndgdlaaW.PrintLast Go.Proofs.YtoohpdamndgdlaaW.PrintMore
theorem sameInts_l (l : List Int) (hl : l.length ≤ 9223372036854775807) : ∀ (d i : Nat), i + d = l.length → Ev (fun k => torrentlaw4_sameInts.l0 k l l (i : Int)) true
  | 0, i, h => Ev.step (f := fun _ => some true) (fun k => by
      simp only [torrentlaw4_sameInts.l0]
      rw [if_neg (by omega)]) (Ev.now _)
  | d + 1, i, h => Ev.step (f := fun k => torrentlaw4_sameInts.l0 k l l ((i + 1 : Nat) : Int)) (fun k => by
      simp only [torrentlaw4_sameInts.l0]
      rw [if_pos (by omega), if_pos (by omega), if_pos (by omega), if_pos trivial, inc i (by omega)]) (sameInts_l l hl d (i + 1) (by omega))
theorem sameInts_f (l : List Int) (hl : l.length ≤ 9223372036854775807) : Ev (fun k => torrentlaw4_sameInts.f k l l) true := by
  unfold torrentlaw4_sameInts.f
  refine Ev.congr (fun k => if_pos rfl) ?_
  exact sameInts_l l hl l.length 0 (by omega)
theorem ofs_of {n : Int} {l a : List Int} {e : Int} (hl : l.length < 17592186044416) (h1 : Ev (fun k => bitset_Of.f k n l) (a, e)) (h2 : Ev (fun k => torrentref4_Of.f k n l) (a, e)) (ha : a.length ≤ 9223372036854775807) :
    ∃ k, torrentlaw4_BitsetOfs.f k n l = some true := by
  refine Ev.rounds (Ev.congr (fun k => ?_) (Ev.bind h1 (f := fun k bt176 => ((torrentref4_Of.f k n l).bind fun bt180 => (if bt176.2 = bt180.2 then ((torrentlaw4_sameBytes.f k bt176.1 bt180.1).bind fun t184 => (if t184 = true then ((torrentlaw4_sameInts.f k l l).bind fun t185 => (some t185)) else (some false))) else (some false))))
    (Ev.bind h2 (Ev.congr (fun k => if_pos rfl) (Ev.bind (sameBytes_f a ha) (Ev.congr (fun k => if_pos rfl) (Ev.bind (sameInts_f l (by omega)) (Ev.now _))))))))
  unfold torrentlaw4_BitsetOfs.f
  rw [if_pos (by simpa using hl)]
  rfl
end Go.Proofs.Ytoohpdamndgdlaa.B
namespace Go.Proofs.Ytoohpdamndgdlaa.Pure
open Go.RowKit Go.Proofs.Ytoohpdamndgdlaa.P Go.Proofs.YtoohpdamndgdlaaW.PrintWords Go.Proofs.YtoohpdamndgdlaaW.PrintLast
open Go.Proofs.Ytoohpdamndgdlaa.B

theorem BitsetOfs : torrentlaw4_BitsetOfs.Pure := by
  intro n l _ _ hl _
  by_cases h : n < 0 ∨ 65536 < n
  · exact ofs_of (by omega) (Ev.congr (fun k => of_no n l h k) (Ev.now _)) (refOf_no n l h) (by simp)
  · obtain ⟨m, rfl⟩ : ∃ m : Nat, n = m := ⟨n.toNat, by omega⟩
    have hm : m ≤ 65536 := by omega
    rcases of_ok m hm l (by omega) with ⟨hi, r, hr, hp⟩ | ⟨hi, hr⟩
    · rcases refOf_ok m hm l (by omega) with ⟨_, s, hs, hq⟩ | ⟨hj, _⟩
      · obtain rfl := hp.unique hq (fun _ _ => rfl)
        exact ofs_of (by omega) hr hs (by have := hp.len; omega)
      · exact absurd hi hj
    · rcases refOf_ok m hm l (by omega) with ⟨hj, _⟩ | ⟨_, hs⟩
      · exact absurd hj hi
      · exact ofs_of (by omega) hr hs (by simp)
end Go.Proofs.Ytoohpdamndgdlaa.Pure
