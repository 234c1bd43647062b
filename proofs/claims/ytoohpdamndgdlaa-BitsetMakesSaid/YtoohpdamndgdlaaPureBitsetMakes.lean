/- BitsetMakes: every Make and every Full answers what the reference answers. No condition. -/
import Derived.Test.YtoohpdamndgdlaaQMake
import Derived.Test.YtoohpdamndgdlaaPx4
import Derived.Test.YtoohpdamndgdlaaPx6
import Derived.Test.YtoohpdamndgdlaaPx5
import Derived.Test.YtoohpdamndgdlaaPx7
set_option linter.unusedVariables false
set_option linter.unusedSimpArgs false
namespace Go.Proofs.Ytoohpdamndgdlaa.B
open Go.RowKit Go.Proofs.Ytoohpdamndgdlaa.P Go.Proofs.YtoohpdamndgdlaaW.PrintWords Go.Proofs.YtoohpdamndgdlaaW.PrintLast Go.Proofs.YtoohpdamndgdlaaW.PrintMore

theorem refMake_ok (n : Nat) (h : n ≤ 65536) : ∃ r, Ev (fun k => torrentref4_Make.f k (n : Int)) (r, 0) ∧ Packed (fun _ => false) n r := by
  obtain ⟨r, hr, hp⟩ := pack_f (List.replicate n false) (by simp; omega)
  refine ⟨r, ?_, ?_⟩
  · refine Ev.congr (f := fun k => (torrentref4_pack.f k (List.replicate n false)).bind fun t => some (t, 0)) (fun k => ?_) (Ev.bind hr (Ev.now _))
    unfold torrentref4_Make.f
    rw [if_neg (by omega), if_neg (by omega), if_pos (by omega), if_pos (by omega), Int.toNat_natCast]
  · rw [List.length_replicate] at hp
    refine hp.congr fun i hi => ?_
    simp only [List.getD_eq_getElem?_getD, List.getElem?_replicate]
    split <;> rfl
theorem refMake_no (n : Int) (h : n < 0 ∨ 65536 < n) (k : Nat) : torrentref4_Make.f k n = some ([], 40) := by
  unfold torrentref4_Make.f
  by_cases h0 : n < 0
  · rw [if_pos h0]
  · rw [if_neg h0, if_pos (by omega)]

theorem full_l (n : Nat) (hn : n ≤ 65536) : ∀ (d i : Nat) (xs : List Int), i + d = n → IsB xs → xs.length = (n + 7) / 8 → (∀ j, j < 8 * xs.length → gbit xs j = decide (j < i)) →
    ∃ r, Ev (fun k => bitset_Full.l0 k xs (n : Int) (i : Int)) (r, 0) ∧ Packed (fun _ => true) n r
  | 0, i, xs, hd, hx, hl, hb => by
    obtain rfl : i = n := by omega
    refine ⟨xs, Ev.step (f := fun _ => some (xs, 0)) (fun k => ?_) (Ev.now _), hl, hx, fun j hj => by rw [hb j hj]; simp⟩
    simp only [bitset_Full.l0]
    rw [if_neg (by omega)]
  | d + 1, i, xs, hd, hx, hl, hb => by
    obtain ⟨r, hr, hp⟩ := full_l n hn d (i + 1) (put1 xs i) (by omega) (put1_isB hx i) (by rw [put1_length]; exact hl) (fun j hj => by
      rw [put1_length] at hj
      rw [put1_bit hx i j (by omega), hb j hj]
      by_cases h : j = i
      · subst h; simp
      · by_cases h2 : j < i
        · simp [h, h2, show j < i + 1 by omega]
        · simp [h, h2, show ¬ j < i + 1 by omega])
    refine ⟨r, Ev.step (f := fun k => bitset_Full.l0 k (put1 xs i) (n : Int) ((i + 1 : Nat) : Int)) (fun k => ?_) hr, hp⟩
    obtain ⟨g1, g2, g3⟩ := tests_in xs i (by omega) (by omega)
    simp only [bitset_Full.l0]
    rw [if_pos (by omega), if_pos g1, if_pos g2, if_pos g3, set_mask xs i (by omega), inc i (by omega)]
theorem full_ok (n : Nat) (h : n ≤ 65536) : ∃ r, Ev (fun k => bitset_Full.f k (n : Int)) (r, 0) ∧ Packed (fun _ => true) n r := by
  obtain ⟨r, hr, hp⟩ := full_l n h n 0 (List.replicate ((n + 7) / 8) 0) (by omega) (IsB.replicate _) (by simp) (fun j hj => by rw [gbit_replicate]; simp)
  refine ⟨r, Ev.congr (fun k => ?_) hr, hp⟩
  unfold bitset_Full.f
  rw [make_ok n h]
  simp only [Option.bind_some]
  rw [if_pos trivial]
  rfl
theorem full_no (n : Int) (h : n < 0 ∨ 65536 < n) (k : Nat) : bitset_Full.f k n = some ([], 40) := by
  unfold bitset_Full.f
  rw [make_no n h]
  rfl

theorem refFull_l (n : Nat) (hn : n ≤ 65536) : ∀ (d i : Nat), i + d = n → ∃ r, Ev (fun k => torrentref4_Full.l0 k (n : Int) (List.replicate i true) (i : Int)) (r, 0) ∧ Packed (fun _ => true) n r
  | 0, i, hd => by
    obtain rfl : i = n := by omega
    obtain ⟨r, hr, hp⟩ := pack_f (List.replicate i true) (by simp; omega)
    refine ⟨r, Ev.step (f := fun k => (torrentref4_pack.f k (List.replicate i true)).bind fun t => some (t, 0)) (fun k => ?_) (Ev.bind hr (Ev.now _)), ?_⟩
    · simp only [torrentref4_Full.l0]
      rw [if_neg (by omega)]
    · rw [List.length_replicate] at hp
      refine hp.congr fun j hj => ?_
      simp only [List.getD_eq_getElem?_getD, List.getElem?_replicate]
      rw [if_pos hj]
      rfl
  | d + 1, i, hd => by
    obtain ⟨r, hr, hp⟩ := refFull_l n hn d (i + 1) (by omega)
    refine ⟨r, Ev.step (f := fun k => torrentref4_Full.l0 k (n : Int) (List.replicate (i + 1) true) ((i + 1 : Nat) : Int)) (fun k => ?_) hr, hp⟩
    simp only [torrentref4_Full.l0]
    rw [if_pos (by omega), if_pos (by simp; omega), inc i (by omega), ← List.replicate_succ']
theorem refFull_ok (n : Nat) (h : n ≤ 65536) : ∃ r, Ev (fun k => torrentref4_Full.f k (n : Int)) (r, 0) ∧ Packed (fun _ => true) n r := by
  obtain ⟨r, hr, hp⟩ := refFull_l n h n 0 (by omega)
  refine ⟨r, Ev.congr (fun k => ?_) (Ev.step (g := fun k => torrentref4_Full.j0 k (n : Int) false) (fun k => ?_) hr), hp⟩
  · unfold torrentref4_Full.f
    rw [if_neg (by omega), decide_eq_false (by omega)]
  · simp only [torrentref4_Full.j0]
    rfl
theorem refFull_no (n : Int) (h : n < 0 ∨ 65536 < n) : Ev (fun k => torrentref4_Full.f k n) ([], 40) := by
  refine Ev.congr (f := fun k => torrentref4_Full.j0 k n true) (fun k => ?_) (Ev.step (f := fun _ => some ([], 40)) (fun k => by simp only [torrentref4_Full.j0]; rfl) (Ev.now _))
  unfold torrentref4_Full.f
  by_cases h0 : n < 0
  · rw [if_pos h0]
  · rw [if_neg h0, decide_eq_true (by omega)]

theorem packed_len {p : Nat → Bool} {n : Nat} {r : List Int} (h : Packed p n r) (hn : n ≤ 65536) : r.length ≤ 9223372036854775807 := by have := h.len; omega
/-- Two makes, and two fulls, that agree. -/
theorem makes_of {n : Int} {a c : List Int} {e g : Int} (h1 : bitset_Make.f n = some (a, e)) (h2 : Ev (fun k => torrentref4_Make.f k n) (a, e)) (h3 : Ev (fun k => bitset_Full.f k n) (c, g)) (h4 : Ev (fun k => torrentref4_Full.f k n) (c, g)) (ha : a.length ≤ 9223372036854775807) (hc : c.length ≤ 9223372036854775807) :
    ∃ k, torrentlaw4_BitsetMakes.f k n = some true := by
  have second : Ev (fun k => torrentlaw4_BitsetMakes.j0 k n false) true := by
    refine Ev.step (f := fun k => (bitset_Full.f k n).bind fun bt145 => ((torrentref4_Full.f k n).bind fun bt149 => (if bt145.2 = bt149.2 then ((torrentlaw4_sameBytes.f k bt145.1 bt149.1).bind fun t153 => (some t153)) else (some false)))) (fun k => by simp only [torrentlaw4_BitsetMakes.j0]; rfl) ?_
    refine Ev.bind h3 (Ev.bind h4 (Ev.congr (fun k => if_pos rfl) (Ev.bind (sameBytes_f c hc) (Ev.now _))))
  refine Ev.rounds (Ev.congr (fun k => ?_) (Ev.bind h2 (f := fun k bt140 => if e = bt140.2 then ((torrentlaw4_sameBytes.f k a bt140.1).bind fun t144 => (torrentlaw4_BitsetMakes.j0 k n (!t144))) else (torrentlaw4_BitsetMakes.j0 k n true)) (Ev.congr (fun k => if_pos rfl) (Ev.bind (sameBytes_f a ha) second))))
  unfold torrentlaw4_BitsetMakes.f
  rw [h1]
  rfl
end Go.Proofs.Ytoohpdamndgdlaa.B
namespace Go.Proofs.Ytoohpdamndgdlaa.Pure
open Go.RowKit Go.Proofs.Ytoohpdamndgdlaa.P Go.Proofs.YtoohpdamndgdlaaW.PrintWords Go.Proofs.YtoohpdamndgdlaaW.PrintLast
open Go.Proofs.Ytoohpdamndgdlaa.B

theorem BitsetMakes : torrentlaw4_BitsetMakes.Pure := by
  intro n _
  by_cases h : n < 0 ∨ 65536 < n
  · exact makes_of (make_no n h) (Ev.congr (fun k => refMake_no n h k) (Ev.now _)) (Ev.congr (fun k => full_no n h k) (Ev.now _)) (refFull_no n h) (by simp) (by simp)
  · obtain ⟨m, rfl⟩ : ∃ m : Nat, n = m := ⟨n.toNat, by omega⟩
    have hm : m ≤ 65536 := by omega
    obtain ⟨r, hr, hp⟩ := refMake_ok m hm
    obtain ⟨s, hs, hq⟩ := full_ok m hm
    obtain ⟨t, ht, hu⟩ := refFull_ok m hm
    obtain rfl := hp.unique (isPacked_zero m) (fun _ _ => rfl)
    obtain rfl := hq.unique hu (fun _ _ => rfl)
    exact makes_of (make_ok m hm) hr hs ht (packed_len hp hm) (packed_len hq hm)
end Go.Proofs.Ytoohpdamndgdlaa.Pure
