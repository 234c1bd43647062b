/- What the two Goods and the reference's Make answer: the same scales are good; a bitfield of nothing is made. Plain words, no program. -/
import Derived.Test.YtbmjcbbgjnfkfaaGreatDoorHPlay
set_option linter.unusedVariables false
set_option linter.unusedSimpArgs false
namespace Go.Proofs.YtbmjcbbgjnfkfaaGreatDoor.P
open Go.RowKit Go.Proofs.YtbmjcbbgjnfkfaaGreatDoorW.PrintWords Go.Proofs.YtbmjcbbgjnfkfaaGreatDoorW.PrintLast Go.Proofs.YtbmjcbbgjnfkfaaGreatDoorW.PrintMore
def pow9 (b : Int) : Prop := b = 64 ∨ b = 128 ∨ b = 256 ∨ b = 512 ∨ b = 1024 ∨ b = 2048 ∨ b = 4096 ∨ b = 8192 ∨ b = 16384
instance (b : Int) : Decidable (pow9 b) := inferInstanceAs (Decidable (_ ∨ _))
def goodE (b wd : Int) : Int := if pow9 b ∧ 1 ≤ wd ∧ wd ≤ 32 then 0 else 10
theorem wraps_i64 (n : Int) (h₀ : 0 ≤ n) (h₁ : n < 2 ^ 15) : IntKind.i64.wrap n = n := by rw [IntKind.wrap_i64]; omega
theorem land_pow : ∀ q : Fin 129, ∀ r : Fin 128, 64 ≤ 128 * q.val + r.val → ((128 * q.val + r.val) &&& (128 * q.val + r.val - 1) = 0 ↔ (128 * q.val + r.val = 64 ∨ 128 * q.val + r.val = 128 ∨ 128 * q.val + r.val = 256 ∨ 128 * q.val + r.val = 512 ∨ 128 * q.val + r.val = 1024 ∨ 128 * q.val + r.val = 2048 ∨ 128 * q.val + r.val = 4096 ∨ 128 * q.val + r.val = 8192 ∨ 128 * q.val + r.val = 16384)) := by decide +kernel
theorem land_pow1 (n : Nat) (h1 : 64 ≤ n) (h2 : n ≤ 16384) : (n &&& (n - 1) = 0 ↔ pow9 (n : Int)) := by
  have h := land_pow ⟨n / 128, by omega⟩ ⟨n % 128, Nat.mod_lt _ (by decide)⟩
  have e : 128 * (n / 128) + n % 128 = n := Nat.div_add_mod n 128
  simp only [e] at h
  rw [h h1]
  unfold pow9
  omega
theorem bits_pow (b : Int) (h1 : 64 ≤ b) (h2 : b ≤ 16384) : (Go.bits .and .i64 b (wrap64 (b - 1)) != 0) = !decide (pow9 b) := by
  obtain ⟨n, rfl⟩ := Int.eq_ofNat_of_zero_le (by omega : 0 ≤ b)
  have e : wrap64 ((n : Int) - 1) = ((n - 1 : Nat) : Int) := by rw [w64 _ (by omega) (by omega)]; omega
  have hb := (bits_nat .i64 15 (by decide) wraps_i64 n (n - 1) (by omega) (by omega)).1
  have hl := land_pow1 n (by omega) (by omega)
  rw [e, hb]
  by_cases hp : pow9 (n : Int)
  · rw [decide_eq_true hp, hl.2 hp]
    rfl
  · rw [decide_eq_false hp]
    have : n &&& (n - 1) ≠ 0 := fun h => hp (hl.1 h)
    simp only [bne_iff_ne, ne_eq, Bool.not_false]
    omega
theorem digest_good (b wd : Int) (k : Nat) : digest_Good.f (k + 1) b wd = some (goodE b wd) := by
  have j0 : ∀ x, digest_Good.j0 (k + 1) x b wd = some (if x = true then 10 else if 1 ≤ wd ∧ wd ≤ 32 then 0 else 10) := by
    intro x
    simp only [digest_Good.j0]
    by_cases hx : x = true
    · rw [if_pos hx, if_pos hx]
    · rw [if_neg hx, if_neg hx]
      by_cases h1 : wd < 1
      · rw [if_pos h1, if_neg (by omega)]
      · rw [if_neg h1]
        by_cases h2 : wd > 32
        · rw [if_pos h2, if_neg (by omega)]
        · rw [if_neg h2, if_pos (by omega)]
  unfold digest_Good.f goodE
  rw [j0, j0]
  by_cases h1 : b < 64
  · rw [if_pos h1, if_pos rfl, if_neg (by unfold pow9; omega)]
  · rw [if_neg h1]
    by_cases h2 : b > 16384
    · rw [if_pos h2, if_pos rfl, if_neg (by unfold pow9; omega)]
    · rw [if_neg h2, bits_pow b (by omega) (by omega)]
      by_cases hp : pow9 b
      · rw [decide_eq_true hp]
        simp [hp]
      · rw [decide_eq_false hp]
        simp [hp]
theorem ref_last (k : Nat) (b wd : Int) (hb : pow9 b) : torrentref1_Good.l0 (k + 1) b b wd = some (goodE b wd) := by
  simp only [torrentref1_Good.l0]
  have e : (if wd < 1 then some 10 else if wd > 32 then some 10 else some 0) = some (goodE b wd) := by
    unfold goodE
    by_cases h1 : wd < 1
    · rw [if_pos h1, if_neg (by omega)]
    · rw [if_neg h1]
      by_cases h2 : wd > 32
      · rw [if_pos h2, if_neg (by omega)]
      · rw [if_neg h2, if_pos ⟨hb, by omega, by omega⟩]
  by_cases h : b < 16384
  · rw [if_pos h, if_pos trivial, e]
  · rw [if_neg h, if_pos trivial, e]
theorem ref_step (k : Nat) (x b wd : Int) (h : x < 16384) (h0 : 0 < x) (hx : x ≠ b) : torrentref1_Good.l0 (k + 1) x b wd = torrentref1_Good.l0 k (2 * x) b wd := by
  simp only [torrentref1_Good.l0]
  rw [if_pos h, if_neg hx, w64 _ (by omega) (by omega)]
theorem ref_out (k : Nat) (b wd : Int) (hx : ¬ pow9 b) : torrentref1_Good.l0 (k + 1) 16384 b wd = some 10 := by
  simp only [torrentref1_Good.l0]
  rw [if_neg (by omega), if_neg (fun h => hx (by unfold pow9; omega))]
theorem ref_good (b wd : Int) (k : Nat) : torrentref1_Good.f (k + 9) b wd = some (goodE b wd) := by
  unfold torrentref1_Good.f
  by_cases hp : pow9 b
  · have hq := hp
    unfold pow9 at hq
    rcases hq with h | h | h | h | h | h | h | h | h <;> subst h
    · exact ref_last _ _ _ hp
    all_goals repeat (first | exact ref_last _ _ _ hp | (rw [ref_step _ _ _ _ (by decide) (by decide) (by decide)]; simp only [Int.reduceMul]))
  · have hq := hp
    unfold pow9 at hq
    rw [ref_step _ _ _ _ (by decide) (by decide) (by omega), ref_step _ _ _ _ (by decide) (by decide) (by omega), ref_step _ _ _ _ (by decide) (by decide) (by omega), ref_step _ _ _ _ (by decide) (by decide) (by omega), ref_step _ _ _ _ (by decide) (by decide) (by omega), ref_step _ _ _ _ (by decide) (by decide) (by omega), ref_step _ _ _ _ (by decide) (by decide) (by omega), ref_step _ _ _ _ (by decide) (by decide) (by omega)]
    simp only [Int.reduceMul]
    rw [ref_out _ _ _ hp]
    unfold goodE
    rw [if_neg (fun h => hp h.1)]
theorem rem8 (n : Nat) : Int.tmod (n : Int) 8 = ((n % 8 : Nat) : Int) := by
  rw [Int.tmod_eq_emod_of_nonneg (by omega)]
  omega
theorem pack_none (n : Nat) (hn : n ≤ 65536) : ∀ (d i : Nat) (xs : List Int), i + d = n → xs.length ≤ i → ∃ r, Ev (fun k => torrentref4_pack.l0 k (List.replicate n false) xs (i : Int)) r
  | 0, i, xs, h, hx => ⟨xs, Ev.step (f := fun _ => some xs) (fun k => by
      simp only [torrentref4_pack.l0]
      rw [if_neg (by rw [List.length_replicate]; omega)]) (Ev.now _)⟩
  | d + 1, i, xs, h, hx => by
    have hf : rdOf false (List.replicate n false) (i : Int) = false := by
      simp only [rdOf, Int.toNat_natCast]
      rw [List.getD_eq_getElem?_getD, List.getElem?_replicate]
      split <;> rfl
    have hinc : wrap64 ((i : Int) + 1) = ((i + 1 : Nat) : Int) := inc i (by omega)
    by_cases h8 : i % 8 = 0
    · obtain ⟨r, hr⟩ := pack_none n hn d (i + 1) (xs ++ [0]) (by omega) (by simp; omega)
      refine ⟨r, Ev.step (f := fun k => torrentref4_pack.l0 k (List.replicate n false) (xs ++ [0]) ((i + 1 : Nat) : Int)) (fun k => ?_) hr⟩
      simp only [torrentref4_pack.l0]
      rw [if_pos (by rw [List.length_replicate]; omega), if_pos (by rw [rem8]; omega), if_pos (by omega)]
      simp only [Option.bind_some]
      rw [if_pos (by omega), hf, if_neg (by decide), hinc]
    · obtain ⟨r, hr⟩ := pack_none n hn d (i + 1) xs (by omega) (by omega)
      refine ⟨r, Ev.step (f := fun k => torrentref4_pack.l0 k (List.replicate n false) xs ((i + 1 : Nat) : Int)) (fun k => ?_) hr⟩
      simp only [torrentref4_pack.l0]
      rw [if_pos (by rw [List.length_replicate]; omega), if_neg (by rw [rem8]; omega), if_pos (by omega), hf, if_neg (by decide), hinc]
theorem make_none (n : Nat) (hn : n ≤ 65536) : ∃ r, Ev (fun k => torrentref4_Make.f k (n : Int)) (r, 0) := by
  obtain ⟨r, hr⟩ := pack_none n hn n 0 [] (by omega) (by simp)
  refine ⟨r, Ev.congr (f := fun k => (torrentref4_pack.f k (List.replicate n false)).bind fun t => some (t, 0)) (fun k => ?_) (Ev.bind hr (Ev.now _))⟩
  unfold torrentref4_Make.f
  rw [if_neg (by omega), if_neg (by omega), if_pos (by omega), Int.toNat_natCast, if_pos (by omega)]
/-- All that is known of New's arguments, at one number of rounds. -/
theorem known (b wd : Int) (cs : Array Value) (l : List Int) (hcs : cs.size = 32) (hone : ∀ n, n < 32 → ∃ z : Int, cs[n]? = some (.int .u8 z)) (hM : l.length * 8 ≤ 140737488351232) : ∃ k, Known k b wd (goodE b wd) (goodE b wd) cs l := by
  have hb : goodE b wd = 0 → 64 ≤ b ∧ b ≤ 16384 := by
    unfold goodE
    intro h
    by_cases hp : pow9 b ∧ 1 ≤ wd ∧ wd ≤ 32
    · have := hp.1
      unfold pow9 at this
      omega
    · rw [if_neg hp] at h
      cases h
  by_cases hl : l.length ≤ 65536
  · obtain ⟨r, K, hr⟩ := make_none l.length hl
    exact ⟨K + 9, hcs, hone, digest_good b wd (K + 8), ref_good b wd K, Iff.rfl, hb, fun _ => ⟨r, hr _ (by omega)⟩, hM⟩
  · exact ⟨9, hcs, hone, digest_good b wd 8, ref_good b wd 0, Iff.rfl, hb, fun h => absurd h hl, hM⟩
end Go.Proofs.YtbmjcbbgjnfkfaaGreatDoor.P
