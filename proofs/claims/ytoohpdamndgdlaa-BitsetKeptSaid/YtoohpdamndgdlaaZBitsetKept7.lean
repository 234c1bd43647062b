-- Merged by a program of this session out of the texts QKept, HApart, HKept, PureBitsetKept of this claim's own.
import Derived.Test.YtoohpdamndgdlaaZBitsetKept6

/- What the law Kept's inner functions (call, lists, stale, anew) answer: each that it should. Conditions: both bitfields pass Check. -/
set_option linter.unusedVariables false
set_option linter.unusedSimpArgs false
namespace Go.Proofs.Ytoohpdamndgdlaa.B
open Go.RowKit Go.Proofs.Ytoohpdamndgdlaa.P Go.Proofs.YtoohpdamndgdlaaW.PrintWords Go.Proofs.YtoohpdamndgdlaaW.PrintLast Go.Proofs.YtoohpdamndgdlaaW.PrintMore
theorem Ev.pos {α : Type} {c : Prop} [Decidable c] {f g : Nat → Option α} {r : α} (h : c) (hf : Ev f r) : Ev (fun k => if c then f k else g k) r := Ev.congr (fun k => if_pos h) hf
theorem Ev.neg {α : Type} {c : Prop} [Decidable c] {f g : Nat → Option α} {r : α} (h : ¬ c) (hf : Ev g r) : Ev (fun k => if c then f k else g k) r := Ev.congr (fun k => if_neg h) hf
theorem Ev.is {α : Type} {r s : α} (h : s = r) : Ev (fun _ => some s) r := by subst h; exact Ev.now _
/-- A bitfield that passes. -/
structure Fit (m : Nat) (l : List Int) : Prop where
  hm : m ≤ 65536
  hx : IsB l
  hl : l.length = (m + 7) / 8
  hc : Ev (fun k => bitset_Check.f k (m : Int) l) 0
namespace Fit
variable {m : Nat} {l a b : List Int}
theorem len (h : Fit m l) : l.length ≤ 8192 := by have := h.hl; have := h.hm; omega
theorem runs (h : Fit m l) : ∃ r, Ev (fun k => bitset_Runs.f k (m : Int) l) (r, 0) ∧ r.length ≤ 65536 := runs_is h.hm h.hx h.hl h.hc
theorem ones (h : Fit m l) : Ev (fun k => bitset_Ones.f k (m : Int) l) (onesL l m, 0) := ones_is h.hx h.hc
theorem onesLen (h : Fit m l) : (onesL l m).length ≤ 65536 := Nat.le_trans (onesL_le l m) h.hm
theorem count (h : Fit m l) : Ev (fun k => bitset_Count.f k (m : Int) l) (((onesL l m).length : Int), 0) := count_is h.hx h.hc
theorem copied (h : Fit m l) : Ev (fun k => torrentlaw4_copied.f k l) l := copied_f l (by have := h.len; omega)
theorem same (h : Fit m l) : Ev (fun k => torrentlaw4_sameBytes.f k l l) true := sameBytes_f l (by have := h.len; omega)
theorem packed (h : Fit m l) : Packed (gbit l) m l := packed_of_check h.hx (by have := h.len; omega) h.hc
theorem not (h : Fit m l) : ∃ r e, Ev (fun k => bitset_Not.f k (m : Int) l) (r, e) ∧ r.length ≤ 8192 := by
  obtain ⟨r, h1, h2⟩ := not_ok h.hm h.packed
  exact ⟨r, 0, h1, by have := h2.len; have := h.hm; omega⟩
theorem get (h : Fit m l) (i : Int) : ∃ r, Ev (fun k => bitset_Get.f k (m : Int) l i) r := get_any h.hx h.hc i
theorem next (h : Fit m l) (i : Int) (on : Bool) : ∃ r, Ev (fun k => bitset_Next.f k (m : Int) l i on) r := next_any h.hm h.hx h.hl h.hc i on
theorem covers (h : Fit m a) (k : Fit m b) : ∃ r, Ev (fun k => bitset_Covers.f k (m : Int) a b) r := by
  obtain ⟨v, h1, _⟩ := covers_is h.hm h.packed k.packed
  exact ⟨(v, 0), h1⟩
theorem both (h : Fit m a) (k : Fit m b) : Ev (fun k => bitset_both.f k (m : Int) a b) 0 := both_ok h.hm h.packed k.packed
end Fit
theorem of_any (m : Nat) (hm : m ≤ 65536) (l : List Int) (hl : l.length ≤ 9223372036854775807) : ∃ r e, Ev (fun k => bitset_Of.f k (m : Int) l) (r, e) ∧ r.length ≤ 8192 := by
  rcases of_ok m hm l hl with ⟨_, r, h1, h2⟩ | ⟨_, h1⟩
  · exact ⟨r, 0, h1, by have := h2.len; omega⟩
  · exact ⟨[], 43, h1, by simp⟩
/-- Each of the calls answers. -/
theorem call_ok {m : Nat} {a b : List Int} (ha : Fit m a) (hb : Fit m b) (i : Int) (j : Int) : ∃ r, Ev (fun k => torrentlaw4_call.f k j (m : Int) a b i) r ∧ r.length ≤ 8192 := by
  unfold torrentlaw4_call.f
  have hla := ha.len
  have hlb := hb.len
  by_cases h0 : j = 0
  · obtain ⟨r, h1, h3⟩ := and_ok ha.hm ha.packed hb.packed (ha.both hb)
    exact ⟨r, Ev.pos h0 (Ev.bind h1 (Ev.now _)), by have := h3.len; have := ha.hm; omega⟩
  by_cases h1 : j = 1
  · obtain ⟨r, h2, h3⟩ := or_ok ha.hm ha.packed hb.packed (ha.both hb)
    exact ⟨r, Ev.neg h0 (Ev.pos h1 (Ev.bind h2 (Ev.now _))), by have := h3.len; have := ha.hm; omega⟩
  by_cases h2 : j = 2
  · obtain ⟨r, h4, h3⟩ := minus_ok ha.hm ha.packed hb.packed (ha.both hb)
    exact ⟨r, Ev.neg h0 (Ev.neg h1 (Ev.pos h2 (Ev.bind h4 (Ev.now _)))), by have := h3.len; have := ha.hm; omega⟩
  by_cases h3 : j = 3
  · obtain ⟨r, e, h4, h5⟩ := ha.not
    exact ⟨r, Ev.neg h0 (Ev.neg h1 (Ev.neg h2 (Ev.pos h3 (Ev.bind h4 (Ev.now _))))), h5⟩
  by_cases h4 : j = 4
  · obtain ⟨r, e, h5, h6⟩ := put_any ha.hm ha.packed ha.hc i ((Int.tmod i 2) == 0)
    exact ⟨r, Ev.neg h0 (Ev.neg h1 (Ev.neg h2 (Ev.neg h3 (Ev.pos h4 (Ev.bind h5 (Ev.now _)))))), h6⟩
  by_cases h5 : j = 5
  · refine ⟨List.replicate ((m + 7) / 8) 0, Ev.neg h0 (Ev.neg h1 (Ev.neg h2 (Ev.neg h3 (Ev.neg h4 (Ev.pos h5 (Ev.bind (a := (List.replicate ((m + 7) / 8) 0, 0)) (Ev.congr (fun _ => make_ok m ha.hm) (Ev.now _)) (Ev.now _))))))), ?_⟩
    have := ha.hm
    rw [List.length_replicate]
    omega
  by_cases h6 : j = 6
  · by_cases hn : (m : Int) > 0
    · obtain ⟨r, e, h7, h8⟩ := of_any m ha.hm (([] : List Int) ++ [wrap64 ((m : Int) - 1)]) (by simp)
      exact ⟨r, Ev.neg h0 (Ev.neg h1 (Ev.neg h2 (Ev.neg h3 (Ev.neg h4 (Ev.neg h5 (Ev.pos h6 (Ev.pos hn (Ev.pos (by simp) (Ev.bind h7 (Ev.now _)))))))))), h8⟩
    · obtain ⟨r, e, h7, h8⟩ := of_any m ha.hm ([] : List Int) (by simp)
      exact ⟨r, Ev.neg h0 (Ev.neg h1 (Ev.neg h2 (Ev.neg h3 (Ev.neg h4 (Ev.neg h5 (Ev.pos h6 (Ev.neg hn (Ev.bind h7 (Ev.now _))))))))), h8⟩
  · obtain ⟨r, h7, h8⟩ := qfull_ok m ha.hm
    exact ⟨r, Ev.neg h0 (Ev.neg h1 (Ev.neg h2 (Ev.neg h3 (Ev.neg h4 (Ev.neg h5 (Ev.neg h6 (Ev.bind h7 (Ev.now _)))))))), by have := h8.len; have := ha.hm; omega⟩
section
variable {m : Nat} {a b : List Int}
theorem li_j4 (ha : Fit m a) {R : List S59} (hR : Ev (fun k => bitset_Runs.f k (m : Int) a) (R, 0)) (hRl : R.length ≤ 65536) (X : List Int) (Y : List S59) (hX : X.length = (onesL a m).length + 70) (hY : Y.length = R.length + 70) :
    Ev (fun k => torrentlaw4_lists.j4 k (m : Int) a X (onesL a m) Y R ((onesL a m).length : Int) (!true)) true := by
  have hO := ha.onesLen
  refine Ev.step (fun k => by simp only [torrentlaw4_lists.j4]; rfl) ?_
  refine Ev.neg (by decide) (Ev.bind ha.ones (Ev.bind hR (Ev.pos rfl (Ev.pos rfl (Ev.bind (sameI_f _ (by first | omega | (dsimp only; omega))) (Ev.pos rfl (Ev.bind (sameRuns_f _ (by first | omega | (dsimp only; omega))) (Ev.pos rfl (Ev.pos ?_ (Ev.pos trivial (Ev.is ?_)))))))))))
  · rw [w64 _ (by omega) (by omega)]; omega
  · rw [w64 _ (by omega) (by omega)]; simp; omega
theorem li_l2 (ha : Fit m a) {R U : List S59} (hR : Ev (fun k => bitset_Runs.f k (m : Int) a) (R, 0)) (hRl : R.length ≤ 65536) (hUl : U.length ≤ 65536) (O : List Int) (hO : O.length ≤ 65536) : ∀ (d i : Nat) (X : List Int) (Y : List S59), i + d = 70 → X.length = (onesL a m).length + i → Y.length = R.length + i →
    Ev (fun k => torrentlaw4_lists.l2 k (m : Int) a X O (onesL a m) Y U R O U ((onesL a m).length : Int) (i : Int)) true
  | 0, i, X, Y, h, hX, hY => by
    refine Ev.step (fun k => by simp only [torrentlaw4_lists.l2]; rfl) ?_
    refine Ev.neg (by omega) (Ev.bind (sameI_f _ (by first | omega | (dsimp only; omega))) (Ev.pos rfl (Ev.bind (sameRuns_f _ (by first | omega | (dsimp only; omega))) ?_)))
    exact li_j4 ha hR hRl X Y (by omega) (by omega)
  | d + 1, i, X, Y, h, hX, hY => by
    have hO' := ha.onesLen
    refine Ev.step (fun k => by simp only [torrentlaw4_lists.l2]; rfl) ?_
    refine Ev.pos (by omega) (Ev.pos (by omega) (Ev.pos (by omega) ?_))
    rw [inc i (by omega)]
    exact li_l2 ha hR hRl hUl O hO d (i + 1) _ _ (by omega) (by rw [List.length_append, hX]; rfl) (by rw [List.length_append, hY]; rfl)
theorem li_l1 (ha : Fit m a) {R U : List S59} (hR : Ev (fun k => bitset_Runs.f k (m : Int) a) (R, 0)) (hRl : R.length ≤ 65536) (hUl : U.length ≤ 65536) (O : List Int) (hO : O.length ≤ 65536) (X : List Int) (hX : X.length = (onesL a m).length) : ∀ (d i : Nat) (Y : List S59), i + d = R.length → Y.length = R.length →
    Ev (fun k => torrentlaw4_lists.l1 k (m : Int) a X O (onesL a m) Y U R O U ((onesL a m).length : Int) (i : Int)) true
  | 0, i, Y, h, hY => by
    refine Ev.step (fun k => by simp only [torrentlaw4_lists.l1]; rfl) ?_
    exact Ev.neg (by omega) (li_l2 ha hR hRl hUl O hO 70 0 X Y rfl hX hY)
  | d + 1, i, Y, h, hY => by
    refine Ev.step (fun k => by simp only [torrentlaw4_lists.l1, Option.bind_some]; rfl) ?_
    refine Ev.pos (by omega) (Ev.pos (by omega) ?_)
    rw [inc i (by omega)]
    exact li_l1 ha hR hRl hUl O hO X hX d (i + 1) _ (by omega) (by rw [List.length_set, List.length_set, hY])
theorem li_l0 (ha : Fit m a) {R U : List S59} (hR : Ev (fun k => bitset_Runs.f k (m : Int) a) (R, 0)) (hRl : R.length ≤ 65536) (hUl : U.length ≤ 65536) (O : List Int) (hO : O.length ≤ 65536) : ∀ (d i : Nat) (X : List Int), i + d = (onesL a m).length → X.length = (onesL a m).length →
    Ev (fun k => torrentlaw4_lists.l0 k (m : Int) a X O (onesL a m) R U R O U ((onesL a m).length : Int) (i : Int)) true
  | 0, i, X, h, hX => by
    refine Ev.step (fun k => by simp only [torrentlaw4_lists.l0]; rfl) ?_
    exact Ev.neg (by omega) (li_l1 ha hR hRl hUl O hO X hX R.length 0 R (by omega) rfl)
  | d + 1, i, X, h, hX => by
    have hO' := ha.onesLen
    refine Ev.step (fun k => by simp only [torrentlaw4_lists.l0]; rfl) ?_
    refine Ev.pos (by omega) (Ev.pos (by omega) ?_)
    rw [inc i (by omega)]
    exact li_l0 ha hR hRl hUl O hO d (i + 1) _ (by omega) (by rw [List.length_set, hX])
theorem lists_ok (ha : Fit m a) (hb : Fit m b) : Ev (fun k => torrentlaw4_lists.f k (m : Int) a b) true := by
  obtain ⟨R, hR, hRl⟩ := ha.runs
  obtain ⟨U, hU, hUl⟩ := hb.runs
  have hO := ha.onesLen
  have hO2 := hb.onesLen
  unfold torrentlaw4_lists.f
  refine Ev.bind ha.ones (Ev.bind hb.ones (Ev.bind ha.ones (Ev.bind hR (Ev.bind hU (Ev.bind hR (Ev.pos rfl (Ev.pos rfl (Ev.pos rfl (Ev.pos rfl (Ev.pos rfl (Ev.pos rfl (Ev.bind (sameI_f _ (by first | omega | (dsimp only; omega))) (Ev.pos rfl (Ev.bind (sameRuns_f _ (by first | omega | (dsimp only; omega))) ?_))))))))))))))
  refine Ev.step (fun k => by simp only [torrentlaw4_lists.j0]; rfl) ?_
  refine Ev.neg (by decide) (Ev.pos ?_ (Ev.pos ?_ ?_))
  · simp only [List.length_nil]; omega
  · simp only [List.length_nil]; omega
  · simp only [List.nil_append]
    exact li_l0 ha hR hRl hUl _ hO2 (onesL a m).length 0 _ (by omega) rfl
/-- A list written over with another one, place by place. -/
theorem over_step {X b : List Int} (hl : X.length = b.length) (i : Nat) (hi : i < b.length) (h : ∀ q, q < i → X.getD q 0 = b.getD q 0) : ∀ q, q < i + 1 → (X.set i (rd b (i : Int))).getD q 0 = b.getD q 0 := fun q hq => by
  rw [rd_nat]
  simp only [List.getD_eq_getElem?_getD] at h ⊢
  by_cases e : q = i
  · subst e
    rw [List.getElem?_set_self (by omega)]
    simp
  · rw [List.getElem?_set_ne (by omega)]
    exact h q (by omega)
theorem over_all {X b : List Int} (hl : X.length = b.length) (h : ∀ q, q < b.length → X.getD q 0 = b.getD q 0) : X = b := by
  apply List.ext_getElem hl
  intro q h1 h2
  have := h q h2
  simpa [List.getD_eq_getElem?_getD, h1, h2] using this
theorem st_l0 (ha : Fit m a) (hb : Fit m b) {R : List S59} (hR : Ev (fun k => bitset_Runs.f k (m : Int) a) (R, 0)) (hRl : R.length ≤ 65536) {N : List Int} {e : Int} (hN : Ev (fun k => bitset_Not.f k (m : Int) a) (N, e)) (hNl : N.length ≤ 8192) : ∀ (d i : Nat) (X : List Int), i + d = b.length → X.length = b.length → (∀ q, q < i → X.getD q 0 = b.getD q 0) →
    Ev (fun k => torrentlaw4_stale.l0 k (m : Int) a b X ((onesL a m).length : Int) (onesL a m) R N (i : Int)) true
  | 0, i, X, h, hX, hq => by
    obtain rfl : X = b := over_all hX (fun q hlt => hq q (by omega))
    obtain ⟨U, hU, hUl⟩ := hb.runs
    obtain ⟨N2, e2, hN2, hNl2⟩ := hb.not
    have hO := ha.onesLen
    have hO2 := hb.onesLen
    refine Ev.step (fun k => by simp only [torrentlaw4_stale.l0]; rfl) ?_
    refine Ev.neg (by omega) (Ev.bind hb.count (Ev.bind hb.ones (Ev.bind hU (Ev.bind hN2 (Ev.bind ha.copied (Ev.bind ha.ones (Ev.bind hb.copied (Ev.bind hb.ones (Ev.bind ha.copied (Ev.bind hR (Ev.bind hb.copied (Ev.bind hU (Ev.bind ha.copied (Ev.bind hN (Ev.bind hb.copied (Ev.bind hN2 (Ev.pos rfl (Ev.pos rfl (Ev.bind (sameI_f _ (by first | omega | (dsimp only; omega))) (Ev.pos rfl (Ev.bind (sameI_f _ (by first | omega | (dsimp only; omega))) ?_)))))))))))))))))))))
    refine Ev.step (fun k => by simp only [torrentlaw4_stale.j1]; rfl) ?_
    exact Ev.neg (by decide) (Ev.bind (sameRuns_f _ (by first | omega | (dsimp only; omega))) (Ev.pos rfl (Ev.bind (sameRuns_f _ (by first | omega | (dsimp only; omega))) (Ev.pos rfl (Ev.bind (sameBytes_f _ (by first | omega | (dsimp only; omega))) (Ev.pos rfl (Ev.bind (sameBytes_f _ (by first | omega | (dsimp only; omega))) (Ev.now _))))))))
  | d + 1, i, X, h, hX, hq => by
    have := hb.len
    refine Ev.step (fun k => by simp only [torrentlaw4_stale.l0]; rfl) ?_
    refine Ev.pos (by omega) (Ev.pos (by omega) (Ev.pos (by omega) ?_))
    rw [inc i (by omega), Int.toNat_natCast]
    exact st_l0 ha hb hR hRl hN hNl d (i + 1) _ (by omega) (by rw [List.length_set, hX]) (over_step hX i (by omega) hq)
theorem stale_ok (ha : Fit m a) (hb : Fit m b) : Ev (fun k => torrentlaw4_stale.f k (m : Int) a b) true := by
  obtain ⟨R, hR, hRl⟩ := ha.runs
  obtain ⟨N, e, hN, hNl⟩ := ha.not
  unfold torrentlaw4_stale.f
  exact Ev.bind ha.copied (Ev.bind ha.count (Ev.bind ha.ones (Ev.bind hR (Ev.bind hN (st_l0 ha hb hR hRl hN hNl b.length 0 a (by omega) (by rw [ha.hl, hb.hl]) (fun q hq => by omega))))))
theorem anew_l3 (hm : m ≤ 65536) : ∀ (d i : Nat) (X T : List Int), i + d = X.length → T.length = i → X.length ≤ 65536 → (∀ q, q < i → T.getD q 0 = X.getD q 0) → Ev (fun k => torrentlaw4_anew.l3 k (m : Int) X T (i : Int)) true
  | 0, i, X, T, h, hT, hX, hq => by
    obtain rfl : T = X := over_all (by omega) (fun q hlt => hq q (by omega))
    obtain ⟨r, e, h1, h2⟩ := of_any m hm T (by omega)
    refine Ev.step (fun k => by simp only [torrentlaw4_anew.l3]; rfl) ?_
    exact Ev.neg (by omega) (Ev.bind h1 (Ev.bind h1 (Ev.pos rfl (Ev.bind (sameBytes_f _ (by first | omega | (dsimp only; omega))) (Ev.now _)))))
  | d + 1, i, X, T, h, hT, hX, hq => by
    refine Ev.step (fun k => by simp only [torrentlaw4_anew.l3, Option.bind_some]; rfl) ?_
    refine Ev.pos (by omega) (Ev.pos (by omega) (Ev.pos (by omega) ?_))
    rw [inc i (by omega), Int.toNat_natCast]
    refine anew_l3 hm d (i + 1) _ _ (by rw [List.length_set]; omega) (by rw [List.length_append, hT]; rfl) (by rw [List.length_set]; exact hX) (fun q hlt => ?_)
    simp only [List.getD_eq_getElem?_getD] at hq ⊢
    by_cases e : q = i
    · subst e
      rw [List.getElem?_append_right (by omega), hT, Nat.sub_self, List.getElem?_cons_zero, rd_nat, List.getD_eq_getElem?_getD]
      rfl
    · rw [List.getElem?_append_left (by omega), List.getElem?_set_ne (by omega)]
      exact hq q (by omega)
theorem anew_j3 (ha : Fit m a) : Ev (fun k => torrentlaw4_anew.j3 k (m : Int) a false) true := by
  have hO := ha.onesLen
  obtain ⟨r, e, h1, h2⟩ := of_any m ha.hm (onesL a m) (by omega)
  refine Ev.step (fun k => by simp only [torrentlaw4_anew.j3]; rfl) ?_
  exact Ev.neg (by decide) (Ev.bind ha.ones (Ev.bind h1 (anew_l3 ha.hm (onesL a m).length 0 _ _ (by dsimp only; omega) rfl hO (fun q hq => by omega))))
theorem anew_l2 (ha : Fit m a) (hb : Fit m b) (x : Int) : ∀ (d i : Nat), i + d = 5 → Ev (fun k => torrentlaw4_anew.l2 k (m : Int) a b x b a (i : Int)) true
  | 0, i, h => by
    obtain ⟨g, hg⟩ := hb.get x
    obtain ⟨nx, hn⟩ := hb.next x true
    obtain ⟨cv, hc⟩ := hb.covers ha
    refine Ev.step (fun k => by simp only [torrentlaw4_anew.l2]; rfl) ?_
    refine Ev.neg (by omega) (Ev.bind hg (Ev.bind hb.copied (Ev.bind hg (Ev.bind hn (Ev.bind hb.copied (Ev.bind hn (Ev.bind hc (Ev.bind hb.copied (Ev.bind ha.copied (Ev.bind hc (Ev.neg (by simp) (Ev.pos rfl (Ev.pos rfl (Ev.pos rfl (Ev.neg (by simp) (Ev.pos rfl (Ev.bind hb.hc ?_)))))))))))))))))
    exact anew_j3 ha
  | d + 1, i, h => by
    obtain ⟨r, h1, h2⟩ := call_ok hb ha x (i : Int)
    refine Ev.step (fun k => by simp only [torrentlaw4_anew.l2]; rfl) ?_
    refine Ev.pos (by omega) (Ev.bind h1 (Ev.bind hb.copied (Ev.bind ha.copied (Ev.bind h1 (Ev.bind (sameBytes_f _ (by first | omega | (dsimp only; omega))) (Ev.pos rfl (Ev.bind hb.same (Ev.pos rfl (Ev.bind ha.same (Ev.pos rfl ?_))))))))))
    rw [inc i (by omega)]
    exact anew_l2 ha hb x d (i + 1) (by omega)
theorem anew_l1 (ha : Fit m a) (hb : Fit m b) (x : Int) : ∀ (d i : Nat) (X Y : List Int), i + d = a.length → X.length = b.length → Y.length = a.length → (∀ q, q < i → X.getD q 0 = b.getD q 0) → (∀ q, q < i → Y.getD q 0 = a.getD q 0) →
    Ev (fun k => torrentlaw4_anew.l1 k (m : Int) a b x X Y (i : Int)) true
  | 0, i, X, Y, h, hX, hY, h1, h2 => by
    have e : a.length = b.length := by rw [ha.hl, hb.hl]
    obtain rfl : X = b := over_all hX (fun q hlt => h1 q (by omega))
    obtain rfl : Y = a := over_all hY (fun q hlt => h2 q (by omega))
    refine Ev.step (fun k => by simp only [torrentlaw4_anew.l1]; rfl) ?_
    exact Ev.neg (by omega) (anew_l2 ha hb x 5 0 rfl)
  | d + 1, i, X, Y, h, hX, hY, h1, h2 => by
    have e : a.length = b.length := by rw [ha.hl, hb.hl]
    have := ha.len
    refine Ev.step (fun k => by simp only [torrentlaw4_anew.l1]; rfl) ?_
    refine Ev.pos (by omega) (Ev.pos (by omega) (Ev.pos (by omega) (Ev.pos (by omega) (Ev.pos (by omega) ?_))))
    rw [inc i (by omega), Int.toNat_natCast]
    exact anew_l1 ha hb x d (i + 1) _ _ (by omega) (by rw [List.length_set, hX]) (by rw [List.length_set, hY]) (over_step hX i (by omega) h1) (over_step hY i (by omega) h2)
theorem anew_l0 (ha : Fit m a) (hb : Fit m b) (x : Int) : ∀ (d i : Nat), i + d = 5 → Ev (fun k => torrentlaw4_anew.l0 k (m : Int) a b x a b (i : Int)) true
  | 0, i, h => by
    have e : a.length = b.length := by rw [ha.hl, hb.hl]
    obtain ⟨g, hg⟩ := ha.get x
    obtain ⟨nx, hn⟩ := ha.next x true
    obtain ⟨cv, hc⟩ := ha.covers hb
    refine Ev.step (fun k => by simp only [torrentlaw4_anew.l0]; rfl) ?_
    exact Ev.neg (by omega) (Ev.bind hg (Ev.bind hn (Ev.bind hc (anew_l1 ha hb x a.length 0 a b (by omega) e e.symm (fun q hq => by omega) (fun q hq => by omega)))))
  | d + 1, i, h => by
    obtain ⟨r, h1, h2⟩ := call_ok ha hb x (i : Int)
    refine Ev.step (fun k => by simp only [torrentlaw4_anew.l0]; rfl) ?_
    refine Ev.pos (by omega) (Ev.bind h1 ?_)
    rw [inc i (by omega)]
    exact anew_l0 ha hb x d (i + 1) (by omega)
theorem anew_ok (ha : Fit m a) (hb : Fit m b) (x : Int) : Ev (fun k => torrentlaw4_anew.f k (m : Int) a b x) true := by
  unfold torrentlaw4_anew.f
  exact Ev.bind ha.copied (Ev.bind hb.copied (anew_l0 ha hb x 5 0 rfl))
end
end Go.Proofs.Ytoohpdamndgdlaa.B


/- torrentlaw4.apart, walked: lists that share no memory keep their marks, and nothing else is touched. -/
set_option linter.unusedVariables false
set_option linter.unusedSimpArgs false
namespace Go.Proofs.Ytoohpdamndgdlaa.P
open Go.RowKit Go.Proofs.YtoohpdamndgdlaaW.PrintWords Go.Proofs.YtoohpdamndgdlaaW.PrintLast Go.Proofs.YtoohpdamndgdlaaW.PrintMore
/-- A row of bytes whose blocks f gives to j. -/
def Own (f : Nat → Nat) (W : World) (base j : Nat) (v : Value) (ys : List Int) : Prop := Kd.R (Kd.int .u8) 5 W base (fun k => f k = j) v ys
/-- Blocks that f gives to nobody below N are as they were. -/
def Fr (f : Nat → Nat) (N : Nat) (W0 W : World) : Prop := ∀ k, k < W0.heap.size → N ≤ f k → W.heap[k]? = W0.heap[k]?
def mk1 (i k : Nat) : Int := wrap64 (wrap64 (7 * (i : Int)) + (k : Int)) % 256
def mk2 (i k : Nat) : Int := wrap64 (wrap64 (100 + (i : Int)) + 5 * (k : Int)) % 256
def RowsAt (f : Nat → Nat) (W : World) (base N : Nat) (Ad : Nat → Option Addr) (nn cc : Nat → Nat) (Y : Nat → List Int) : Prop := ∀ j, j < N → (Y j).length = nn j ∧ Own f W base j (.slice (Ad j) (nn j) (cc j)) (Y j)
theorem dlt {j n : Nat} (h : j < n) : decide ((j : Int) < (n : Int)) = true := decide_eq_true (by omega)
theorem dge {j n : Nat} (h : ¬ j < n) : decide ((j : Int) < (n : Int)) = false := decide_eq_false (by omega)
theorem kinc (j : Nat) (h : j < 9223372036854775807) : wrap64 ((j : Int) + 1) = ((j + 1 : Nat) : Int) := by unfold wrap64; omega
theorem kmeas {j n : Nat} (h : j < n) : n - (intOf (.int .i64 ((j + 1 : Nat) : Int))).toNat < n - (intOf (.int .i64 (j : Int))).toNat := by simp [intOf]; omega
theorem kmeas1 {j n : Nat} (h : j < n) : n - (intOf (.int .i64 ((j : Int) + 1))).toNat < n - (intOf (.int .i64 (j : Int))).toNat := by simp [intOf]; omega
theorem ksum {n k : Nat} (h : n ≤ 65536) (hk : k < 70) : wrap64 ((n : Int) + (k : Int)) = ((n + k : Nat) : Int) := by unfold wrap64; omega
theorem Fr.refl (f : Nat → Nat) (N : Nat) (W : World) : Fr f N W W := fun _ _ _ => rfl
theorem Fr.set {f : Nat → Nat} {N : Nat} {W0 W : World} (h : Fr f N W0 W) {p : Addr} (hp : f p.block < N) (u : Value) : Fr f N W0 (W.setCell p u) := fun k hk hf =>
  (Below.heap_setCell W p u k (fun e => by subst e; omega)).trans (h k hk hf)
theorem cell_of_heap {W W' : World} {p : Addr} (h : W'.heap[p.block]? = W.heap[p.block]?) : W'.cell? p = W.cell? p := by
  simp only [World.cell?, h]
/-- A store into list i at place k. -/
theorem RowsAt.put {f : Nat → Nat} {W : World} {base N : Nat} {Ad : Nat → Option Addr} {nn cc : Nat → Nat} {Y : Nat → List Int} (h : RowsAt f W base N Ad nn cc Y) {i g : Nat} (hi : i < N) (hg : Ad i = some ⟨g, 0, none⟩) (hf : f g = i) (k : Nat) (x : Int) :
    RowsAt f (W.setCell ⟨g, k, none⟩ (.int .u8 x)) base N Ad nn cc (fun j => if j = i then (Y i).set k x else Y j) := fun j hj => by
  by_cases hji : j = i
  · subst hji
    simp only [if_true]
    obtain ⟨h1, h2⟩ := h j hj
    refine ⟨by rw [List.length_set]; exact h1, ?_⟩
    unfold Own at h2 ⊢
    rw [hg] at h2 ⊢
    have h3 := Kd.R_putn h2 (k : Int) x
    rw [Int.toNat_natCast] at h3
    exact h3
  · simp only [if_neg hji]
    obtain ⟨h1, h2⟩ := h j hj
    exact ⟨h1, Kd.R_far (p := ⟨g, k, none⟩) h2 (fun b hb e => hji (by rw [← hb, e]; exact hf)) _⟩
/-- Where list i lies. -/
theorem RowsAt.at {f : Nat → Nat} {W : World} {base N : Nat} {Ad : Nat → Option Addr} {nn cc : Nat → Nat} {Y : Nat → List Int} (h : RowsAt f W base N Ad nn cc Y) {i k : Nat} (hi : i < N) (hk : k < nn i) :
    ∃ g, Ad i = some ⟨g, 0, none⟩ ∧ f g = i ∧ base ≤ g ∧ g < W.heap.size ∧ W.cell? ⟨g, k, none⟩ = some (.int .u8 ((Y i).getD k 0)) ∧ W.frozen? ⟨g, k, none⟩ = false := by
  obtain ⟨h1, h2⟩ := h i hi
  obtain ⟨g, cap, e, hb, hl, _⟩ := Kd.R_form h2 (by omega)
  injection e with ea en ec
  refine ⟨g, ea, h2.1 g (by rw [ea]; rfl), hb, hl, ?_⟩
  unfold Own at h2
  rw [ea] at h2
  have h3 := Kd.R_celln 0 h2 (k : Int) (Int.natCast_nonneg _) (Int.ofNat_lt.mpr hk)
  rw [Int.toNat_natCast] at h3
  have e2 : rdOf 0 (Y i) (k : Int) = (Y i).getD k 0 := by simp [rdOf]
  rw [e2] at h3
  exact h3
theorem put_old {μ : Nat → Nat → Int} {Y : Nat → List Int} {nn : Nat → Nat} {i k : Nat} {x : Int} (h : ∀ j, j < i → ∀ m, m < nn j → (Y j).getD m 0 = μ j m) : ∀ j, j < i → ∀ m, m < nn j → ((fun j => if j = i then (Y i).set k x else Y j) j).getD m 0 = μ j m := fun j hj m hm => by
  simp only [if_neg (Nat.ne_of_lt hj)]
  exact h j hj m hm
theorem put_new {μ : Nat → Nat → Int} {Y : Nat → List Int} {i k : Nat} (hk : k < (Y i).length) (h : ∀ m, m < k → (Y i).getD m 0 = μ i m) : ∀ m, m < k + 1 → ((fun j => if j = i then (Y i).set k (μ i k) else Y j) i).getD m 0 = μ i m := fun m hm => by
  simp only [if_true, List.getD_eq_getElem?_getD]
  by_cases e : m = k
  · subst e
    simp [hk]
  · rw [List.getElem?_set_ne (by omega)]
    have := h m (by omega)
    rwa [List.getD_eq_getElem?_getD] at this
theorem done_marks {μ : Nat → Nat → Int} {Y : Nat → List Int} {nn : Nat → Nat} {i k : Nat} (hk : ¬ k < nn i) (h : ∀ j, j < i → ∀ m, m < nn j → (Y j).getD m 0 = μ j m) (h2 : ∀ m, m < k → (Y i).getD m 0 = μ i m) : ∀ j, j < i + 1 → ∀ m, m < nn j → (Y j).getD m 0 = μ j m := fun j hj m hm => by
  by_cases e : j = i
  · subst e
    exact h2 m (by omega)
  · exact h j (by omega) m hm
theorem lt64 {n k : Nat} (h : n ≤ 65536) (hk : k < n) : k < 9223372036854775807 := by omega
section
variable {ops : Array Oper} {rest : List Oper} {o : Oper} {a : Act} {Q : Exit → Act → World → Prop}
/-- append(v, p) of one byte onto a row of the call's own: either in its place, or in a new block, and then nothing old is touched. -/
theorem R_append_keep {w0 W : World} (base : Nat) (hgd : o.guard = none) (s x : Operand)
    (ho : o.op = .call { callee := .builtin .append, args := #[s, x], argTypes := #[22, 22] })
    (v : Value) (xs : List Int) (p : Int) (ok : Nat → Prop) (hs : a.eval s = v) (hx : a.eval x = .slice (some ⟨W.heap.size, 0, none⟩) 1 1) (hfresh : ∀ k, W.heap.size ≤ k → ok k)
    (HO : Kd.R (Kd.int .u8) 5 W base ok v xs) (HB : Below base w0 W) (hbase : base ≤ W.heap.size) (hl : xs.length + 1 ≤ 140737488355328)
    (h : ∀ v1 w1, Kd.R (Kd.int .u8) 5 w1 base ok v1 (xs ++ [p]) → Below base w0 w1 → W.grownBy w1 v.ownBlock → (v1.ownBlock = v.ownBlock ∨ ∃ b, v1.ownBlock = some b ∧ W.heap.size ≤ b ∧ W.grownBy w1 none) → wpList Try.prog ops Q rest (a.put o.dst v1) w1) :
    wpList Try.prog ops Q (o :: rest) a (W.alloc (.cells #[.int .u8 p] 5)) := by
  refine wpList_plain hgd fun K hK => ?_
  obtain ⟨h0, inner, hown, hr⟩ := HO
  obtain ⟨i0, hi, hzz⟩ := Option.map_eq_some_iff.1 info5
  simp only [Prod.mk.injEq] at hzz
  obtain ⟨hz0, hz1, hz2⟩ := hzz
  have hownW := hown.alloc (.cells #[.int .u8 p] 5)
  have hsW : (W.alloc (.cells #[.int .u8 p] 5)).heap.size = W.heap.size + 1 := World.size_alloc _ _
  have hone : ∀ u ∈ [Value.int IntKind.u8 p], u.oneCell' = true := by intro u hu; simp at hu; subst hu; rfl
  obtain ⟨v1, w1, hrun, h2, h3, h4, h5⟩ := run_append_own_at (P := Try.prog) (W.alloc (.cells #[.int .u8 p] 5)) base 22 o.type 5 i0 (.int .u8 0) 1 1 Try.underlying22 hi hz0 hz1 hz2 rfl (by decide) v xs.length inner hownW ⟨W.heap.size, 0, none⟩ 1 1 [.int .u8 p] rfl (cell_one_new W _ 5) hone (by simp only [maxLen]; omega) (by omega) (by omega)
  have g0 : W.grownBy (W.alloc (.cells #[.int .u8 p] 5)) v.ownBlock := World.grownBy_alloc W _ _
  have key : v1.ownBlock = v.ownBlock ∨ ∃ b, v1.ownBlock = some b ∧ W.heap.size ≤ b ∧ W.grownBy w1 none := by
    rcases h5 with h5 | h5
    · exact .inl h5
    · refine .inr ⟨_, h5, by omega, ?_⟩
      rcases hownW.2 with ⟨rfl, _⟩ | ⟨g, cap, cur, rfl, hbg, hg, hnc, hcm, hcs, htake⟩
      · exact World.grownBy.trans g0 h3
      · by_cases hroom : xs.length + 1 ≤ cap
        · have hq := run_append_room (P := Try.prog) (W.alloc (.cells #[.int .u8 p] 5)) 22 o.type 5 i0 Try.underlying22 hi g xs.length cap cur hg ⟨W.heap.size, 0, none⟩ 1 1 [.int .u8 p] (by rw [hz1]; rfl) (cell_one_new W _ 5) hone hroom (by rw [hz1, hcs]; show xs.length * 1 + 1 ≤ cap * 1; omega)
          rw [hrun] at hq
          injection hq with hv hw
          rw [hv] at h5
          have hlt := (Array.getElem?_eq_some_iff.1 hg).1
          simp [Value.ownBlock] at h5
          omega
        · have holds : ∀ j u, inner[j]? = some u → (W.alloc (.cells #[.int .u8 p] 5)).cell? ((⟨g, 0, none⟩ : Addr).add j) = some u := hownW.cells (g := g) rfl
          have hq := run_append_grow (P := Try.prog) (W.alloc (.cells #[.int .u8 p] 5)) 22 o.type 5 i0 (.int .u8 0) Try.underlying22 hi hz0 ⟨g, 0, none⟩ xs.length cap inner (by rw [hz1]; exact hownW.1) holds ⟨W.heap.size, 0, none⟩ 1 1 [.int .u8 p] (by rw [hz1]; rfl) (cell_one_new W _ 5) (by omega) (by omega) (growslice_fits (by omega) (by rw [hz2]; omega))
          rw [hrun] at hq
          injection hq with hv hw
          rw [hw]
          exact World.grownBy.trans (World.grownBy_alloc W _ _) ⟨rfl, rfl, rfl, by simp, fun k hk _ => Below.heap_alloc _ _ _ hk⟩
  have hat : v1.ownBlock = v.ownBlock ∨ ∃ b, v1.ownBlock = some b ∧ W.heap.size ≤ b := key.imp id fun ⟨b, hb, hle, _⟩ => ⟨b, hb, hle⟩
  have hg1 := World.grownBy.trans g0 h3
  have hRR : Kd.R (Kd.int .u8) 5 w1 base ok v1 (xs ++ [p]) := Kd.R_appended (okp := fun _ => False) h0 hr rfl (fun _ hk => hk.elim) hfresh h2 hg1 hat
  have hBB : Below base w0 w1 := (HB.alloc hbase _).grown h3 (by omega) (fun k hk => by rcases hown.2 with ⟨rfl, _⟩ | ⟨g, cap, cur, rfl, hbg, _⟩ <;> simp [Value.ownBlock] at hk; omega)
  unfold Oper.wp execOp
  simp only [ho, resolve, invoke, builtin, Sem.run_bind, Sem.run_pure, Result.andThen_ok, List.map_toArray, List.map_cons, List.map_nil, hs, hx, hrun]
  exact hK _ _ (h v1 w1 hRR hBB hg1 key)
end
theorem R_tagstep {α : Type} {d : Kd α} {e base i j : Nat} {W w1 : World} {f f' : Nat → Nat} {v : Value} {xs : List α} {row : Option Nat} (h : d.R e W base (fun k => f k = j) v xs) (hg : W.grownBy w1 row) (ht : ∀ b, row = some b → f b = i) (hij : j ≠ i) (hf : ∀ k, k < W.heap.size → f' k = f k) : d.R e w1 base (fun k => f' k = j) v xs := by
  have h1 := Kd.R_bound h
  have h2 := Kd.R_grown h1 hg (fun k hk e => hij (by rw [← hk.1, ht k e.symm]))
  exact Kd.R_mono h2 (fun k hk => (hf k hk.2.2.1).trans hk.1)
theorem R_retag {α : Type} {d : Kd α} {e base j : Nat} {W : World} {f f' : Nat → Nat} {v : Value} {xs : List α} (h : d.R e W base (fun k => f k = j) v xs) (hf : ∀ k, k < W.heap.size → f' k = f k) : d.R e W base (fun k => f' k = j) v xs :=
  Kd.R_mono (Kd.R_bound h) (fun k hk => (hf k hk.2.2.1).trans hk.1)
/-- List j reads its own marks. -/
def OldR (f : Nat → Nat) (W : World) (Ad : Nat → Option Addr) (nn : Nat → Nat) (j : Nat) : Prop := ∀ m, m < nn j → ∃ g, Ad j = some ⟨g, 0, none⟩ ∧ f g = j ∧ g < W.heap.size ∧ W.cell? ⟨g, m, none⟩ = some (.int .u8 (mk1 j m))
/-- What list j was gone on with. -/
def NewR (f : Nat → Nat) (W : World) (nn : Nat → Nat) (L : List Value) (j : Nat) : Prop := ∃ h c, L[j]? = some (.slice (some ⟨h, 0, none⟩) (nn j + 70) c) ∧ f h = j ∧ h < W.heap.size ∧ ∀ m, m < 70 → W.cell? ⟨h, nn j + m, none⟩ = some (.int .u8 (mk2 j m))
theorem OldR.step {f f' : Nat → Nat} {W w1 : World} {Ad : Nat → Option Addr} {nn : Nat → Nat} {i j : Nat} {row : Option Nat} (h : OldR f W Ad nn j) (hg : W.grownBy w1 row) (ht : ∀ b, row = some b → f b = i) (hij : j ≠ i) (hf : ∀ k, k < W.heap.size → f' k = f k) : OldR f' w1 Ad nn j := fun m hm => by
  obtain ⟨g, e, h1, h2, h3⟩ := h m hm
  exact ⟨g, e, (hf g h2).trans h1, Nat.lt_of_lt_of_le h2 hg.size, (cell_of_heap (p := ⟨g, m, none⟩) (hg.block g h2 (fun e2 => hij (by rw [← h1, ht g e2.symm])))).trans h3⟩
theorem NewR.step {f f' : Nat → Nat} {W w1 : World} {nn : Nat → Nat} {L : List Value} {i j : Nat} {row : Option Nat} (h : NewR f W nn L j) (hg : W.grownBy w1 row) (ht : ∀ b, row = some b → f b = i) (hij : j ≠ i) (hf : ∀ k, k < W.heap.size → f' k = f k) : NewR f' w1 nn L j := by
  obtain ⟨g, c, e, h1, h2, h3⟩ := h
  exact ⟨g, c, e, (hf g h2).trans h1, Nat.lt_of_lt_of_le h2 hg.size, fun m hm => (cell_of_heap (p := ⟨g, nn j + m, none⟩) (hg.block g h2 (fun e2 => hij (by rw [← h1, ht g e2.symm])))).trans (h3 m hm)⟩
theorem NewR.snoc {f : Nat → Nat} {W : World} {nn : Nat → Nat} {L : List Value} {j : Nat} (h : NewR f W nn L j) (v : Value) (hj : j < L.length) : NewR f W nn (L ++ [v]) j := by
  obtain ⟨g, c, e, h1⟩ := h
  exact ⟨g, c, by rw [List.getElem?_append_left hj]; exact e, h1⟩
def mks2 (i k : Nat) : List Int := (List.range k).map (mk2 i)
theorem mks2_succ (i k : Nat) : mks2 i (k + 1) = mks2 i k ++ [mk2 i k] := by simp [mks2, List.range_succ]
theorem mks2_len (i k : Nat) : (mks2 i k).length = k := by simp [mks2]
/-- New blocks are given to i. -/
def tagN (f : Nat → Nat) (S i : Nat) : Nat → Nat := fun k => if S ≤ k then i else f k
theorem tagN_old (f : Nat → Nat) (S i : Nat) : ∀ k, k < S → tagN f S i k = f k := fun k hk => if_neg (by omega)
theorem tagN_new (f : Nat → Nat) (S i : Nat) : ∀ k, S ≤ k → tagN f S i k = i := fun k hk => if_pos hk
/-- The head of a row of the call's own that holds something. -/
theorem Own.head {f : Nat → Nat} {W : World} {base j : Nat} {v : Value} {ys : List Int} (h : Own f W base j v ys) (hp : 0 < ys.length) : ∃ g c, v = .slice (some ⟨g, 0, none⟩) ys.length c ∧ v.ownBlock = some g ∧ f g = j ∧ g < W.heap.size ∧ ∀ m, m < ys.length → W.cell? ⟨g, m, none⟩ = some (.int .u8 (ys.getD m 0)) := by
  obtain ⟨g, cap, e, hb, hl, _⟩ := Kd.R_form h hp
  have ho : v.ownBlock = some g := by rw [e]; rfl
  refine ⟨g, cap, e, ho, h.1 g ho, hl, fun m hm => ?_⟩
  unfold Own at h
  rw [e] at h
  have h3 := Kd.R_celln 0 h (m : Int) (Int.natCast_nonneg _) (Int.ofNat_lt.mpr hm)
  rw [Int.toNat_natCast] at h3
  have e2 : rdOf 0 ys (m : Int) = ys.getD m 0 := by simp [rdOf]
  rw [e2] at h3
  exact h3.1
theorem Own.tag {f : Nat → Nat} {W : World} {base j : Nat} {v : Value} {ys : List Int} (h : Own f W base j v ys) : ∀ b, v.ownBlock = some b → f b = j := fun b e => h.1 b e
theorem getD_app {xs ys : List Int} {m : Nat} (h : m < xs.length) : (xs ++ ys).getD m 0 = xs.getD m 0 := by
  simp only [List.getD_eq_getElem?_getD]
  rw [List.getElem?_append_left h]
theorem getD_app2 {xs ys : List Int} {m n : Nat} (h : xs.length = n) : (xs ++ ys).getD (n + m) 0 = ys.getD m 0 := by
  simp only [List.getD_eq_getElem?_getD]
  rw [List.getElem?_append_right (by omega)]
  congr 2
  omega
theorem map_range_at {μ : Nat → Int} {k m : Nat} (h : m < k) : ((List.range k).map μ).getD m 0 = μ m := by
  simp [List.getD_eq_getElem?_getD, h]
theorem mks2_at {i k m : Nat} (h : m < k) : (mks2 i k).getD m 0 = mk2 i m := map_range_at (μ := mk2 i) h
/-- One byte more onto list i's own row: what list i read it still reads. -/
theorem OldR.append {f f' : Nat → Nat} {W w1 : World} {base i k : Nat} {Ad : Nat → Option Addr} {nn : Nat → Nat} {Y : List Int} {v v1 : Value} {x : Int} (h : OldR f W Ad nn i) (hY : Y.length = nn i) (hm1 : ∀ m, m < nn i → Y.getD m 0 = mk1 i m)
    (hg : W.grownBy w1 v.ownBlock) (hkey : v1.ownBlock = v.ownBlock ∨ ∃ b, v1.ownBlock = some b ∧ W.heap.size ≤ b ∧ W.grownBy w1 none) (hf : ∀ k, k < W.heap.size → f' k = f k) (ho : Own f' w1 base i v1 ((Y ++ mks2 i k) ++ [x])) : OldR f' w1 Ad nn i := fun m hm => by
  obtain ⟨g, e, h1, h2, h3⟩ := h m hm
  refine ⟨g, e, (hf g h2).trans h1, Nat.lt_of_lt_of_le h2 hg.size, ?_⟩
  by_cases hv : v.ownBlock = some g
  · rcases hkey with hk | ⟨b, _, _, hn⟩
    · obtain ⟨g2, c2, e2, e3, _, _, hc⟩ := Own.head ho (by simp only [List.length_append, List.length_singleton]; omega)
      have hgg : g2 = g := by rw [hk, hv] at e3; exact (Option.some.inj e3).symm
      subst hgg
      have := hc m (by simp only [List.length_append, List.length_singleton]; omega)
      rw [this, List.append_assoc, getD_app (by omega), hm1 m hm]
    · exact (cell_of_heap (p := ⟨g, m, none⟩) (hn.block g h2 (by simp))).trans h3
  · exact (cell_of_heap (p := ⟨g, m, none⟩) (hg.block g h2 (fun e2 => hv e2.symm))).trans h3
theorem Fr.step {f0 : Nat → Nat} {N : Nat} {w W w1 : World} {row : Option Nat} (h : Fr f0 N w W) (hg : W.grownBy w1 row) (ht : ∀ b, row = some b → b < w.heap.size → f0 b < N) (hs : w.heap.size ≤ W.heap.size) : Fr f0 N w w1 := fun k hk hf =>
  (hg.block k (Nat.lt_of_lt_of_le hk hs) (fun e => absurd (ht k e.symm hk) (by omega))).trans (h k hk hf)
/-- The table of a row of rows: no elder block. -/
theorem own_low {α : Type} {d : Kd α} {e base b : Nat} {W : World} {ok : Nat → Prop} {v : Value} {xs : List α} (h : d.R e W base ok v xs) (hb : v.ownBlock = some b) : base ≤ b := Kd.R_base h b hb
theorem info22 : (Try.prog.info? 22).map (fun i => (i.zero, i.size, i.bytes)) = some (some (.slice none 0 0), 1, 24) := by kernel_rfl
/-- A table's cell. -/
theorem raw_at {W : World} {base N i : Nat} {ok : Nat → Prop} {v : Value} {L : List Value} (h : Kd.R (Kd.raw 1) 22 W base ok v (L.map (fun v => [v]))) (hl : L.length = N) (hi : i < N) : ∃ g c, v = .slice (some ⟨g, 0, none⟩) N c ∧ W.cell? ⟨g, i, none⟩ = L[i]? := by
  obtain ⟨g, c, e, _⟩ := Kd.R_form h (by rw [List.length_map]; omega)
  rw [List.length_map, hl] at e
  subst e
  obtain ⟨cs, hcl, hM, hc⟩ := Kd.R_elem h [] (i : Int) (Int.natCast_nonneg _) (Int.ofNat_lt.mpr hi)
  refine ⟨g, c, rfl, ?_⟩
  have hli : i < L.length := by omega
  have hq : (L.map (fun v => [v])).getD (i : Int).toNat [] = [L[i]] := by
    rw [Int.toNat_natCast, List.getD_eq_getElem?_getD, List.getElem?_map, List.getElem?_eq_getElem hli]
    rfl
  have h3 := hM.1
  rw [hq] at h3
  subst h3
  have h4 := hc.1 0 L[i] rfl
  rw [Int.toNat_natCast] at h4
  have h5 : W.cell? ⟨g, i, none⟩ = some L[i] := by simpa [Kd.raw] using h4
  rw [h5, List.getElem?_eq_getElem hli]
set_option maxHeartbeats 16000000 in
set_option maxRecDepth 100000 in
theorem apart_true (f0 : Nat → Nat) (N base gA cA : Nat) (Ad : Nat → Option Addr) (nn cc : Nat → Nat) (w : World) (Y0 : Nat → List Int) (hN : N ≤ 65536) (hA : ∀ i, i < N → w.cell? ⟨gA, i, none⟩ = some (.slice (Ad i) (nn i) (cc i)))
    (hgA : gA < w.heap.size ∧ N ≤ f0 gA) (hrows : RowsAt f0 w base N Ad nn cc Y0) (hnn : ∀ j, j < N → nn j ≤ 65536) (hbase : base ≤ w.heap.size) :
    Calls Try.prog 52 #[.slice (some ⟨gA, 0, none⟩) N cA] w fun e w' => e = .returned (.bool true) ∧ Below base w w' ∧ Fr f0 N w w' := by
  have HN := Aside0.mk hN
  have HA := Aside0.mk hA
  have HGA := Aside0.mk hgA
  have HNN := Aside0.mk hnn
  have HBA := Aside0.mk hbase
  have HROWS := Aside0.mk hrows
  clear hN hA hgA hrows hnn hbase
  go_enter Try.func52, Try.ntmps52
  go_wp2
  go_loopw [3] (fun i W => ∃ (i' : Nat) (Y : Nat → List Int), i = .int .i64 i' ∧ i' ≤ N ∧ Aside0 (RowsAt f0 W base N Ad nn cc Y) ∧ Aside0 (∀ j, j < i' → ∀ m, m < nn j → (Y j).getD m 0 = mk1 j m) ∧ Aside0 (Below base w W ∧ Fr f0 N w W)) (fun i _ => N - (intOf i).toNat)
  case atStart => exact ⟨0, Y0, rfl, Nat.zero_le _, HROWS, ⟨fun j hj => absurd hj (Nat.not_lt_zero _)⟩, ⟨Below.refl _ _, Fr.refl _ _ _⟩⟩
  case round =>
    obtain ⟨i, Y, rfl, hi, HY, HM, HF⟩ := hrel
    clear hi
    by_cases hlt : i < N
    · have hjl : decide ((i : Int) < (N : Int)) = true := dlt hlt
      have hjp : (i : Int) < (N : Int) := Int.ofNat_lt.mpr hlt
      have HLT := Aside0.mk hlt
      clear hlt
      go_wp2
      go_loopw [4] (fun k W => ∃ (k' : Nat) (Y : Nat → List Int), k = .int .i64 k' ∧ k' ≤ nn i ∧ Aside0 (RowsAt f0 W base N Ad nn cc Y) ∧ Aside0 (∀ j, j < i → ∀ m, m < nn j → (Y j).getD m 0 = mk1 j m) ∧ Aside0 (∀ m, m < k' → (Y i).getD m 0 = mk1 i m) ∧ Aside0 (Below base w W ∧ Fr f0 N w W)) (fun k _ => nn i - (intOf k).toNat)
      case atStart => exact ⟨0, Y, rfl, Nat.zero_le _, HY, HM, ⟨fun m hm => absurd hm (Nat.not_lt_zero _)⟩, HF⟩
      case round =>
        clear HY HM HF hjl
        obtain ⟨k, Y, rfl, hk, HY, HM, HM2, HF⟩ := hrel
        clear hk
        have hcell : wr.cell? ⟨gA, i, none⟩ = some (.slice (Ad i) (nn i) (cc i)) := (cell_of_heap (HF.out.2 gA HGA.out.1 HGA.out.2)).trans (HA.out i HLT.out)
        have hi0 := eq_true (Int.natCast_nonneg i)
        have hi1 : ((i : Int) < (N : Int)) = True := eq_true (Int.ofNat_lt.mpr HLT.out)
        by_cases hlt : k < nn i
        · have hjl : decide ((k : Int) < (nn i : Int)) = true := dlt hlt
          have hkp : (k : Int) < (nn i : Int) := Int.ofNat_lt.mpr hlt
          have hk0 := eq_true (Int.natCast_nonneg k)
          have hk1 : ((k : Int) < (nn i : Int)) = True := eq_true (Int.ofNat_lt.mpr hlt)
          obtain ⟨g, eg, hfg, hbg, hgl, hx, hfx⟩ := RowsAt.at HY.out HLT.out hlt
          have HG := Aside0.mk (And.intro eg (And.intro hfg hbg))
          have hcell2 : wr.cell? ⟨gA, i, none⟩ = some (.slice (some ⟨g, 0, none⟩) (nn i) (cc i)) := by rw [← eg]; exact hcell
          have HKL := Aside0.mk hlt
          clear hcell eg hfg hbg hgl hlt
          go_wp2
          exact ⟨⟨k + 1, fun j => if j = i then (Y i).set k (mk1 i k) else Y j, by rw [kinc k (lt64 (HNN.out i HLT.out) HKL.out)], HKL.out, ⟨RowsAt.put HY.out HLT.out HG.out.1 HG.out.2.1 k (mk1 i k)⟩, ⟨put_old HM.out⟩, ⟨put_new (by rw [(HY.out i HLT.out).1]; exact HKL.out) HM2.out⟩, ⟨HF.out.1.setCell (p := ⟨g, k, none⟩) HG.out.2.2 _, Fr.set (p := ⟨g, k, none⟩) HF.out.2 (by show f0 g < N; rw [HG.out.2.1]; exact HLT.out) _⟩⟩, by rw [kinc k (lt64 (HNN.out i HLT.out) HKL.out)]; exact kmeas HKL.out⟩
        · have hjl : decide ((k : Int) < (nn i : Int)) = false := dge hlt
          have hkp : ¬ (k : Int) < (nn i : Int) := fun h => hlt (Int.ofNat_lt.mp h)
          have HKL := Aside0.mk hlt
          clear hlt
          go_wp2
          exact ⟨⟨i + 1, Y, by rw [kinc i (lt64 HN.out HLT.out)], HLT.out, HY, ⟨done_marks HKL.out HM.out HM2.out⟩, HF⟩, by rw [kinc i (lt64 HN.out HLT.out)]; exact kmeas HLT.out⟩
    · have hjl : decide ((i : Int) < (N : Int)) = false := dge hlt
      have hjp : ¬ (i : Int) < (N : Int) := fun h => hlt (Int.ofNat_lt.mp h)
      have HM9 := Aside0.mk (show ∀ j, j < N → ∀ m, m < nn j → (Y j).getD m 0 = mk1 j m from fun j hj => HM.out j (Nat.lt_of_lt_of_le hj (Nat.le_of_not_lt hlt)))
      clear HM hlt
      go_wp2
      clear hjl hjp
      have HS0 := Aside0.mk HF.out.1.size
      go_loopw [5, 6] (fun mo i W => ∃ (i' : Nat) (f : Nat → Nat) (L : List Value), i = .int .i64 i' ∧ i' ≤ N ∧ Aside0 (∀ k, k < w.heap.size → f k = f0 k) ∧ Aside0 (L.length = i') ∧ Aside0 (∀ j, i' ≤ j → j < N → (Y j).length = nn j ∧ Own f W base j (.slice (Ad j) (nn j) (cc j)) (Y j)) ∧ Aside0 (∀ j, j < i' → OldR f W Ad nn j ∧ NewR f W nn L j) ∧ Aside0 (Kd.R (Kd.raw 1) 22 W w.heap.size (fun k => f k = N) mo (L.map (fun v => [v]))) ∧ Aside0 (Below base w W ∧ Fr f0 N w W ∧ w.heap.size ≤ W.heap.size)) (fun _ i _ => N - (intOf i).toNat)
      case atStart => exact ⟨0, f0, [], rfl, Nat.zero_le _, ⟨fun _ _ => rfl⟩, ⟨rfl⟩, ⟨fun j _ hj => HY.out j hj⟩, ⟨fun j hj => absurd hj (Nat.not_lt_zero _)⟩, ⟨Kd.R_nil _ _ _ _ _⟩, ⟨HF.out.1, HF.out.2, HS0.out⟩⟩
      case round =>
        clear HF HY HS0
        obtain ⟨i, f, L, rfl, hi', HEXT, HLN, HRW, HON, HRM, HF⟩ := hrel
        by_cases hlt : i < N
        · have hjl : decide ((i : Int) < (N : Int)) = true := dlt hlt
          have hjp : (i : Int) < (N : Int) := Int.ofNat_lt.mpr hlt
          have hcell : wr.cell? ⟨gA, i, none⟩ = some (.slice (Ad i) (nn i) (cc i)) := (cell_of_heap (HF.out.2.1 gA HGA.out.1 HGA.out.2)).trans (HA.out i hlt)
          have hi0 := eq_true (Int.natCast_nonneg i)
          have hi1 : ((i : Int) < (N : Int)) = True := eq_true hjp
          have HLT := Aside0.mk hlt
          clear hlt
          go_wp2
          clear hcell hjl hjp
          have HYI := Aside0.mk (And.intro (HRW.out i (Nat.le_refl _) HLT.out).1 (HM9.out i HLT.out))
          have HOI := Aside0.mk (show OldR f wr Ad nn i from fun m hm => by
            obtain ⟨h1, h2⟩ := HRW.out i (Nat.le_refl _) HLT.out
            obtain ⟨g, c, e, _, hf, hl, hc⟩ := Own.head h2 (by omega)
            injection e with ea
            exact ⟨g, ea, hf, hl, by rw [hc m (by omega), HM9.out i HLT.out m hm]⟩)
          go_loopw [7, 8] (fun m k W => ∃ (k' : Nat) (f : Nat → Nat), k = .int .i64 k' ∧ k' ≤ 70 ∧ Aside0 (∀ k, k < w.heap.size → f k = f0 k) ∧ Aside0 (∀ j, i < j → j < N → (Y j).length = nn j ∧ Own f W base j (.slice (Ad j) (nn j) (cc j)) (Y j)) ∧ Aside0 (∀ j, j < i → OldR f W Ad nn j ∧ NewR f W nn L j) ∧ Aside0 (Kd.R (Kd.raw 1) 22 W w.heap.size (fun k => f k = N) u5 (L.map (fun v => [v]))) ∧ Aside0 (OldR f W Ad nn i) ∧ Aside0 (Own f W base i m (Y i ++ mks2 i k')) ∧ Aside0 (Below base w W ∧ Fr f0 N w W ∧ w.heap.size ≤ W.heap.size)) (fun _ k _ => 70 - (intOf k).toNat)
          case atStart => exact ⟨0, f, rfl, Nat.zero_le _, HEXT, ⟨fun j hj hn => HRW.out j (Nat.le_of_lt hj) hn⟩, HON, HRM, HOI, ⟨by simp only [mks2, List.range_zero, List.map_nil, List.append_nil]; exact (HRW.out i (Nat.le_refl _) HLT.out).2⟩, HF⟩
          case round =>
            clear HEXT HRW HON HRM HOI HF
            obtain ⟨k, f, rfl, hk70', HEXT, HRW, HON, HRM, HOI, HO, HF⟩ := hrel
            by_cases hlt : k < 70
            · have hjl : decide ((k : Int) < 70) = true := dlt hlt
              have hjp : (k : Int) < 70 := Int.ofNat_lt.mpr hlt
              have HKL := Aside0.mk hlt
              clear hk70'
              have hold := tagN_old f wr.heap.size i
              have HOLD := Aside0.mk hold
              have HLEN := Aside0.mk (show (Y i ++ mks2 i k).length + 1 ≤ 140737488355328 by rw [List.length_append, mks2_len, HYI.out.1]; have := HNN.out i HLT.out; omega)
              clear hlt hold
              go_wp2_with (at_builtin; refine Aside0.out (?_ : Aside0 _))
              refine ⟨?_⟩
              refine R_append_keep (w0 := w) base rfl (.tmp 53) (.tmp 60) rfl u7 (Y i ++ mks2 i k) (mk2 i k) (fun b => tagN f wr.heap.size i b = i) rfl rfl ?aF ?aO ?aB ?aS ?aL ?_
              (case aF => exact tagN_new f wr.heap.size i)
              (case aO => exact R_retag HO.out HOLD.out)
              (case aB => exact HF.out.1)
              (case aS => exact Nat.le_trans HBA.out HF.out.2.2)
              (case aL => exact HLEN.out)
              intro v1 w1 ho hb hg hkey
              have hown := Own.tag HO.out
              have N1 := Aside0.mk (show ∀ k, k < w.heap.size → tagN f wr.heap.size i k = f0 k from fun k hk => (HOLD.out k (Nat.lt_of_lt_of_le hk HF.out.2.2)).trans (HEXT.out k hk))
              have N2 := Aside0.mk (show ∀ j, i < j → j < N → (Y j).length = nn j ∧ Own (tagN f wr.heap.size i) w1 base j (.slice (Ad j) (nn j) (cc j)) (Y j) from fun j hij hj => ⟨(HRW.out j hij hj).1, R_tagstep (HRW.out j hij hj).2 hg hown (Nat.ne_of_gt hij) HOLD.out⟩)
              have N3 := Aside0.mk (show ∀ j, j < i → OldR (tagN f wr.heap.size i) w1 Ad nn j ∧ NewR (tagN f wr.heap.size i) w1 nn L j from fun j hj => ⟨(HON.out j hj).1.step hg hown (Nat.ne_of_lt hj) HOLD.out, (HON.out j hj).2.step hg hown (Nat.ne_of_lt hj) HOLD.out⟩)
              have N4 := Aside0.mk (R_tagstep HRM.out hg hown (Nat.ne_of_gt HLT.out) HOLD.out)
              have N5 := Aside0.mk (OldR.append HOI.out HYI.out.1 HYI.out.2 hg hkey HOLD.out ho)
              have N6 := Aside0.mk (show Own (tagN f wr.heap.size i) w1 base i v1 (Y i ++ mks2 i (k + 1)) by rw [mks2_succ, ← List.append_assoc]; exact ho)
              have N7 := Aside0.mk (And.intro hb (And.intro (Fr.step HF.out.2.1 hg (fun b e hlt => by rw [← HEXT.out b hlt, hown b e]; exact HLT.out) HF.out.2.2) (Nat.le_trans HF.out.2.2 hg.size)))
              clear HEXT HRW HON HRM HOI HO HF ho hb hg hkey hown HOLD
              go_wp2
              go_roundw
              case rel => exact ⟨k + 1, tagN f wr.heap.size i, by first | rfl | rw [kinc k (Nat.lt_trans HKL.out (by decide))], HKL.out, N1, N2, N3, N4, N5, N6, N7⟩
              case measure => exact kmeas1 HKL.out
            · have hjl : decide ((k : Int) < 70) = false := dge hlt
              have hjp : ¬ (k : Int) < 70 := fun h => hlt (Int.ofNat_lt.mp h)
              have hk70 : k = 70 := Nat.le_antisymm hk70' (Nat.le_of_not_lt hlt)
              subst hk70
              obtain ⟨h, c, ev, hvo, hfh, hhl, hc⟩ := Own.head HO.out (by rw [List.length_append, mks2_len]; omega)
              have hlen : (Y i ++ mks2 i 70).length = nn i + 70 := by rw [List.length_append, mks2_len, HYI.out.1]
              rw [hlen] at ev
              subst ev
              have HNEW := Aside0.mk (show f h = i ∧ h < wr.heap.size ∧ ∀ m, m < 70 → wr.cell? ⟨h, nn i + m, none⟩ = some (.int .u8 (mk2 i m)) from ⟨hfh, hhl, fun m hm => by rw [hc _ (by omega), getD_app2 HYI.out.1, mks2_at hm]⟩)
              have HOLD := Aside0.mk (tagN_old f wr.heap.size N)
              have HLEN := Aside0.mk (show ((L.map (fun v => [v])).length + 1) * 24 ≤ 140737488355328 by rw [List.length_map, HLN.out]; have := HLT.out; have := HN.out; omega)
              clear hvo hfh hhl hc hlen hlt HO
              go_wp2_with (at_builtin; refine Aside0.out (?_ : Aside0 _))
              refine ⟨?_⟩
              refine Kd.R_append (Kd.raw 1) (w0 := wr) w.heap.size rfl (.tmp 62) (.tmp 64) 62 22 (.slice none 0 0) 24 rfl Try.underlying62 info22 rfl (by decide) (by decide) u5 (L.map (fun v => [v])) [.slice (some ⟨h, 0, none⟩) (nn i + 70) c] [.slice (some ⟨h, 0, none⟩) (nn i + 70) c] (fun b => tagN f wr.heap.size N b = N) (fun _ => False) rfl rfl ?aP (fun _ hk => hk.elim) ?aF ?aO ?aB ?aS ?aL ?_
              case aP => exact ⟨rfl, rfl, fun u hu => by simp at hu; subst hu; rfl⟩
              case aF => exact tagN_new f wr.heap.size N
              case aO => exact R_retag HRM.out HOLD.out
              case aB => exact Below.refl _ _
              case aS => exact HF.out.2.2
              case aL => exact HLEN.out
              intro v1 w1 ho hb hg hat
              have htag : ∀ b, u5.ownBlock = some b → f b = N := fun b e => HRM.out.1 b e
              have N1 := Aside0.mk (show ∀ k, k < w.heap.size → tagN f wr.heap.size N k = f0 k from fun k hk => (HOLD.out k (Nat.lt_of_lt_of_le hk HF.out.2.2)).trans (HEXT.out k hk))
              have N2 := Aside0.mk (show ∀ j, i + 1 ≤ j → j < N → (Y j).length = nn j ∧ Own (tagN f wr.heap.size N) w1 base j (.slice (Ad j) (nn j) (cc j)) (Y j) from fun j hij hj => ⟨(HRW.out j hij hj).1, R_tagstep (HRW.out j hij hj).2 hg htag (Nat.ne_of_lt hj) HOLD.out⟩)
              have N3 := Aside0.mk (show ∀ j, j < i + 1 → OldR (tagN f wr.heap.size N) w1 Ad nn j ∧ NewR (tagN f wr.heap.size N) w1 nn (L ++ [.slice (some ⟨h, 0, none⟩) (nn i + 70) c]) j from fun j hj => by
                by_cases e : j = i
                · subst e
                  refine ⟨HOI.out.step hg htag (Nat.ne_of_lt HLT.out) HOLD.out, NewR.step (f := f) (W := wr) ⟨h, c, ?_, HNEW.out⟩ hg htag (Nat.ne_of_lt HLT.out) HOLD.out⟩
                  rw [← HLN.out, List.getElem?_append_right (Nat.le_refl _)]
                  simp
                · have hji : j < i := by omega
                  exact ⟨(HON.out j hji).1.step hg htag (Nat.ne_of_lt (Nat.lt_trans hji HLT.out)) HOLD.out, ((HON.out j hji).2.snoc _ (by rw [HLN.out]; exact hji)).step hg htag (Nat.ne_of_lt (Nat.lt_trans hji HLT.out)) HOLD.out⟩)
              have N4 := Aside0.mk (show Kd.R (Kd.raw 1) 22 w1 w.heap.size (fun k => tagN f wr.heap.size N k = N) v1 ((L ++ [Value.slice (some ⟨h, 0, none⟩) (nn i + 70) c]).map (fun v => [v])) by rw [List.map_append]; exact ho)
              have N5 := Aside0.mk (show (L ++ [Value.slice (some ⟨h, 0, none⟩) (nn i + 70) c]).length = i + 1 by rw [List.length_append, HLN.out]; rfl)
              have N7 := Aside0.mk (show Below base w w1 ∧ Fr f0 N w w1 ∧ w.heap.size ≤ w1.heap.size from ⟨HF.out.1.trans (hb.mono HBA.out), Fr.step HF.out.2.1 hg (fun b e hlt => absurd (own_low HRM.out e) (by omega)) HF.out.2.2, Nat.le_trans HF.out.2.2 hg.size⟩)
              clear HEXT HRW HON HRM HOI HF ho hb hg hat htag HOLD HNEW HLN
              go_wp2
              go_roundw
              case rel => exact ⟨i + 1, _, _, by rw [kinc i (lt64 HN.out HLT.out)], HLT.out, N1, N5, N2, N3, N4, N7⟩
              case measure => rw [kinc i (lt64 HN.out HLT.out)]; exact kmeas HLT.out
        · have hjl : decide ((i : Int) < (N : Int)) = false := dge hlt
          have hjp : ¬ (i : Int) < (N : Int) := fun h => hlt (Int.ofNat_lt.mp h)
          have hiN : N = i := Nat.le_antisymm (Nat.le_of_not_lt hlt) hi'
          subst hiN
          clear hlt hi' HRW HEXT
          go_wp2
          clear hjl hjp
          go_loop [9] (fun i => ∃ i' : Nat, i = .int .i64 i' ∧ i' ≤ N) (fun i => N - (intOf i).toNat)
          case atStart => exact ⟨0, rfl, Nat.zero_le _⟩
          case round =>
            obtain ⟨i, rfl, hi⟩ := hrel
            clear hi
            by_cases hlt : i < N
            · have hjl : decide ((i : Int) < (N : Int)) = true := dlt hlt
              have hjp : (i : Int) < (N : Int) := Int.ofNat_lt.mpr hlt
              have hcell : wr.cell? ⟨gA, i, none⟩ = some (.slice (Ad i) (nn i) (cc i)) := (cell_of_heap (HF.out.2.1 gA HGA.out.1 HGA.out.2)).trans (HA.out i hlt)
              have hi0 := eq_true (Int.natCast_nonneg i)
              have hi1 : ((i : Int) < (N : Int)) = True := eq_true hjp
              obtain ⟨gM, cM, eM, hcM⟩ := raw_at HRM.out HLN.out hlt
              have HLT := Aside0.mk hlt
              have HIO := Aside0.mk (HON.out i hlt)
              obtain ⟨h, c, eL, _, _, hNew⟩ := (HON.out i hlt).2
              rw [eL] at hcM
              have HNW := Aside0.mk hNew
              have HCM := Aside0.mk hcM
              have HE := Aside0.mk eM
              clear hlt hNew hcM eM eL
              go_wp2
              go_loop [11] (fun k => ∃ k' : Nat, k = .int .i64 k' ∧ k' ≤ nn i) (fun k => nn i - (intOf k).toNat)
              case atStart => exact ⟨0, rfl, Nat.zero_le _⟩
              case round =>
                obtain ⟨k, rfl, hk⟩ := hrel
                clear hk
                by_cases hlt : k < nn i
                · have hjl2 : decide ((k : Int) < (nn i : Int)) = true := dlt hlt
                  have hkp : (k : Int) < (nn i : Int) := Int.ofNat_lt.mpr hlt
                  have hk0 := eq_true (Int.natCast_nonneg k)
                  have hk1 : ((k : Int) < (nn i : Int)) = True := eq_true hkp
                  obtain ⟨g, eg, _, _, hx⟩ := HIO.out.1 k hlt
                  have hx2 : wr.cell? ⟨g, k, none⟩ = some (.int .u8 (wrap64 (wrap64 (7 * (i : Int)) + (k : Int)) % 256)) := hx
                  have hcell2 : wr.cell? ⟨gA, i, none⟩ = some (.slice (some ⟨g, 0, none⟩) (nn i) (cc i)) := by rw [← eg]; exact hcell
                  have HKL := Aside0.mk hlt
                  have HCE := Aside0.mk hcell
                  clear hx eg hcell hlt
                  go_wp2
                  go_round
                  case rel => exact ⟨k + 1, by first | rfl | rw [kinc k (lt64 (HNN.out i HLT.out) HKL.out)], HKL.out⟩
                  case measure => first | exact kmeas1 HKL.out | (rw [kinc k (lt64 (HNN.out i HLT.out) HKL.out)]; exact kmeas HKL.out)
                · have hjl2 : decide ((k : Int) < (nn i : Int)) = false := dge hlt
                  have hkp : ¬ (k : Int) < (nn i : Int) := fun h => hlt (Int.ofNat_lt.mp h)
                  clear hlt
                  go_wp2
                  clear hjl2 hkp
                  go_loop [12] (fun k => ∃ k' : Nat, k = .int .i64 k' ∧ k' ≤ 70) (fun k => 70 - (intOf k).toNat)
                  case atStart => exact ⟨0, rfl, Nat.zero_le _⟩
                  case round =>
                    obtain ⟨k, rfl, hk⟩ := hrel
                    clear hk
                    by_cases hlt : k < 70
                    · have hjl2 : decide ((k : Int) < 70) = true := dlt hlt
                      have hkp : (k : Int) < 70 := Int.ofNat_lt.mpr hlt
                      have hx : wr.cell? ⟨h, nn i + k, none⟩ = some (.int .u8 (wrap64 (wrap64 (100 + (i : Int)) + 5 * (k : Int)) % 256)) := HNW.out k hlt
                      have hcM := HCM.out
                      have eM := HE.out
                      have hsum : wrap64 ((nn i : Int) + (k : Int)) = ((nn i + k : Nat) : Int) := ksum (HNN.out i HLT.out) hlt
                      have hs0 := eq_true (Int.natCast_nonneg (nn i + k))
                      have hs1 : (((nn i + k : Nat) : Int) < ((nn i + 70 : Nat) : Int)) = True := eq_true (Int.ofNat_lt.mpr (Nat.add_lt_add_left hlt _))
                      have HKL := Aside0.mk hlt
                      clear hlt
                      subst eM
                      go_wp2
                      exact ⟨⟨k + 1, by first | rfl | rw [kinc k (Nat.lt_trans HKL.out (by decide))], HKL.out⟩, kmeas1 HKL.out⟩
                    · have hjl2 : decide ((k : Int) < 70) = false := dge hlt
                      have hkp : ¬ (k : Int) < 70 := fun h => hlt (Int.ofNat_lt.mp h)
                      clear hlt
                      go_wp2
                      go_round
                      case rel => exact ⟨i + 1, by first | rfl | rw [kinc i (lt64 HN.out HLT.out)], HLT.out⟩
                      case measure => first | exact kmeas1 HLT.out | (rw [kinc i (lt64 HN.out HLT.out)]; exact kmeas HLT.out)
            · have hjl : decide ((i : Int) < (N : Int)) = false := dge hlt
              have hjp : ¬ (i : Int) < (N : Int) := fun h => hlt (Int.ofNat_lt.mp h)
              go_wp2
              go_ret
              exact ⟨rfl, HF.out.1, HF.out.2.1⟩
end Go.Proofs.Ytoohpdamndgdlaa.P


/- torrentlaw4.BitsetKept, walked. -/
set_option linter.unusedVariables false
set_option linter.unusedSimpArgs false
namespace Go.Proofs.Ytoohpdamndgdlaa.P
open Go.RowKit Go.Proofs.YtoohpdamndgdlaaW.PrintWords Go.Proofs.YtoohpdamndgdlaaW.PrintLast Go.Proofs.YtoohpdamndgdlaaW.PrintMore
theorem drawn_below {W W' : World} (h : Drawn0 W W') : Below W.heap.size W W' := by
  obtain ⟨n, rfl⟩ := h
  exact pw_below_drewN (Below.refl _ _) n
/-- What is known in the middle of the law: all, keep, x, y, each with blocks of its own. -/
structure KI (cv : Nat → List Int) (l1 l2 : List Int) (vx vy : Value) (base : Nat) (f : Nat → Nat) (W : World) (nA nK : Nat) (LA LK : List Value) (vA vK : Value) : Prop where
  lenA : LA.length = nA
  lenK : LK.length = nK
  hA : ∀ j, j < nA → ∃ A c, LA[j]? = some (.slice A (cv (j % 8)).length c) ∧ Own f W base j (.slice A (cv (j % 8)).length c) (cv (j % 8))
  hK : ∀ j, j < nK → ∃ A c, LK[j]? = some (.slice A (cv (j % 8)).length c) ∧ Own f W base (24 + j) (.slice A (cv (j % 8)).length c) (cv (j % 8))
  rA : Kd.R (Kd.raw 1) 22 W base (fun b => f b = 102) vA (LA.map (fun v => [v]))
  rK : Kd.R (Kd.raw 1) 22 W base (fun b => f b = 103) vK (LK.map (fun v => [v]))
  hx : Own f W base 100 vx (l1 ++ [201, 202])
  hy : Own f W base 101 vy (l2 ++ [203, 204])
theorem grown_of_below {W W1 : World} (h : Below W.heap.size W W1) : W.grownBy W1 none := ⟨h.os, h.tape, h.output, h.size, fun k hk _ => h.block k hk⟩
section
variable {cv : Nat → List Int} {l1 l2 : List Int} {vx vy : Value} {base : Nat} {f f' : Nat → Nat} {W W1 : World} {nA nK : Nat} {LA LK : List Value} {vA vK v2 p : Value}
theorem KI.below (h : KI cv l1 l2 vx vy base f W nA nK LA LK vA vK) (hb : Below W.heap.size W W1) (hf : ∀ k, k < W.heap.size → f' k = f k) : KI cv l1 l2 vx vy base f' W1 nA nK LA LK vA vK := by
  have st : ∀ {α : Type} {d : Kd α} {e i : Nat} {v : Value} {xs : List α}, d.R e W base (fun b => f b = i) v xs → d.R e W1 base (fun b => f' b = i) v xs := fun {α d e i v xs} hr =>
    R_tagstep (i := i + 1) hr (grown_of_below hb) (fun b e => by cases e) (by omega) hf
  exact ⟨h.lenA, h.lenK, fun j hj => by obtain ⟨A, c, e, hr⟩ := h.hA j hj; exact ⟨A, c, e, st hr⟩, fun j hj => by obtain ⟨A, c, e, hr⟩ := h.hK j hj; exact ⟨A, c, e, st hr⟩, st h.rA, st h.rK, st h.hx, st h.hy⟩
theorem KI.appA (h : KI cv l1 l2 vx vy base f W nA nK LA LK vA vK) (hn : nA < 24) (hk : nK ≤ 24) {A : Option Addr} {c : Nat} (hp : Own f W base nA (.slice A (cv (nA % 8)).length c) (cv (nA % 8))) (hg : W.grownBy W1 vA.ownBlock) (hf : ∀ k, k < W.heap.size → f' k = f k)
    (ho : Kd.R (Kd.raw 1) 22 W1 base (fun b => f' b = 102) v2 ((LA.map (fun v => [v])) ++ [[.slice A (cv (nA % 8)).length c]])) : KI cv l1 l2 vx vy base f' W1 (nA + 1) nK (LA ++ [.slice A (cv (nA % 8)).length c]) LK v2 vK := by
  have tg : ∀ b, vA.ownBlock = some b → f b = 102 := fun b e => h.rA.1 b e
  have st : ∀ {α : Type} {d : Kd α} {e i : Nat} {v : Value} {xs : List α}, i ≠ 102 → d.R e W base (fun b => f b = i) v xs → d.R e W1 base (fun b => f' b = i) v xs := fun {α d e i v xs} hi hr => R_tagstep (i := 102) hr hg tg hi hf
  refine ⟨by rw [List.length_append, h.lenA]; rfl, h.lenK, fun j hj => ?_, fun j hj => by obtain ⟨A, c, e, hr⟩ := h.hK j hj; exact ⟨A, c, e, st (by omega) hr⟩, by rw [List.map_append]; exact ho, st (by decide) h.rK, st (by decide) h.hx, st (by decide) h.hy⟩
  by_cases e : j = nA
  · subst e
    exact ⟨A, c, by rw [← h.lenA, List.getElem?_append_right (Nat.le_refl _)]; simp, st (by omega) hp⟩
  · obtain ⟨A, c, e2, hr⟩ := h.hA j (by omega)
    exact ⟨A, c, by rw [List.getElem?_append_left (by rw [h.lenA]; omega)]; exact e2, st (by omega) hr⟩
theorem KI.appK (h : KI cv l1 l2 vx vy base f W nA nK LA LK vA vK) (hn : nK < 24) (hk : nA ≤ 24) {A : Option Addr} {c : Nat} (hp : Own f W base (24 + nK) (.slice A (cv (nK % 8)).length c) (cv (nK % 8))) (hg : W.grownBy W1 vK.ownBlock) (hf : ∀ k, k < W.heap.size → f' k = f k)
    (ho : Kd.R (Kd.raw 1) 22 W1 base (fun b => f' b = 103) v2 ((LK.map (fun v => [v])) ++ [[.slice A (cv (nK % 8)).length c]])) : KI cv l1 l2 vx vy base f' W1 nA (nK + 1) LA (LK ++ [.slice A (cv (nK % 8)).length c]) vA v2 := by
  have tg : ∀ b, vK.ownBlock = some b → f b = 103 := fun b e => h.rK.1 b e
  have st : ∀ {α : Type} {d : Kd α} {e i : Nat} {v : Value} {xs : List α}, i ≠ 103 → d.R e W base (fun b => f b = i) v xs → d.R e W1 base (fun b => f' b = i) v xs := fun {α d e i v xs} hi hr => R_tagstep (i := 103) hr hg tg hi hf
  refine ⟨h.lenA, by rw [List.length_append, h.lenK]; rfl, fun j hj => by obtain ⟨A, c, e, hr⟩ := h.hA j hj; exact ⟨A, c, e, st (by omega) hr⟩, fun j hj => ?_, st (by decide) h.rA, by rw [List.map_append]; exact ho, st (by decide) h.hx, st (by decide) h.hy⟩
  by_cases e : j = nK
  · subst e
    exact ⟨A, c, by rw [← h.lenK, List.getElem?_append_right (Nat.le_refl _)]; simp, st (by omega) hp⟩
  · obtain ⟨A, c, e2, hr⟩ := h.hK j (by omega)
    exact ⟨A, c, by rw [List.getElem?_append_left (by rw [h.lenK]; omega)]; exact e2, st (by omega) hr⟩
def sAd : Option Value → Option Addr
  | some (.slice A _ _) => A
  | _ => none
def sCc : Option Value → Nat
  | some (.slice _ _ c) => c
  | _ => 0
/-- What apart asks of the lists. -/
theorem KI.forApart {gA cA : Nat} (h : KI cv l1 l2 vx vy base f W 24 nK LA LK (.slice (some ⟨gA, 0, none⟩) 24 cA) vK) : ∃ (Ad : Nat → Option Addr) (cc : Nat → Nat), (∀ i, i < 24 → W.cell? ⟨gA, i, none⟩ = some (.slice (Ad i) (cv (i % 8)).length (cc i))) ∧ RowsAt f W base 24 Ad (fun j => (cv (j % 8)).length) cc (fun j => cv (j % 8)) ∧ gA < W.heap.size ∧ 24 ≤ f gA := by
  refine ⟨fun j => sAd LA[j]?, fun j => sCc LA[j]?, fun i hi => ?_, fun j hj => ⟨rfl, ?_⟩, Kd.R_lt h.rA gA rfl, by rw [h.rA.1 gA rfl]; decide⟩
  · obtain ⟨A, c, e, _⟩ := h.hA i hi
    obtain ⟨g, c2, e2, h2⟩ := raw_at h.rA h.lenA hi
    injection e2 with e3 _ _
    injection e3 with e3
    injection e3 with e3 _ _
    subst e3
    show _ = some (Value.slice (sAd LA[i]?) _ (sCc LA[i]?))
    rw [h2, e]
    rfl
  · obtain ⟨A, c, e, hr⟩ := h.hA j hj
    simp only [e]
    exact hr
theorem KI.after (h : KI cv l1 l2 vx vy base f W nA nK LA LK vA vK) (hfr : Fr f 24 W W1) (hs : W.heap.size ≤ W1.heap.size) : KI cv l1 l2 vx vy base f W1 0 nK [] LK (.slice none 0 0) vK := by
  have st : ∀ {α : Type} {d : Kd α} {e i : Nat} {v : Value} {xs : List α}, 24 ≤ i → d.R e W base (fun b => f b = i) v xs → d.R e W1 base (fun b => f b = i) v xs := fun {α d e i v xs} hi hr =>
    Kd.R_mono (Kd.R_move (Kd.R_bound hr) (fun k hk => hfr k hk.2.2.1 (by rw [hk.1]; exact hi))) (fun k hk => hk.1)
  exact ⟨rfl, h.lenK, fun j hj => absurd hj (Nat.not_lt_zero _), fun j hj => by obtain ⟨A, c, e, hr⟩ := h.hK j hj; exact ⟨A, c, e, st (by omega) hr⟩, Kd.R_nil _ _ _ _ _, st (by decide) h.rK, st (by decide) h.hx, st (by decide) h.hy⟩
theorem own_new {α : Type} {d : Kd α} {e b0 i : Nat} {ok : Nat → Prop} {v : Value} {xs : List α} (h : d.R e W b0 ok v xs) (hb : base ≤ b0) : d.R e W base (fun b => tagN f b0 i b = i) v xs :=
  Kd.R_lower (Kd.R_mono (Kd.R_bound h) (fun k hk => tagN_new f b0 i k hk.2.1)) hb
end
/-- What the rest asks, where both bitfields pass. -/
structure Rest (k : Nat) (a0 a3 : Int) (l1 l2 : List Int) (cv : Nat → List Int) : Prop where
  hll : l1.length = l2.length
  hM1 : l1.length ≤ 65536
  hM2 : l2.length ≤ 65536
  hc1 : torrentlaw4_copied.f k l1 = some l1
  hc2 : torrentlaw4_copied.f k l2 = some l2
  hs1 : torrentlaw4_sameBytes.f k l1 l1 = some true
  hs2 : torrentlaw4_sameBytes.f k l2 l2 = some true
  hcall : ∀ j : Nat, j < 8 → torrentlaw4_call.f k (j : Int) a0 l1 l2 a3 = some (cv j)
  hcv : ∀ j, j < 8 → (cv j).length ≤ 65536 ∧ torrentlaw4_copied.f k (cv j) = some (cv j) ∧ torrentlaw4_sameBytes.f k (cv j) (cv j) = some true
  hli : torrentlaw4_lists.f k a0 l1 l2 = some true
  hst : torrentlaw4_stale.f k a0 l1 l2 = some true
  han : torrentlaw4_anew.f k a0 l1 l2 a3 = some true
theorem len2 {l : List Int} (h : l.length ≤ 65536) : (l.length + 2) * 1 ≤ 140737488355328 := by omega
theorem own_tag_new {f : Nat → Nat} {S b i : Nat} {W W1 : World} {v : Value} {xs : List Int} (h : Kd.R (Kd.int .u8) 5 W S (fun _ => True) v xs) (_hs : S ≤ W1.heap.size) (hb : v.ownBlock = some b) : tagN f S i b = i := tagN_new f S i b (Kd.R_base h b hb)
theorem pos2 (l : List Int) (a b : Int) : 0 < (l ++ [a, b]).length := by simp
theorem len2' (l : List Int) (a b : Int) : (l ++ [a, b]).length = l.length + 2 := by simp
theorem tmod8 (n : Nat) : Int.tmod (n : Int) 8 = ((n % 8 : Nat) : Int) := by
  rw [Int.tmod_eq_emod_of_nonneg (by omega)]
  omega
theorem cut_reads {f : Nat → Nat} {W : World} {base j g c n : Nat} {l : List Int} {a b : Int} (h : Own f W base j (.slice (some ⟨g, 0, none⟩) n c) (l ++ [a, b])) : Kd.C (Kd.int .u8) W (some ⟨g, 0, none⟩) l.length l ∧ l.length ≤ c := by
  have h2 := Kd.R_take h (m := l.length) (by simp)
  rw [List.take_left] at h2
  exact ⟨(Kd.R_reads' h2).2.2, (Kd.R_reads' h2).2.1⟩
theorem len24 {L : List Value} {n : Nat} (h : L.length = n) (hn : n < 24) : ((L.map (fun v => [v])).length + 1) * 24 ≤ 140737488355328 := by
  rw [List.length_map, h]
  omega
theorem ne102 {n : Nat} (h : n < 24) : n ≠ 102 := by omega
theorem raw_all {W : World} {base N : Nat} {ok : Nat → Prop} {v : Value} {L : List Value} (h : Kd.R (Kd.raw 1) 22 W base ok v (L.map (fun v => [v]))) (hl : L.length = N) (hN : 0 < N) : ∃ g c, v = .slice (some ⟨g, 0, none⟩) N c ∧ ∀ i, i < N → W.cell? ⟨g, i, none⟩ = L[i]? := by
  obtain ⟨g, c, e, _⟩ := raw_at h hl hN
  refine ⟨g, c, e, fun i hi => ?_⟩
  obtain ⟨g2, c2, e2, h2⟩ := raw_at h hl hi
  rw [e] at e2
  injection e2 with e3 _ _
  injection e3 with e3
  injection e3 with e3 _ _
  subst e3
  exact h2
theorem mod8a (n : Nat) : 0 ≤ (n : Int) % 8 := by omega
theorem mod8b (n : Nat) : (n : Int) % 8 < 24 := by omega
theorem mod8c (n : Nat) : ((n : Int) % 8).toNat = n % 8 := by omega
theorem marks_at {f : Nat → Nat} {W : World} {base j g c : Nat} {l : List Int} {a b : Int} (h : Own f W base j (.slice (some ⟨g, 0, none⟩) (l.length + 2) c) (l ++ [a, b])) : W.cell? ⟨g, l.length, none⟩ = some (.int .u8 a) ∧ W.cell? ⟨g, l.length + 1, none⟩ = some (.int .u8 b) := by
  obtain ⟨g2, c2, e2, _, _, _, hc⟩ := Own.head h (pos2 l a b)
  injection e2 with e3 _ _
  injection e3 with e3
  injection e3 with e3 _ _
  subst e3
  have h1 := hc l.length (by simp)
  have h2 := hc (l.length + 1) (by simp)
  simp only [List.getD_eq_getElem?_getD] at h1 h2
  rw [List.getElem?_append_right (Nat.le_refl _)] at h1
  rw [List.getElem?_append_right (Nat.le_succ _)] at h2
  simp at h1 h2
  exact ⟨h1, h2⟩
theorem lt24 {n : Nat} (h : n < 8) : (n : Int) < 24 := by omega
theorem ltp2 (n : Nat) : (n : Int) < ((n + 2 : Nat) : Int) := by omega
theorem ltp3 (n : Nat) : ((n + 1 : Nat) : Int) < ((n + 2 : Nat) : Int) := by omega
theorem lt64' {n : Nat} (h : n ≤ 65536) : n < 9223372036854775807 := by omega
theorem sameBytes_n (k : Nat) (A0 : Option Addr) (c0 n : Nat) (l0 : List Int) (A1 : Option Addr) (c1 : Nat) (l1 : List Int) (r : Bool) (w : World) (hn : n = l0.length) (hr0 : Kd.C (Kd.int .u8) w A0 l0.length l0) (hc0 : l0.length ≤ c0) (hr1 : Kd.C (Kd.int .u8) w A1 l1.length l1) (hc1 : l1.length ≤ c1) (h : torrentlaw4_sameBytes.f k l0 l1 = some r) :
    Calls Try.prog 17 #[.slice A0 n c0, .slice A1 l1.length c1] w fun e w' => e = .returned (.bool r) ∧ Drawn0 w w' := by
  subst hn
  exact torrentlaw4_sameBytes.calls k A0 c0 l0 A1 c1 l1 r w hr0 hc0 hr1 hc1 h
theorem lty1 {a b : Nat} (h : a = b) : (a : Int) < (b : Int) + 2 := by omega
theorem lty2 {a b : Nat} (h : a = b) : (a : Int) + 1 < (b : Int) + 2 := by omega
/-- What the two answers that must come are, and what Check says. -/
structure First (k : Nat) (a0 : Int) (l1 l2 : List Int) (e1 e2 : Int) : Prop where
  hOf : bitset_Of.f k 9 [8, 0] = some ([128, 128], 0)
  hOn : bitset_Ones.f k 9 [129, 128] = some ([0, 7, 8], 0)
  hsb : torrentlaw4_sameBytes.f k [128, 128] [128, 128] = some true
  hsi : torrentlaw4_sameInts.f k [0, 7, 8] [0, 7, 8] = some true
  h1 : bitset_Check.f k a0 l1 = some e1
  h2 : bitset_Check.f k a0 l2 = some e2
set_option maxHeartbeats 16000000 in
set_option maxRecDepth 100000 in
theorem kept_true (k : Nat) (a0 a3 : Int) (A1 : Option Addr) (c1 : Nat) (l1 : List Int) (A2 : Option Addr) (c2 : Nat) (l2 : List Int) (w : World) (e1 e2 : Int) (cv : Nat → List Int) (hr1 : Kd.C (Kd.int .u8) w A1 l1.length l1) (hc1 : l1.length ≤ c1) (hr2 : Kd.C (Kd.int .u8) w A2 l2.length l2) (hc2 : l2.length ≤ c2)
    (hf : First k a0 l1 l2 e1 e2) (hyes : e1 = 0 → e2 = 0 → Rest k a0 a3 l1 l2 cv) (hno : e1 ≠ 0 ∨ e2 ≠ 0 → ∃ e, bitset_And.f k a0 l1 l2 = some ([], e)) :
    Calls Try.prog 14 #[.int .i64 a0, .slice A1 l1.length c1, .slice A2 l2.length c2, .int .i64 a3] w fun e w' => e = .returned (.bool true) ∧ Below w.heap.size w w' := by
  have HR1 := Aside0.mk hr1
  have HC1 := Aside0.mk hc1
  have HR2 := Aside0.mk hr2
  have HC2 := Aside0.mk hc2
  have HK := Aside0.mk hf
  have HNO := Aside0.mk hno
  have HYES := Aside0.mk hyes
  clear hr1 hc1 hr2 hc2 hf hno hyes
  have HB := Aside0.mk (Below.refl w.heap.size w)
  go_enter Try.func14, Try.ntmps14
  go_upto_region 5 with (first
    | ((with_reducible refine gate_dst (N := 26) rfl ?_); (try (refine gate_guard (by rfl) ?_; dsimp only)); refine Kd.R_lit (Kd.int .i64) _ 3 ?hg (N := 26) ?hd (xs := ([8, 0] : List Int)) (inner := [.int .i64 8, .int .i64 0]) (ok := fun _ => True) (okp := fun _ => True) ?hr ?hp (fun _ hk => hk) trivial (Below.refl _ _) (Nat.le_refl _) (by simp) ?_; (case hd => rfl); (case hg => rfl); (case hr => first | (go_simp; done) | (go_simp; rfl)); (case hp => exact (Reps.one (show Kd.M (Kd.int .i64) _ _ _ 8 [.int .i64 8] from rfl) (Reps.one (show Kd.M (Kd.int .i64) _ _ _ 0 [.int .i64 0] from rfl) (Reps.none _ _)))); intro v26 w26 ho hb hg_ hnew_; have n0_ := Aside0.mk (below_step HB.out hb); have n1_ := Aside0.mk ho; clear hg_ hnew_ hb ho HB; have HB := n0_; have H26 := n1_; clear n0_ n1_; obtain ⟨A26, c26, eo⟩ := Kd.R_slice H26.out; subst eo)
    | ((with_reducible refine gate_callee (f := 20) rfl ?_); refine goesL_ (some 27) rfl rfl Try.func20 (by kernel_rfl) rfl #[.int .i64 9, .slice A26 ([8, 0] : List Int).length c26] rfl (by (try simp only [List.map_toArray, List.map_cons, List.map_nil]); first | done | rfl) ?_; (with_reducible refine (bitset_Of.calls k 9 A26 c26 [8, 0] [128, 128] 0 _ (Kd.R_reads' H26.out).2.2 (Kd.R_reads' H26.out).2.1 HK.out.hOf).mono ?_); rintro e w27 ⟨v27, rfl, ho, hb⟩; refine ⟨_, rfl, ?_⟩; have n0_ := Aside0.mk (below_step HB.out hb); have n1_ := Aside0.mk ho; clear HB hb ho H26; have HB := n0_; have H27 := n1_; clear n0_ n1_; obtain ⟨A27, c27, eo⟩ := Kd.R_slice H27.out; subst eo)
    | ((with_reducible refine gate_dst (N := 31) rfl ?_); (try (refine gate_guard (by rfl) ?_; dsimp only)); refine Kd.R_lit (Kd.int .u8) _ 5 ?hg (N := 31) ?hd (xs := ([129, 128] : List Int)) (inner := [.int .u8 129, .int .u8 128]) (ok := fun _ => True) (okp := fun _ => True) ?hr ?hp (fun _ hk => hk) trivial (Below.refl _ _) (Nat.le_refl _) (by simp) ?_; (case hd => rfl); (case hg => rfl); (case hr => first | (go_simp; done) | (go_simp; rfl)); (case hp => exact (Reps.one (show Kd.M (Kd.int .u8) _ _ _ 129 [.int .u8 129] from rfl) (Reps.one (show Kd.M (Kd.int .u8) _ _ _ 128 [.int .u8 128] from rfl) (Reps.none _ _)))); intro v31 w31 ho hb hg_ hnew_; have n0_ := Aside0.mk (below_step HB.out hb); have n1_ := Aside0.mk ho; have m0_ := Aside0.mk (Kd.R_below H27.out hb); clear H27; have H27 := m0_; clear m0_; clear hg_ hnew_ hb ho HB; have HB := n0_; have H31 := n1_; clear n0_ n1_; obtain ⟨A31, c31, eo⟩ := Kd.R_slice H31.out; subst eo)
    | ((with_reducible refine gate_callee (f := 37) rfl ?_); refine goesL_ (some 32) rfl rfl Try.func37 (by kernel_rfl) rfl #[.int .i64 9, .slice A31 ([129, 128] : List Int).length c31] rfl (by (try simp only [List.map_toArray, List.map_cons, List.map_nil]); first | done | rfl) ?_; (with_reducible refine (bitset_Ones.calls k 9 A31 c31 [129, 128] [0, 7, 8] 0 _ (Kd.R_reads' H31.out).2.2 (Kd.R_reads' H31.out).2.1 HK.out.hOn).mono ?_); rintro e w32 ⟨v32, rfl, ho, hb⟩; refine ⟨_, rfl, ?_⟩; have n0_ := Aside0.mk (below_step HB.out hb); have n1_ := Aside0.mk ho; have m0_ := Aside0.mk (Kd.R_below H27.out hb); clear H27; have H27 := m0_; clear m0_; clear HB hb ho H31; have HB := n0_; have H32 := n1_; clear n0_ n1_; obtain ⟨A32, c32, eo⟩ := Kd.R_slice H32.out; subst eo)
    | ((with_reducible refine gate_dst (N := 43) rfl ?_); (try (refine gate_guard (by rfl) ?_; dsimp only)); refine Kd.R_lit (Kd.int .u8) _ 5 ?hg (N := 43) ?hd (xs := ([128, 128] : List Int)) (inner := [.int .u8 128, .int .u8 128]) (ok := fun _ => True) (okp := fun _ => True) ?hr ?hp (fun _ hk => hk) trivial (Below.refl _ _) (Nat.le_refl _) (by simp) ?_; (case hd => rfl); (case hg => rfl); (case hr => first | (go_simp; done) | (go_simp; rfl)); (case hp => exact (Reps.one (show Kd.M (Kd.int .u8) _ _ _ 128 [.int .u8 128] from rfl) (Reps.one (show Kd.M (Kd.int .u8) _ _ _ 128 [.int .u8 128] from rfl) (Reps.none _ _)))); intro v43 w43 ho hb hg_ hnew_; have n0_ := Aside0.mk (below_step HB.out hb); have n1_ := Aside0.mk ho; have m0_ := Aside0.mk (Kd.R_below H27.out hb); have m1_ := Aside0.mk (Kd.R_below H32.out hb); clear H27; clear H32; have H27 := m0_; clear m0_; have H32 := m1_; clear m1_; clear hg_ hnew_ hb ho HB; have HB := n0_; have H43 := n1_; clear n0_ n1_; obtain ⟨A43, c43, eo⟩ := Kd.R_slice H43.out; subst eo)
    | (go_at_call 17; refine (torrentlaw4_sameBytes.calls k A27 c27 [128, 128] A43 c43 [128, 128] true _ (Kd.R_reads' H27.out).2.2 (Kd.R_reads' H27.out).2.1 (Kd.R_reads' H43.out).2.2 (Kd.R_reads' H43.out).2.1 HK.out.hsb).mono ?_; rintro e wg17 ⟨rfl, hd⟩; have hb := drawn_below hd; have n0_ := Aside0.mk (below_step HB.out hb); have m0_ := Aside0.mk (Kd.R_below H32.out hb); clear H32; have H32 := m0_; clear m0_; clear HB hd hb H27 H43; have HB := n0_; clear n0_)
    | ((with_reducible refine gate_dst (N := 49) rfl ?_); (try (refine gate_guard (by rfl) ?_; dsimp only)); refine Kd.R_lit (Kd.int .i64) _ 3 ?hg (N := 49) ?hd (xs := ([0, 7, 8] : List Int)) (inner := [.int .i64 0, .int .i64 7, .int .i64 8]) (ok := fun _ => True) (okp := fun _ => True) ?hr ?hp (fun _ hk => hk) trivial (Below.refl _ _) (Nat.le_refl _) (by simp) ?_; (case hd => rfl); (case hg => rfl); (case hr => first | (go_simp; done) | (go_simp; rfl)); (case hp => exact (Reps.one (show Kd.M (Kd.int .i64) _ _ _ 0 [.int .i64 0] from rfl) (Reps.one (show Kd.M (Kd.int .i64) _ _ _ 7 [.int .i64 7] from rfl) (Reps.one (show Kd.M (Kd.int .i64) _ _ _ 8 [.int .i64 8] from rfl) (Reps.none _ _))))); intro v49 w49 ho hb hg_ hnew_; have n0_ := Aside0.mk (below_step HB.out hb); have n1_ := Aside0.mk ho; have m0_ := Aside0.mk (Kd.R_below H32.out hb); clear H32; have H32 := m0_; clear m0_; clear hg_ hnew_ hb ho HB; have HB := n0_; have H49 := n1_; clear n0_ n1_; obtain ⟨A49, c49, eo⟩ := Kd.R_slice H49.out; subst eo)
    | (go_at_call 22; refine (torrentlaw4_sameInts.calls k A32 c32 [0, 7, 8] A49 c49 [0, 7, 8] true _ (Kd.R_reads' H32.out).2.2 (Kd.R_reads' H32.out).2.1 (Kd.R_reads' H49.out).2.2 (Kd.R_reads' H49.out).2.1 HK.out.hsi).mono ?_; rintro e wg22 ⟨rfl, hd⟩; have hb := drawn_below hd; have n0_ := Aside0.mk (below_step HB.out hb); clear HB hd hb H32 H49; have HB := n0_; clear n0_))
  by_cases h1 : e1 = 0
  · have h1b : (e1 != 0) = false := by simpa using h1
    by_cases h2 : e2 = 0
    · have h2b : (e2 != 0) = false := by simpa using h2
      have HQ := Aside0.mk (HYES.out h1 h2)
      go_upto_region 8 with (first
        | ((with_reducible refine gate_callee (f := 48) rfl ?_); refine goesL_ (some 55) rfl rfl Try.func48 (by kernel_rfl) rfl #[.int .i64 a0, .slice A1 l1.length c1] rfl (by (try simp only [List.map_toArray, List.map_cons, List.map_nil]); first | done | rfl) ?_; (refine (bitset_Check.calls k a0 A1 c1 l1 e1 _ (Kd.C_below HR1.out HB.out) HC1.out HK.out.h1).mono ?_); rintro e w55 ⟨rfl, hd⟩; refine ⟨_, rfl, ?_⟩; have hb := drawn_below hd; have n0_ := Aside0.mk (below_step HB.out hb); clear HB hd hb ; have HB := n0_; clear n0_)
        | (go_at_call 48; refine (bitset_Check.calls k a0 A2 c2 l2 e2 _ (Kd.C_below HR2.out HB.out) HC2.out HK.out.h2).mono ?_; rintro e wg48 ⟨rfl, hd⟩; have hb := drawn_below hd; have n0_ := Aside0.mk (below_step HB.out hb); clear HB hd hb ; have HB := n0_; clear n0_))
      have HS48 := Aside0.mk HB.out.size
      go_wp2_with (first
        | ((with_reducible refine gate_callee (f := 24) rfl ?_); refine goesL_ (some 74) rfl rfl Try.func24 (by kernel_rfl) rfl #[.slice A1 l1.length c1] rfl (by (try simp only [List.map_toArray, List.map_cons, List.map_nil]); first | done | rfl) ?_; (with_reducible refine (torrentlaw4_copied.calls k A1 c1 l1 l1 _ (Kd.C_below HR1.out HB.out) HC1.out HQ.out.hc1).mono ?_); rintro e w74 ⟨v74, rfl, ho, hb⟩; refine ⟨_, rfl, ?_⟩; have n0_ := Aside0.mk (below_step HB.out hb); have n1_ := Aside0.mk ho; have HSA1 := Aside0.mk hb.size; clear HB hb ho ; have HB := n0_; have H74 := n1_; clear n0_ n1_; obtain ⟨A74, c74, eo⟩ := Kd.R_slice H74.out; subst eo)
        | ((with_reducible refine gate_dst (N := 75) rfl ?_); (try (refine gate_guard (by rfl) ?_; dsimp only)); refine Kd.R_lit (Kd.int .u8) _ 5 ?hg (N := 75) ?hd (xs := ([201, 202] : List Int)) (inner := [.int .u8 201, .int .u8 202]) (ok := fun _ => True) (okp := fun _ => True) ?hr ?hp (fun _ hk => hk) trivial (Below.refl _ _) (Nat.le_refl _) (by simp) ?_; (case hd => rfl); (case hg => rfl); (case hr => first | (go_simp; done) | (go_simp; rfl)); (case hp => exact (Reps.one (show Kd.M (Kd.int .u8) _ _ _ 201 [.int .u8 201] from rfl) (Reps.one (show Kd.M (Kd.int .u8) _ _ _ 202 [.int .u8 202] from rfl) (Reps.none _ _)))); intro v75 w75 ho hb hg_ hnew_; have n0_ := Aside0.mk (below_step HB.out hb); have n1_ := Aside0.mk ho; have HSA2 := Aside0.mk hb.size; have m0_ := Aside0.mk (Kd.R_below H74.out hb); clear H74; have H74 := m0_; clear m0_; clear hg_ hnew_ hb ho HB; have HB := n0_; have H75 := n1_; clear n0_ n1_; obtain ⟨A75, c75, eo⟩ := Kd.R_slice H75.out; subst eo)
        | (at_builtin; refine Aside0.out (?_ : Aside0 _)))
      refine ⟨?_⟩
      refine Kd.R_append_rows (Kd.int .u8) (w0 := w75) wg48.heap.size rfl (.tmp 74) (.tmp 75) 22 5 (.int .u8 0) 1 rfl Try.underlying22 info5 rfl (by decide) (by decide) _ l1 [201, 202] _ _ _ (fun _ => True) (fun _ => False) rfl rfl ?aO ?aR (fun _ _ h => h) (fun _ h => h.elim) ?aF ?aB ?aS ?aL ?_
      case aO => exact H74.out
      case aR => exact (Kd.R_reads' H75.out).2.2
      case aF => exact fun _ _ => trivial
      case aB => exact Below.refl _ _
      case aS => exact Nat.le_trans HSA1.out HSA2.out
      case aL => exact len2 HQ.out.hM1
      intro vx wx ho hb hg hat
      have n0_ := Aside0.mk (HB.out.trans (hb.mono HS48.out))
      have HX := Aside0.mk (R_retag (f' := tagN (tagN (fun _ => 200) wg48.heap.size 100) wx.heap.size 101) (own_new (f := fun _ => 200) (i := 100) ho HS48.out) (tagN_old _ wx.heap.size 101))
      clear HB ho hb hg hat H74 H75 HSA1 HSA2
      have HB := n0_
      clear n0_
      have HSX := Aside0.mk HB.out.size
      go_wp2_with (first
        | ((with_reducible refine gate_callee (f := 24) rfl ?_); refine goesL_ (some 78) rfl rfl Try.func24 (by kernel_rfl) rfl #[.slice A2 l2.length c2] rfl (by (try simp only [List.map_toArray, List.map_cons, List.map_nil]); first | done | rfl) ?_; (with_reducible refine (torrentlaw4_copied.calls k A2 c2 l2 l2 _ (Kd.C_below HR2.out HB.out) HC2.out HQ.out.hc2).mono ?_); rintro e w78 ⟨v78, rfl, ho, hb⟩; refine ⟨_, rfl, ?_⟩; have n0_ := Aside0.mk (below_step HB.out hb); have n1_ := Aside0.mk ho; have HSA3 := Aside0.mk hb.size; have m0_ := Aside0.mk (Kd.R_below HX.out hb); clear HX; have HX := m0_; clear m0_; clear HB hb ho ; have HB := n0_; have H78 := n1_; clear n0_ n1_; obtain ⟨A78, c78, eo⟩ := Kd.R_slice H78.out; subst eo)
        | ((with_reducible refine gate_dst (N := 79) rfl ?_); (try (refine gate_guard (by rfl) ?_; dsimp only)); refine Kd.R_lit (Kd.int .u8) _ 5 ?hg (N := 79) ?hd (xs := ([203, 204] : List Int)) (inner := [.int .u8 203, .int .u8 204]) (ok := fun _ => True) (okp := fun _ => True) ?hr ?hp (fun _ hk => hk) trivial (Below.refl _ _) (Nat.le_refl _) (by simp) ?_; (case hd => rfl); (case hg => rfl); (case hr => first | (go_simp; done) | (go_simp; rfl)); (case hp => exact (Reps.one (show Kd.M (Kd.int .u8) _ _ _ 203 [.int .u8 203] from rfl) (Reps.one (show Kd.M (Kd.int .u8) _ _ _ 204 [.int .u8 204] from rfl) (Reps.none _ _)))); intro v79 w79 ho hb hg_ hnew_; have n0_ := Aside0.mk (below_step HB.out hb); have n1_ := Aside0.mk ho; have HSA4 := Aside0.mk hb.size; have m0_ := Aside0.mk (Kd.R_below HX.out hb); have m1_ := Aside0.mk (Kd.R_below H78.out hb); clear HX; clear H78; have HX := m0_; clear m0_; have H78 := m1_; clear m1_; clear hg_ hnew_ hb ho HB; have HB := n0_; have H79 := n1_; clear n0_ n1_; obtain ⟨A79, c79, eo⟩ := Kd.R_slice H79.out; subst eo)
        | (at_builtin; refine Aside0.out (?_ : Aside0 _)))
      refine ⟨?_⟩
      refine Kd.R_append_rows (Kd.int .u8) (w0 := w79) wx.heap.size rfl (.tmp 78) (.tmp 79) 22 5 (.int .u8 0) 1 rfl Try.underlying22 info5 rfl (by decide) (by decide) _ l2 [203, 204] _ _ _ (fun _ => True) (fun _ => False) rfl rfl ?aO ?aR (fun _ _ h => h) (fun _ h => h.elim) ?aF ?aB ?aS ?aL ?_
      case aO => exact H78.out
      case aR => exact (Kd.R_reads' H79.out).2.2
      case aF => exact fun _ _ => trivial
      case aB => exact Below.refl _ _
      case aS => exact Nat.le_trans HSA3.out HSA4.out
      case aL => exact len2 HQ.out.hM2
      intro vy wy ho hb hg hat
      have n0_ := Aside0.mk (HB.out.trans (hb.mono HSX.out))
      have HY := Aside0.mk (own_new (f := tagN (fun _ => 200) wg48.heap.size 100) (i := 101) ho HSX.out)
      have n1_ := Aside0.mk (R_tagstep (i := 101) HX.out hg (fun b e => own_tag_new H78.out HSA3.out e) (by decide) (fun _ _ => rfl))
      clear HB HX ho hb hg hat H78 H79 HSA3 HSA4
      have HB := n0_
      have HX := n1_
      clear n0_ n1_
      go_wp2
      obtain ⟨gx, cx, ex, _, _, _, _⟩ := Own.head HX.out (pos2 l1 201 202)
      obtain ⟨gy, cy, ey, _, _, _, _⟩ := Own.head HY.out (pos2 l2 203 204)
      rw [len2' l1 201 202] at ex
      rw [len2' l2 203 204] at ey
      subst ex
      subst ey
      have hcx : l1.length + 2 ≤ cx := (Kd.R_reads' HX.out).2.1
      have hcy : l2.length + 2 ≤ cy := (Kd.R_reads' HY.out).2.1
      have HCX := Aside0.mk (And.intro hcx hcy)
      have HFS := Aside0.mk HB.out.size
      have h0l := eq_true (Int.natCast_nonneg l1.length)
      have h1l : ((l1.length : Int) ≤ (cx : Int)) = True := eq_true (Int.ofNat_le.mpr (Nat.le_trans (Nat.le_add_right _ 2) hcx))
      have h2l : ((l1.length : Int) ≤ (cy : Int)) = True := eq_true (Int.ofNat_le.mpr (Nat.le_trans (Nat.le_trans (Nat.le_of_eq HQ.out.hll) (Nat.le_add_right _ 2)) hcy))
      have HI0 := Aside0.mk (show KI cv l1 l2 (.slice (some ⟨gx, 0, none⟩) (l1.length + 2) cx) (.slice (some ⟨gy, 0, none⟩) (l2.length + 2) cy) w.heap.size _ wy 0 0 [] [] (.slice none 0 0) (.slice none 0 0) from ⟨rfl, rfl, fun j hj => absurd hj (Nat.not_lt_zero _), fun j hj => absurd hj (Nat.not_lt_zero _), Kd.R_nil _ _ _ _ _, Kd.R_nil _ _ _ _ _, HX.out, HY.out⟩)
      clear HX HY hcx hcy
      go_loopw [18, 19, 20] (fun va vk i W => ∃ (n : Nat) (f : Nat → Nat) (LA LK : List Value), i = .int .i64 n ∧ n ≤ 24 ∧ Aside0 (KI cv l1 l2 (.slice (some ⟨gx, 0, none⟩) (l1.length + 2) cx) (.slice (some ⟨gy, 0, none⟩) (l2.length + 2) cy) w.heap.size f W n n LA LK va vk) ∧ Aside0 (Below w.heap.size w W)) (fun _ _ i _ => 24 - (intOf i).toNat)
      case atStart => exact ⟨0, _, [], [], rfl, Nat.zero_le _, HI0, HB⟩
      case round =>
        clear HI0 HB HFS
        obtain ⟨n, f, LA, LK, rfl, hn, HI, HB⟩ := hrel
        by_cases hlt : n < 24
        · have hjl : decide ((n : Int) < 24) = true := dlt hlt
          have hjp : (n : Int) < 24 := Int.ofNat_lt.mpr hlt
          have HLT := Aside0.mk hlt
          have hmod : Int.tmod (n : Int) 8 = ((n % 8 : Nat) : Int) := tmod8 n
          clear hn hlt
          go_wp2
          obtain ⟨wd, hd, HI2, HB2⟩ : ∃ wd, wr.drew = wd ∧ Aside0 (KI cv l1 l2 (.slice (some ⟨gx, 0, none⟩) (l1.length + 2) cx) (.slice (some ⟨gy, 0, none⟩) (l2.length + 2) cy) w.heap.size f wd n n LA LK u18 u19) ∧ Aside0 (Below w.heap.size w wd) := ⟨_, rfl, ⟨HI.out.below (below_drew (Below.refl _ _)) (fun _ _ => rfl)⟩, ⟨below_drew HB.out⟩⟩
          clear HI HB
          refine start_ (n := 12) (S := fun _ => True) (ds := []) #[false, false, false, false, false, false, false, false, false, false, false, false] (by kernel_rfl) rfl rfl (trivial) (fun hHeld => ?_)
          rw [hd]
          clear hd
          refine pure_ (i := 0) (N := some 87) (v := ?_) (a' := ?_) #[true, false, false, false, false, false, false, false, false, false, false, false] rfl rfl (by kernel_rfl) (fun _ _ _ h => h) (Or.inl ⟨by rfl, ?_⟩) ?_ ?_
          rotate_left
          · intro w'
            go_simp
            with_reducible rfl
          rotate_left
          · simp only [Act.put, List.setIfInBounds_toArray, List.set_cons_zero, List.set_cons_succ, i64_w, i32_w]
            rfl
          refine pure_ (i := 1) (N := some 88) (v := ?_) (a' := ?_) #[true, true, false, false, false, false, false, false, false, false, false, false] rfl rfl (by kernel_rfl) (fun _ _ _ h => h) (Or.inl ⟨by rfl, ?_⟩) ?_ ?_
          rotate_left
          · intro w'
            go_simp
            with_reducible rfl
          rotate_left
          · simp only [Act.put, List.setIfInBounds_toArray, List.set_cons_zero, List.set_cons_succ, i64_w, i32_w]
            rfl
          refine pure_ (i := 2) (N := some 89) (v := ?_) (a' := ?_) #[true, true, true, false, false, false, false, false, false, false, false, false] rfl rfl (by kernel_rfl) (fun _ _ _ h => h) (Or.inl ⟨by rfl, ?_⟩) ?_ ?_
          rotate_left
          · intro w'
            go_simp
            with_reducible rfl
          rotate_left
          · simp only [Act.put, List.setIfInBounds_toArray, List.set_cons_zero, List.set_cons_succ, i64_w, i32_w]
            rfl
          refine pure_ (i := 3) (N := some 90) (v := ?_) (a' := ?_) #[true, true, true, true, false, false, false, false, false, false, false, false] rfl rfl (by kernel_rfl) (fun _ _ _ h => h) (Or.inl ⟨by rfl, ?_⟩) ?_ ?_
          rotate_left
          · intro w'
            go_simp
            with_reducible rfl
          rotate_left
          · simp only [Act.put, List.setIfInBounds_toArray, List.set_cons_zero, List.set_cons_succ, i64_w, i32_w]
            rfl
          refine pure_ (i := 4) (N := some 91) (v := ?_) (a' := ?_) #[true, true, true, true, true, false, false, false, false, false, false, false] rfl rfl (by kernel_rfl) (fun _ _ _ h => h) (Or.inl ⟨by rfl, ?_⟩) ?_ ?_
          rotate_left
          · intro w'
            go_simp
            with_reducible rfl
          rotate_left
          · simp only [Act.put, List.setIfInBounds_toArray, List.set_cons_zero, List.set_cons_succ, i64_w, i32_w]
            rfl
          refine pure_ (i := 5) (N := some 92) (v := ?_) (a' := ?_) #[true, true, true, true, true, true, false, false, false, false, false, false] rfl rfl (by kernel_rfl) (fun _ _ _ h => h) (Or.inl ⟨by rfl, ?_⟩) ?_ ?_
          rotate_left
          · intro w'
            go_simp
            with_reducible rfl
          rotate_left
          · simp only [Act.put, List.setIfInBounds_toArray, List.set_cons_zero, List.set_cons_succ, i64_w, i32_w]
            rfl
          refine pure_ (i := 6) (N := some 93) (v := ?_) (a' := ?_) #[true, true, true, true, true, true, true, false, false, false, false, false] rfl rfl (by kernel_rfl) (fun _ _ _ h => h) (Or.inl ⟨by rfl, ?_⟩) ?_ ?_
          rotate_left
          · intro w'
            go_simp
            with_reducible rfl
          rotate_left
          · simp only [Act.put, List.setIfInBounds_toArray, List.set_cons_zero, List.set_cons_succ, i64_w, i32_w]
            rfl
          refine pure_ (i := 7) (N := some 94) (v := ?_) (a' := ?_) #[true, true, true, true, true, true, true, true, false, false, false, false] rfl rfl (by kernel_rfl) (fun _ _ _ h => h) (Or.inl ⟨by rfl, ?_⟩) ?_ ?_
          rotate_left
          · intro w'
            go_simp
            with_reducible rfl
          rotate_left
          · simp only [Act.put, List.setIfInBounds_toArray, List.set_cons_zero, List.set_cons_succ, i64_w, i32_w]
            rfl
          refine pure_ (i := 8) (N := some 95) (v := ?_) (a' := ?_) #[true, true, true, true, true, true, true, true, true, false, false, false] rfl rfl (by kernel_rfl) (fun _ _ _ h => h) (Or.inl ⟨by rfl, ?_⟩) ?_ ?_
          rotate_left
          · intro w'
            go_simp
            with_reducible rfl
          rotate_left
          · simp only [Act.put, List.setIfInBounds_toArray, List.set_cons_zero, List.set_cons_succ, i64_w, i32_w]
            rfl
          refine pure_ (i := 9) (N := some 96) (v := ?_) (a' := ?_) #[true, true, true, true, true, true, true, true, true, true, false, false] rfl rfl (by kernel_rfl) (fun _ _ _ h => h) (Or.inl ⟨by rfl, ?_⟩) ?_ ?_
          rotate_left
          · intro w'
            go_simp
            with_reducible rfl
          rotate_left
          · simp only [Act.put, List.setIfInBounds_toArray, List.set_cons_zero, List.set_cons_succ, i64_w, i32_w]
            rfl
          refine one_ (i := 10) (N := some 97) #[true, true, true, true, true, true, true, true, true, true, true, false] rfl rfl (by kernel_rfl) (by decide) (fun K hK => ?_)
          refine goes_ Try.func51 (by kernel_rfl) rfl #[.int .i64 ((n % 8 : Nat) : Int), .int .i64 a0, .slice (some ⟨gx, 0, none⟩) l1.length cx, .slice (some ⟨gy, 0, none⟩) l1.length cy, .int .i64 a3] (by rfl) rfl rfl (by (try simp only [List.map_toArray, List.map_cons, List.map_nil]); first | done | rfl) ?_
          rw [show (Value.slice (some ⟨gy, 0, none⟩) l1.length cy) = .slice (some ⟨gy, 0, none⟩) l2.length cy by rw [HQ.out.hll]]
          refine (torrentlaw4_call.calls k ((n % 8 : Nat) : Int) a0 (some ⟨gx, 0, none⟩) cx l1 (some ⟨gy, 0, none⟩) cy l2 a3 (cv (n % 8)) _ (cut_reads HI2.out.hx).1 (cut_reads HI2.out.hx).2 (cut_reads HI2.out.hy).1 (cut_reads HI2.out.hy).2 (HQ.out.hcall _ (Nat.mod_lt _ (by decide)))).mono ?_
          rintro e w16 ⟨vp, rfl, ho, hb⟩
          refine ⟨_, rfl, ?_⟩
          obtain ⟨Ap, cp, rfl⟩ := Kd.R_slice ho
          have HI := Aside0.mk (HI2.out.below (f' := tagN f wd.heap.size n) hb (tagN_old f wd.heap.size n))
          have HP := Aside0.mk (show Own (tagN f wd.heap.size n) w16 w.heap.size n (.slice Ap (cv (n % 8)).length cp) (cv (n % 8)) from own_new (f := f) (i := n) ho HB2.out.size)
          have HB := Aside0.mk (below_step HB2.out hb)
          generalize tagN f wd.heap.size n = f1 at HI HP
          clear ho hb HI2 HB2
          refine hK.out _ _ trivial (fun hHeld => ?_)
          clear hK K
          refine norm_ (a' := ?_) ?_ ?_
          rotate_left
          · show Act.put _ (some 97) _ = _
            simp only [Act.put, List.setIfInBounds_toArray, List.set_cons_zero, List.set_cons_succ, i64_w, i32_w]
            rfl
          refine pure_ (i := 11) (N := some 21) (v := ?_) (a' := ?_) #[true, true, true, true, true, true, true, true, true, true, true, true] rfl rfl (by kernel_rfl) (fun _ _ _ h => h) (Or.inl ⟨by rfl, ?_⟩) ?_ ?_
          rotate_left
          · intro w'
            go_simp
            with_reducible rfl
          rotate_left
          · simp only [Act.put, List.setIfInBounds_toArray, List.set_cons_zero, List.set_cons_succ, i64_w, i32_w]
            rfl
          refine done_ (by kernel_rfl) ?_
          go_wp2_with (at_builtin; refine Aside0.out (?_ : Aside0 _))
          refine ⟨?_⟩
          refine Kd.R_append (Kd.raw 1) (w0 := w16) w.heap.size rfl (.tmp 98) (.tmp 100) 62 22 (.slice none 0 0) 24 rfl Try.underlying62 info22 rfl (by decide) (by decide) u18 (LA.map (fun v => [v])) [Value.slice Ap (cv (n % 8)).length cp] [Value.slice Ap (cv (n % 8)).length cp] (fun b => tagN f1 w16.heap.size 102 b = 102) (fun _ => False) rfl rfl ?aP (fun _ hk => hk.elim) ?aF ?aO ?aB ?aS ?aL ?_
          case aP => exact ⟨rfl, rfl, fun u hu => by simp at hu; subst hu; rfl⟩
          case aF => exact tagN_new f1 w16.heap.size 102
          case aO => exact R_retag HI.out.rA (tagN_old f1 w16.heap.size 102)
          case aB => exact Below.refl _ _
          case aS => exact HB.out.size
          case aL => exact len24 HI.out.lenA HLT.out
          intro va2 w17 ho hb hg hat
          have HI2 := Aside0.mk (HI.out.appA HLT.out (Nat.le_of_lt HLT.out) HP.out hg (tagN_old f1 w16.heap.size 102) ho)
          have HPR := Aside0.mk (Kd.R_reads' (R_tagstep (i := 102) HP.out hg (fun b e => HI.out.rA.1 b e) (ne102 HLT.out) (tagN_old f1 w16.heap.size 102)))
          have HB2 := Aside0.mk (HB.out.trans hb)
          generalize tagN f1 w16.heap.size 102 = f2 at HI2
          clear ho hb hg hat HI HB HP
          have HB := HB2
          clear HB2
          go_wp2_with (first
            | ((with_reducible refine gate_callee (f := 24) rfl ?_); refine goesL_ (some 104) rfl rfl Try.func24 (by kernel_rfl) rfl #[.slice Ap (cv (n % 8)).length cp] rfl (by (try simp only [List.map_toArray, List.map_cons, List.map_nil]); first | done | rfl) ?_; (refine (torrentlaw4_copied.calls k Ap cp (cv (n % 8)) (cv (n % 8)) _ HPR.out.2.2 HPR.out.2.1 (HQ.out.hcv _ (Nat.mod_lt _ (by decide))).2.1).mono ?_); rintro e w18 ⟨vk, rfl, ho, hb⟩; refine ⟨_, rfl, ?_⟩
               obtain ⟨A104, c104, rfl⟩ := Kd.R_slice ho
               have HI := Aside0.mk (HI2.out.below (f' := tagN f2 w17.heap.size (24 + n)) hb (tagN_old f2 w17.heap.size (24 + n)))
               have HP := Aside0.mk (show Own (tagN f2 w17.heap.size (24 + n)) w18 w.heap.size (24 + n) (.slice A104 (cv (n % 8)).length c104) (cv (n % 8)) from own_new (f := f2) (i := 24 + n) ho HB.out.size)
               have HB2 := Aside0.mk (below_step HB.out hb)
               generalize tagN f2 w17.heap.size (24 + n) = f3 at HI HP
               clear ho hb HI2 HB HPR
               have HB := HB2
               clear HB2)
            | (at_builtin; refine Aside0.out (?_ : Aside0 _)))
          refine ⟨?_⟩
          refine Kd.R_append (Kd.raw 1) (w0 := w18) w.heap.size rfl (.tmp 102) (.tmp 105) 62 22 (.slice none 0 0) 24 rfl Try.underlying62 info22 rfl (by decide) (by decide) u19 (LK.map (fun v => [v])) [Value.slice A104 (cv (n % 8)).length c104] [Value.slice A104 (cv (n % 8)).length c104] (fun b => tagN f3 w18.heap.size 103 b = 103) (fun _ => False) rfl rfl ?aP (fun _ hk => hk.elim) ?aF ?aO ?aB ?aS ?aL ?_
          case aP => exact ⟨rfl, rfl, fun u hu => by simp at hu; subst hu; rfl⟩
          case aF => exact tagN_new f3 w18.heap.size 103
          case aO => exact R_retag HI.out.rK (tagN_old f3 w18.heap.size 103)
          case aB => exact Below.refl _ _
          case aS => exact HB.out.size
          case aL => exact len24 HI.out.lenK HLT.out
          intro vk2 w19 ho hb hg hat
          have HI2 := Aside0.mk (HI.out.appK HLT.out HLT.out HP.out hg (tagN_old f3 w18.heap.size 103) ho)
          have HB2 := Aside0.mk (HB.out.trans hb)
          generalize tagN f3 w18.heap.size 103 = f4 at HI2
          clear ho hb hg hat HI HB HP
          go_wp2
          go_roundw
          case rel => exact ⟨n + 1, f4, _, _, by first | rfl | rw [kinc n (Nat.lt_trans HLT.out (by decide))], HLT.out, HI2, HB2⟩
          case measure => exact kmeas1 HLT.out
        · have hjl : decide ((n : Int) < 24) = false := dge hlt
          have hjp : ¬ (n : Int) < 24 := fun h => hlt (Int.ofNat_lt.mp h)
          have hn24 : n = 24 := Nat.le_antisymm hn (Nat.le_of_not_lt hlt)
          subst hn24
          clear hn hlt
          obtain ⟨gA, cA, eA, hcA⟩ := raw_all HI.out.rA HI.out.lenA (by decide : 0 < 24)
          obtain ⟨gK, cK, eK, hcK⟩ := raw_all HI.out.rK HI.out.lenK (by decide : 0 < 24)
          subst eA
          subst eK
          clear hcA hcK
          go_wp2
          clear hjl hjp
          go_loopw [22] (fun i W => ∃ (n : Nat), i = .int .i64 n ∧ n ≤ 24 ∧ Aside0 (KI cv l1 l2 (.slice (some ⟨gx, 0, none⟩) (l1.length + 2) cx) (.slice (some ⟨gy, 0, none⟩) (l2.length + 2) cy) w.heap.size f W 24 24 LA LK (.slice (some ⟨gA, 0, none⟩) 24 cA) (.slice (some ⟨gK, 0, none⟩) 24 cK)) ∧ Aside0 (Below w.heap.size w W)) (fun i _ => 24 - (intOf i).toNat)
          case atStart => exact ⟨0, rfl, Nat.zero_le _, HI, HB⟩
          case round =>
            clear HI HB
            obtain ⟨n, rfl, hn, HI, HB⟩ := hrel
            by_cases hlt : n < 24
            · have hjl : decide ((n : Int) < 24) = true := dlt hlt
              have hjp : (n : Int) < 24 := Int.ofNat_lt.mpr hlt
              have HLT := Aside0.mk hlt
              have hmod : Int.tmod (n : Int) 8 = ((n % 8 : Nat) : Int) := tmod8 n
              have hm8 : n % 8 < 24 := Nat.lt_trans (Nat.mod_lt _ (by decide)) (by decide)
              obtain ⟨gA', cA', eA, hcA⟩ := raw_all HI.out.rA HI.out.lenA (by decide : 0 < 24)
              obtain ⟨gK', cK', eK, hcK⟩ := raw_all HI.out.rK HI.out.lenK (by decide : 0 < 24)
              injection eA with eA1 _ ecA
              subst ecA
              injection eA1 with eA1
              injection eA1 with eA1 _ _
              subst eA1
              injection eK with eK1 _ ecK
              subst ecK
              injection eK1 with eK1
              injection eK1 with eK1 _ _
              subst eK1
              obtain ⟨Aa, ca, ea, ra⟩ := HI.out.hA n hlt
              obtain ⟨Ak, ck, ek, rk⟩ := HI.out.hK n hlt
              obtain ⟨Am, cm, em, rm⟩ := HI.out.hK (n % 8) hm8
              rw [Nat.mod_mod] at em rm
              have hA1 : wr.cell? ⟨gA, n, none⟩ = some (.slice Aa (cv (n % 8)).length ca) := (hcA n hlt).trans ea
              have hK1 : wr.cell? ⟨gK, n, none⟩ = some (.slice Ak (cv (n % 8)).length ck) := (hcK n hlt).trans ek
              have hM1 : wr.cell? ⟨gK, n % 8, none⟩ = some (.slice Am (cv (n % 8)).length cm) := (hcK (n % 8) hm8).trans em
              have RA := Aside0.mk (Kd.R_reads' ra)
              have RK := Aside0.mk (Kd.R_reads' rk)
              have RM := Aside0.mk (Kd.R_reads' rm)
              have HCV := Aside0.mk (HQ.out.hcv _ (Nat.mod_lt n (by decide : 0 < 8)))
              have hn0 := eq_true (Int.natCast_nonneg n)
              have hm0 := eq_true (mod8a n)
              have hm1 := eq_true (mod8b n)
              have hmt := mod8c n
              clear hcA hcK ea ek em ra rk rm hlt hn hm8
              go_wp2
              refine start_ (n := 23) (S := fun w' => w'.cell? ⟨gA, n, none⟩ = some (.slice Aa (cv (n % 8)).length ca) ∧ w'.cell? ⟨gK, n, none⟩ = some (.slice Ak (cv (n % 8)).length ck) ∧ w'.cell? ⟨gK, n % 8, none⟩ = some (.slice Am (cv (n % 8)).length cm)) (ds := []) #[false, false, false, false, false, false, false, false, false, false, false, false, false, false, false, false, false, false, false, false, false, false, false] (by kernel_rfl) rfl rfl (⟨hA1, hK1, hM1⟩) (fun hHeld => ?_)
              refine pure_ (i := 0) (N := some 111) (v := ?_) (a' := ?_) #[true, false, false, false, false, false, false, false, false, false, false, false, false, false, false, false, false, false, false, false, false, false, false] rfl rfl (by kernel_rfl) (fun _ _ _ h => h) (Or.inl ⟨by rfl, ?_⟩) ?_ ?_
              rotate_left
              · intro w'
                go_simp
                with_reducible rfl
              rotate_left
              · simp only [Act.put, List.setIfInBounds_toArray, List.set_cons_zero, List.set_cons_succ, i64_w, i32_w]
                rfl
              refine pure_ (i := 1) (N := some 112) (v := ?_) (a' := ?_) #[true, true, false, false, false, false, false, false, false, false, false, false, false, false, false, false, false, false, false, false, false, false, false] rfl rfl (by kernel_rfl) (fun _ _ _ h => h) (Or.inl ⟨by rfl, ?_⟩) ?_ ?_
              rotate_left
              · intro w'
                go_simp
                with_reducible rfl
              rotate_left
              · simp only [Act.put, List.setIfInBounds_toArray, List.set_cons_zero, List.set_cons_succ, i64_w, i32_w]
                rfl
              refine pure_ (i := 2) (N := some 113) (v := ?_) (a' := ?_) #[true, true, true, false, false, false, false, false, false, false, false, false, false, false, false, false, false, false, false, false, false, false, false] rfl rfl (by kernel_rfl) (fun _ _ _ h => h) (Or.inl ⟨by rfl, ?_⟩) ?_ ?_
              rotate_left
              · intro w'
                go_simp
                with_reducible rfl
              rotate_left
              · simp only [Act.put, List.setIfInBounds_toArray, List.set_cons_zero, List.set_cons_succ, i64_w, i32_w]
                rfl
              refine take_ (i := 3) (N := some 114) (v := ?_) (a' := ?_) #[true, true, true, true, false, false, false, false, false, false, false, false, false, false, false, false, false, false, false, false, false, false, false] rfl rfl (by kernel_rfl) (fun _ _ _ h => h) (Or.inl ⟨by rfl, ?_⟩) hHeld ?_ ?_
              rotate_left
              · intro w' s0
                obtain ⟨s1, s2, s3⟩ := s0
                go_simp
                with_reducible rfl
              rotate_left
              · simp only [Act.put, List.setIfInBounds_toArray, List.set_cons_zero, List.set_cons_succ, i64_w, i32_w]
                rfl
              refine pure_ (i := 4) (N := some 115) (v := ?_) (a' := ?_) #[true, true, true, true, true, false, false, false, false, false, false, false, false, false, false, false, false, false, false, false, false, false, false] rfl rfl (by kernel_rfl) (fun _ _ _ h => h) (Or.inl ⟨by rfl, ?_⟩) ?_ ?_
              rotate_left
              · intro w'
                go_simp
                with_reducible rfl
              rotate_left
              · simp only [Act.put, List.setIfInBounds_toArray, List.set_cons_zero, List.set_cons_succ, i64_w, i32_w]
                rfl
              refine pure_ (i := 5) (N := some 116) (v := ?_) (a' := ?_) #[true, true, true, true, true, true, false, false, false, false, false, false, false, false, false, false, false, false, false, false, false, false, false] rfl rfl (by kernel_rfl) (fun _ _ _ h => h) (Or.inl ⟨by rfl, ?_⟩) ?_ ?_
              rotate_left
              · intro w'
                go_simp
                with_reducible rfl
              rotate_left
              · simp only [Act.put, List.setIfInBounds_toArray, List.set_cons_zero, List.set_cons_succ, i64_w, i32_w]
                rfl
              refine pure_ (i := 6) (N := some 117) (v := ?_) (a' := ?_) #[true, true, true, true, true, true, true, false, false, false, false, false, false, false, false, false, false, false, false, false, false, false, false] rfl rfl (by kernel_rfl) (fun _ _ _ h => h) (Or.inl ⟨by rfl, ?_⟩) ?_ ?_
              rotate_left
              · intro w'
                go_simp
                with_reducible rfl
              rotate_left
              · simp only [Act.put, List.setIfInBounds_toArray, List.set_cons_zero, List.set_cons_succ, i64_w, i32_w]
                rfl
              refine take_ (i := 7) (N := some 118) (v := ?_) (a' := ?_) #[true, true, true, true, true, true, true, true, false, false, false, false, false, false, false, false, false, false, false, false, false, false, false] rfl rfl (by kernel_rfl) (fun _ _ _ h => h) (Or.inl ⟨by rfl, ?_⟩) hHeld ?_ ?_
              rotate_left
              · intro w' s0
                obtain ⟨s1, s2, s3⟩ := s0
                go_simp
                with_reducible rfl
              rotate_left
              · simp only [Act.put, List.setIfInBounds_toArray, List.set_cons_zero, List.set_cons_succ, i64_w, i32_w]
                rfl
              refine one_ (i := 8) (N := some 119) #[true, true, true, true, true, true, true, true, true, false, false, false, false, false, false, false, false, false, false, false, false, false, false] rfl rfl (by kernel_rfl) (by decide) (fun K hK => ?_)
              refine goes_ Try.func17 (by kernel_rfl) rfl #[.slice Aa (cv (n % 8)).length ca, .slice Ak (cv (n % 8)).length ck] (by rfl) rfl rfl (by (try simp only [List.map_toArray, List.map_cons, List.map_nil]); first | done | rfl) ?_
              refine (torrentlaw4_sameBytes.calls k Aa ca (cv (n % 8)) Ak ck (cv (n % 8)) true _ (Kd.C_drew RA.out.2.2) RA.out.2.1 (Kd.C_drew RK.out.2.2) RK.out.2.1 HCV.out.2.2).mono ?_
              rintro e wq_ ⟨rfl, ⟨nd1, rfl⟩⟩
              refine ⟨_, rfl, ?_⟩
              refine hK.out _ _ hHeld (fun hHeld => ?_)
              clear hK K
              refine norm_ (a' := ?_) ?_ ?_
              rotate_left
              · show Act.put _ (some 119) _ = _
                simp only [Act.put, List.setIfInBounds_toArray, List.set_cons_zero, List.set_cons_succ, i64_w, i32_w]
                rfl
              refine pure_ (i := 9) (N := some 120) (v := ?_) (a' := ?_) #[true, true, true, true, true, true, true, true, true, true, false, false, false, false, false, false, false, false, false, false, false, false, false] rfl rfl (by kernel_rfl) (fun _ _ _ h => h) (Or.inl ⟨by rfl, ?_⟩) ?_ ?_
              rotate_left
              · intro w'
                go_simp
                with_reducible rfl
              rotate_left
              · simp only [Act.put, List.setIfInBounds_toArray, List.set_cons_zero, List.set_cons_succ, i64_w, i32_w]
                rfl
              refine pure_ (i := 10) (N := some 121) (v := ?_) (a' := ?_) #[true, true, true, true, true, true, true, true, true, true, true, false, false, false, false, false, false, false, false, false, false, false, false] rfl rfl (by kernel_rfl) (fun _ _ _ h => h) (Or.inl ⟨by rfl, ?_⟩) ?_ ?_
              rotate_left
              · intro w'
                go_simp
                with_reducible rfl
              rotate_left
              · simp only [Act.put, List.setIfInBounds_toArray, List.set_cons_zero, List.set_cons_succ, i64_w, i32_w]
                rfl
              refine pure_ (i := 11) (N := some 122) (v := ?_) (a' := ?_) #[true, true, true, true, true, true, true, true, true, true, true, true, false, false, false, false, false, false, false, false, false, false, false] rfl rfl (by kernel_rfl) (fun _ _ _ h => h) (Or.inl ⟨by rfl, ?_⟩) ?_ ?_
              rotate_left
              · intro w'
                go_simp
                with_reducible rfl
              rotate_left
              · simp only [Act.put, List.setIfInBounds_toArray, List.set_cons_zero, List.set_cons_succ, i64_w, i32_w]
                rfl
              refine pure_ (i := 12) (N := some 123) (v := ?_) (a' := ?_) #[true, true, true, true, true, true, true, true, true, true, true, true, true, false, false, false, false, false, false, false, false, false, false] rfl rfl (by kernel_rfl) (fun _ _ _ h => h) (Or.inl ⟨by rfl, ?_⟩) ?_ ?_
              rotate_left
              · intro w'
                go_simp
                with_reducible rfl
              rotate_left
              · simp only [Act.put, List.setIfInBounds_toArray, List.set_cons_zero, List.set_cons_succ, i64_w, i32_w]
                rfl
              refine pure_ (i := 13) (N := some 124) (v := ?_) (a' := ?_) #[true, true, true, true, true, true, true, true, true, true, true, true, true, true, false, false, false, false, false, false, false, false, false] rfl rfl (by kernel_rfl) (fun _ _ _ h => h) (Or.inl ⟨by rfl, ?_⟩) ?_ ?_
              rotate_left
              · intro w'
                go_simp
                with_reducible rfl
              rotate_left
              · simp only [Act.put, List.setIfInBounds_toArray, List.set_cons_zero, List.set_cons_succ, i64_w, i32_w]
                rfl
              refine take_ (i := 14) (N := some 125) (v := ?_) (a' := ?_) #[true, true, true, true, true, true, true, true, true, true, true, true, true, true, true, false, false, false, false, false, false, false, false] rfl rfl (by kernel_rfl) (fun _ _ _ h => h) (Or.inl ⟨by rfl, ?_⟩) hHeld ?_ ?_
              rotate_left
              · intro w' s0
                obtain ⟨s1, s2, s3⟩ := s0
                go_simp
                with_reducible rfl
              rotate_left
              · simp only [Act.put, List.setIfInBounds_toArray, List.set_cons_zero, List.set_cons_succ, i64_w, i32_w]
                rfl
              refine pure_ (i := 15) (N := some 126) (v := ?_) (a' := ?_) #[true, true, true, true, true, true, true, true, true, true, true, true, true, true, true, true, false, false, false, false, false, false, false] rfl rfl (by kernel_rfl) (fun _ _ _ h => h) (Or.inl ⟨by rfl, ?_⟩) ?_ ?_
              rotate_left
              · intro w'
                go_simp
                with_reducible rfl
              rotate_left
              · simp only [Act.put, List.setIfInBounds_toArray, List.set_cons_zero, List.set_cons_succ, i64_w, i32_w]
                rfl
              refine pure_ (i := 16) (N := some 127) (v := ?_) (a' := ?_) #[true, true, true, true, true, true, true, true, true, true, true, true, true, true, true, true, true, false, false, false, false, false, false] rfl rfl (by kernel_rfl) (fun _ _ _ h => h) (Or.inl ⟨by rfl, ?_⟩) ?_ ?_
              rotate_left
              · intro w'
                go_simp
                with_reducible rfl
              rotate_left
              · simp only [Act.put, List.setIfInBounds_toArray, List.set_cons_zero, List.set_cons_succ, i64_w, i32_w]
                rfl
              refine pure_ (i := 17) (N := some 128) (v := ?_) (a' := ?_) #[true, true, true, true, true, true, true, true, true, true, true, true, true, true, true, true, true, true, false, false, false, false, false] rfl rfl (by kernel_rfl) (fun _ _ _ h => h) (Or.inl ⟨by rfl, ?_⟩) ?_ ?_
              rotate_left
              · intro w'
                go_simp
                with_reducible rfl
              rotate_left
              · simp only [Act.put, List.setIfInBounds_toArray, List.set_cons_zero, List.set_cons_succ, i64_w, i32_w]
                rfl
              refine pure_ (i := 18) (N := some 129) (v := ?_) (a' := ?_) #[true, true, true, true, true, true, true, true, true, true, true, true, true, true, true, true, true, true, true, false, false, false, false] rfl rfl (by kernel_rfl) (fun _ _ _ h => h) (Or.inl ⟨by rfl, ?_⟩) ?_ ?_
              rotate_left
              · intro w'
                go_simp
                with_reducible rfl
              rotate_left
              · simp only [Act.put, List.setIfInBounds_toArray, List.set_cons_zero, List.set_cons_succ, i64_w, i32_w]
                rfl
              refine take_ (i := 19) (N := some 130) (v := ?_) (a' := ?_) #[true, true, true, true, true, true, true, true, true, true, true, true, true, true, true, true, true, true, true, true, false, false, false] rfl rfl (by kernel_rfl) (fun _ _ _ h => h) (Or.inl ⟨by rfl, ?_⟩) hHeld ?_ ?_
              rotate_left
              · intro w' s0
                obtain ⟨s1, s2, s3⟩ := s0
                go_simp
                with_reducible rfl
              rotate_left
              · simp only [Act.put, List.setIfInBounds_toArray, List.set_cons_zero, List.set_cons_succ, i64_w, i32_w]
                rfl
              refine one_ (i := 20) (N := some 131) #[true, true, true, true, true, true, true, true, true, true, true, true, true, true, true, true, true, true, true, true, true, false, false] rfl rfl (by kernel_rfl) (by decide) (fun K hK => ?_)
              refine goes_ Try.func17 (by kernel_rfl) rfl #[.slice Aa (cv (n % 8)).length ca, .slice Am (cv (n % 8)).length cm] (by rfl) rfl rfl (by (try simp only [List.map_toArray, List.map_cons, List.map_nil]); first | done | rfl) ?_
              refine (torrentlaw4_sameBytes.calls k Aa ca (cv (n % 8)) Am cm (cv (n % 8)) true _ (Kd.C_drewN (Kd.C_drew RA.out.2.2) _) RA.out.2.1 (Kd.C_drewN (Kd.C_drew RM.out.2.2) _) RM.out.2.1 HCV.out.2.2).mono ?_
              rintro e wq_ ⟨rfl, ⟨nd2, rfl⟩⟩
              refine ⟨_, rfl, ?_⟩
              refine hK.out _ _ hHeld (fun hHeld => ?_)
              clear hK K
              refine norm_ (a' := ?_) ?_ ?_
              rotate_left
              · show Act.put _ (some 131) _ = _
                simp only [Act.put, List.setIfInBounds_toArray, List.set_cons_zero, List.set_cons_succ, i64_w, i32_w]
                rfl
              refine pure_ (i := 21) (N := some 132) (v := ?_) (a' := ?_) #[true, true, true, true, true, true, true, true, true, true, true, true, true, true, true, true, true, true, true, true, true, true, false] rfl rfl (by kernel_rfl) (fun _ _ _ h => h) (Or.inl ⟨by rfl, ?_⟩) ?_ ?_
              rotate_left
              · intro w'
                go_simp
                with_reducible rfl
              rotate_left
              · simp only [Act.put, List.setIfInBounds_toArray, List.set_cons_zero, List.set_cons_succ, i64_w, i32_w]
                rfl
              refine pure_ (i := 22) (N := some 133) (v := ?_) (a' := ?_) #[true, true, true, true, true, true, true, true, true, true, true, true, true, true, true, true, true, true, true, true, true, true, true] rfl rfl (by kernel_rfl) (fun _ _ _ h => h) (Or.inl ⟨by rfl, ?_⟩) ?_ ?_
              rotate_left
              · intro w'
                go_simp
                with_reducible rfl
              rotate_left
              · simp only [Act.put, List.setIfInBounds_toArray, List.set_cons_zero, List.set_cons_succ, i64_w, i32_w]
                rfl
              refine done_ (by kernel_rfl) ?_
              clear hA1 hK1 hM1 hHeld
              go_wp2
              go_roundw
              case rel => exact ⟨n + 1, by first | rfl | rw [kinc n (Nat.lt_trans HLT.out (by decide))], HLT.out, ⟨HI.out.below (pw_below_drewN (Below.refl _ _) _) (fun _ _ => rfl)⟩, ⟨pw_below_drewN HB.out _⟩⟩
              case measure => exact kmeas1 HLT.out
            · have hjl : decide ((n : Int) < 24) = false := dge hlt
              have hjp : ¬ (n : Int) < 24 := fun h => hlt (Int.ofNat_lt.mp h)
              clear hn hlt
              obtain ⟨Ad, cc, hcA, hrows, hgl, hgt⟩ := HI.out.forApart
              have HAP := Aside0.mk (And.intro hcA (And.intro hrows (And.intro hgl hgt)))
              clear hcA hrows hgl hgt
              go_wp2_with (first
                | ((with_reducible refine gate_callee (f := 52) rfl ?_); refine goesL_ (some 135) rfl rfl Try.func52 (by kernel_rfl) rfl #[.slice (some ⟨gA, 0, none⟩) 24 cA] rfl (by (try simp only [List.map_toArray, List.map_cons, List.map_nil]); first | done | rfl) ?_; (refine (apart_true f 24 w.heap.size gA cA Ad (fun j => (cv (j % 8)).length) cc _ (fun j => cv (j % 8)) (by decide) HAP.out.1 HAP.out.2.2 HAP.out.2.1 (fun j _ => (HQ.out.hcv _ (Nat.mod_lt j (by decide : 0 < 8))).1) HB.out.size).mono ?_); rintro e wz ⟨rfl, hb, hfr⟩; refine ⟨_, rfl, ?_⟩
                   have HI2 := Aside0.mk (HI.out.after hfr hb.size)
                   have HB2 := Aside0.mk (HB.out.trans hb)
                   clear hb hfr HI HB HAP
                   have HI := HI2
                   have HB := HB2
                   clear HI2 HB2))
              clear hjl hjp
              go_loopw [23] (fun i W => ∃ (n : Nat), i = .int .i64 n ∧ n ≤ 8 ∧ Aside0 (KI cv l1 l2 (.slice (some ⟨gx, 0, none⟩) (l1.length + 2) cx) (.slice (some ⟨gy, 0, none⟩) (l2.length + 2) cy) w.heap.size f W 0 24 [] LK (.slice none 0 0) (.slice (some ⟨gK, 0, none⟩) 24 cK)) ∧ Aside0 (Below w.heap.size w W)) (fun i _ => 8 - (intOf i).toNat)
              case atStart => exact ⟨0, rfl, Nat.zero_le _, HI, HB⟩
              case round =>
                clear HI HB
                obtain ⟨n, rfl, hn, HI, HB⟩ := hrel
                by_cases hlt : n < 8
                · have hjl : decide ((n : Int) < 8) = true := dlt hlt
                  have hjp : (n : Int) < 8 := Int.ofNat_lt.mpr hlt
                  have HLT := Aside0.mk hlt
                  clear hn hlt
                  go_wp2
                  obtain ⟨wd, hd, HI2, HB2⟩ : ∃ wd, wr.drew = wd ∧ Aside0 (KI cv l1 l2 (.slice (some ⟨gx, 0, none⟩) (l1.length + 2) cx) (.slice (some ⟨gy, 0, none⟩) (l2.length + 2) cy) w.heap.size f wd 0 24 [] LK (.slice none 0 0) (.slice (some ⟨gK, 0, none⟩) 24 cK)) ∧ Aside0 (Below w.heap.size w wd) := ⟨_, rfl, ⟨HI.out.below (below_drew (Below.refl _ _)) (fun _ _ => rfl)⟩, ⟨below_drew HB.out⟩⟩
                  clear HI HB
                  refine start_ (n := 11) (S := fun _ => True) (ds := []) #[false, false, false, false, false, false, false, false, false, false, false] (by kernel_rfl) rfl rfl (trivial) (fun hHeld => ?_)
                  rw [hd]
                  clear hd
                  refine pure_ (i := 0) (N := some 141) (v := ?_) (a' := ?_) #[true, false, false, false, false, false, false, false, false, false, false] rfl rfl (by kernel_rfl) (fun _ _ _ h => h) (Or.inl ⟨by rfl, ?_⟩) ?_ ?_
                  rotate_left
                  · intro w'
                    go_simp
                    with_reducible rfl
                  rotate_left
                  · simp only [Act.put, List.setIfInBounds_toArray, List.set_cons_zero, List.set_cons_succ, i64_w, i32_w]
                    rfl
                  refine pure_ (i := 1) (N := some 142) (v := ?_) (a' := ?_) #[true, true, false, false, false, false, false, false, false, false, false] rfl rfl (by kernel_rfl) (fun _ _ _ h => h) (Or.inl ⟨by rfl, ?_⟩) ?_ ?_
                  rotate_left
                  · intro w'
                    go_simp
                    with_reducible rfl
                  rotate_left
                  · simp only [Act.put, List.setIfInBounds_toArray, List.set_cons_zero, List.set_cons_succ, i64_w, i32_w]
                    rfl
                  refine pure_ (i := 2) (N := some 143) (v := ?_) (a' := ?_) #[true, true, true, false, false, false, false, false, false, false, false] rfl rfl (by kernel_rfl) (fun _ _ _ h => h) (Or.inl ⟨by rfl, ?_⟩) ?_ ?_
                  rotate_left
                  · intro w'
                    go_simp
                    with_reducible rfl
                  rotate_left
                  · simp only [Act.put, List.setIfInBounds_toArray, List.set_cons_zero, List.set_cons_succ, i64_w, i32_w]
                    rfl
                  refine pure_ (i := 3) (N := some 144) (v := ?_) (a' := ?_) #[true, true, true, true, false, false, false, false, false, false, false] rfl rfl (by kernel_rfl) (fun _ _ _ h => h) (Or.inl ⟨by rfl, ?_⟩) ?_ ?_
                  rotate_left
                  · intro w'
                    go_simp
                    with_reducible rfl
                  rotate_left
                  · simp only [Act.put, List.setIfInBounds_toArray, List.set_cons_zero, List.set_cons_succ, i64_w, i32_w]
                    rfl
                  refine pure_ (i := 4) (N := some 145) (v := ?_) (a' := ?_) #[true, true, true, true, true, false, false, false, false, false, false] rfl rfl (by kernel_rfl) (fun _ _ _ h => h) (Or.inl ⟨by rfl, ?_⟩) ?_ ?_
                  rotate_left
                  · intro w'
                    go_simp
                    with_reducible rfl
                  rotate_left
                  · simp only [Act.put, List.setIfInBounds_toArray, List.set_cons_zero, List.set_cons_succ, i64_w, i32_w]
                    rfl
                  refine pure_ (i := 5) (N := some 146) (v := ?_) (a' := ?_) #[true, true, true, true, true, true, false, false, false, false, false] rfl rfl (by kernel_rfl) (fun _ _ _ h => h) (Or.inl ⟨by rfl, ?_⟩) ?_ ?_
                  rotate_left
                  · intro w'
                    go_simp
                    with_reducible rfl
                  rotate_left
                  · simp only [Act.put, List.setIfInBounds_toArray, List.set_cons_zero, List.set_cons_succ, i64_w, i32_w]
                    rfl
                  refine pure_ (i := 6) (N := some 147) (v := ?_) (a' := ?_) #[true, true, true, true, true, true, true, false, false, false, false] rfl rfl (by kernel_rfl) (fun _ _ _ h => h) (Or.inl ⟨by rfl, ?_⟩) ?_ ?_
                  rotate_left
                  · intro w'
                    go_simp
                    with_reducible rfl
                  rotate_left
                  · simp only [Act.put, List.setIfInBounds_toArray, List.set_cons_zero, List.set_cons_succ, i64_w, i32_w]
                    rfl
                  refine pure_ (i := 7) (N := some 148) (v := ?_) (a' := ?_) #[true, true, true, true, true, true, true, true, false, false, false] rfl rfl (by kernel_rfl) (fun _ _ _ h => h) (Or.inl ⟨by rfl, ?_⟩) ?_ ?_
                  rotate_left
                  · intro w'
                    go_simp
                    with_reducible rfl
                  rotate_left
                  · simp only [Act.put, List.setIfInBounds_toArray, List.set_cons_zero, List.set_cons_succ, i64_w, i32_w]
                    rfl
                  refine pure_ (i := 8) (N := some 149) (v := ?_) (a' := ?_) #[true, true, true, true, true, true, true, true, true, false, false] rfl rfl (by kernel_rfl) (fun _ _ _ h => h) (Or.inl ⟨by rfl, ?_⟩) ?_ ?_
                  rotate_left
                  · intro w'
                    go_simp
                    with_reducible rfl
                  rotate_left
                  · simp only [Act.put, List.setIfInBounds_toArray, List.set_cons_zero, List.set_cons_succ, i64_w, i32_w]
                    rfl
                  refine one_ (i := 9) (N := some 150) #[true, true, true, true, true, true, true, true, true, true, false] rfl rfl (by kernel_rfl) (by decide) (fun K hK => ?_)
                  refine goes_ Try.func51 (by kernel_rfl) rfl #[.int .i64 (n : Int), .int .i64 a0, .slice (some ⟨gx, 0, none⟩) l1.length cx, .slice (some ⟨gy, 0, none⟩) l1.length cy, .int .i64 a3] (by rfl) rfl rfl (by (try simp only [List.map_toArray, List.map_cons, List.map_nil]); first | done | rfl) ?_
                  rw [show (Value.slice (some ⟨gy, 0, none⟩) l1.length cy) = .slice (some ⟨gy, 0, none⟩) l2.length cy by rw [HQ.out.hll]]
                  refine (torrentlaw4_call.calls k (n : Int) a0 (some ⟨gx, 0, none⟩) cx l1 (some ⟨gy, 0, none⟩) cy l2 a3 (cv n) _ (cut_reads HI2.out.hx).1 (cut_reads HI2.out.hx).2 (cut_reads HI2.out.hy).1 (cut_reads HI2.out.hy).2 (HQ.out.hcall _ HLT.out)).mono ?_
                  rintro e w29 ⟨vp, rfl, ho, hb⟩
                  refine ⟨_, rfl, ?_⟩
                  obtain ⟨Ap, cp, rfl⟩ := Kd.R_slice ho
                  have HI := Aside0.mk (HI2.out.below (f' := f) hb (fun _ _ => rfl))
                  have RP := Aside0.mk (Kd.R_reads' ho)
                  have HB := Aside0.mk (below_step HB2.out hb)
                  clear ho hb HI2 HB2
                  refine hK.out _ _ trivial (fun hHeld => ?_)
                  clear hK K
                  refine norm_ (a' := ?_) ?_ ?_
                  rotate_left
                  · show Act.put _ (some 150) _ = _
                    simp only [Act.put, List.setIfInBounds_toArray, List.set_cons_zero, List.set_cons_succ, i64_w, i32_w]
                    rfl
                  refine pure_ (i := 10) (N := some 24) (v := ?_) (a' := ?_) #[true, true, true, true, true, true, true, true, true, true, true] rfl rfl (by kernel_rfl) (fun _ _ _ h => h) (Or.inl ⟨by rfl, ?_⟩) ?_ ?_
                  rotate_left
                  · intro w'
                    go_simp
                    with_reducible rfl
                  rotate_left
                  · simp only [Act.put, List.setIfInBounds_toArray, List.set_cons_zero, List.set_cons_succ, i64_w, i32_w]
                    rfl
                  refine done_ (by kernel_rfl) ?_
                  obtain ⟨gK', cK', eK, hcK⟩ := raw_all HI.out.rK HI.out.lenK (by decide : 0 < 24)
                  injection eK with eK1 _ ec1
                  subst ec1
                  injection eK1 with eK1
                  injection eK1 with eK1 _ _
                  subst eK1
                  obtain ⟨Ak, ck, ek, rk⟩ := HI.out.hK n (Nat.lt_trans HLT.out (by decide))
                  rw [Nat.mod_eq_of_lt HLT.out] at ek rk
                  have hK1 : w29.cell? ⟨gK, n, none⟩ = some (.slice Ak (cv n).length ck) := (hcK n (Nat.lt_trans HLT.out (by decide))).trans ek
                  have RK := Aside0.mk (Kd.R_reads' rk)
                  obtain ⟨hx1, hx2⟩ := marks_at HI.out.hx
                  obtain ⟨hy1, hy2⟩ := marks_at HI.out.hy
                  rw [← HQ.out.hll] at hy1 hy2
                  have HCV := Aside0.mk (HQ.out.hcv n HLT.out)
                  have hn0 := eq_true (Int.natCast_nonneg n)
                  have hn24 := eq_true (lt24 HLT.out)
                  have hl2 := eq_true (ltp2 l1.length)
                  have hl3 := eq_true (ltp3 l1.length)
                  have hl4 := eq_true (Int.natCast_nonneg (l1.length + 1))
                  have hb1 := eq_true (lty1 HQ.out.hll)
                  have hb2 := eq_true (lty2 HQ.out.hll)
                  have hw1 := kinc l1.length (lt64' HQ.out.hM1)
                  clear hcK ek rk hHeld hjl hjp
                  have tok1 : True := trivial
                  go_wp2_with (first
                    | ((with_reducible refine gate_callee (f := 17) rfl ?_); refine goesL_ (some 156) rfl rfl Try.func17 (by kernel_rfl) rfl #[.slice Ap (cv n).length cp, .slice Ak (cv n).length ck] rfl (by (try simp only [List.map_toArray, List.map_cons, List.map_nil]); first | done | rfl) ?_; (refine (torrentlaw4_sameBytes.calls k Ap cp (cv n) Ak ck (cv n) true _ RP.out.2.2 RP.out.2.1 RK.out.2.2 RK.out.2.1 HCV.out.2.2).mono ?_); rintro e wq ⟨rfl, ⟨nd1, rfl⟩⟩; refine ⟨_, rfl, ?_⟩)
                    | (go_at_call 17; have _t := tok1; ((refine (torrentlaw4_sameBytes.calls k (some ⟨gx, 0, none⟩) cx l1 A1 c1 l1 true (w29.drewN nd1) (Kd.C_drewN (cut_reads HI.out.hx).1 _) (cut_reads HI.out.hx).2 (Kd.C_drewN (Kd.C_below HR1.out HB.out) _) HC1.out HQ.out.hs1).mono ?_); rintro e wq ⟨rfl, ⟨nd2, rfl⟩⟩; clear tok1 _t))
                    | (go_at_call 17; ((refine (sameBytes_n k (some ⟨gy, 0, none⟩) cy l1.length l2 A2 c2 l2 true (w29.drewN (nd1 + nd2)) HQ.out.hll (Kd.C_drewN (cut_reads HI.out.hy).1 _) (cut_reads HI.out.hy).2 (Kd.C_drewN (Kd.C_below HR2.out HB.out) _) HC2.out HQ.out.hs2).mono ?_); rintro e wq ⟨rfl, ⟨nd3, rfl⟩⟩)))
                  go_roundw
                  case rel => exact ⟨n + 1, by first | rfl | rw [kinc n (Nat.lt_trans HLT.out (by decide))], HLT.out, ⟨HI.out.below (pw_below_drewN (Below.refl _ _) _) (fun _ _ => rfl)⟩, ⟨pw_below_drewN HB.out _⟩⟩
                  case measure => (first | exact kmeas1 HLT.out | (rw [kinc n (Nat.lt_trans HLT.out (by decide))]; exact kmeas HLT.out))
                · have hjl : decide ((n : Int) < 8) = false := dge hlt
                  have hjp : ¬ (n : Int) < 8 := fun h => hlt (Int.ofNat_lt.mp h)
                  clear hn hlt HI
                  go_wp2_with (first
                    | ((with_reducible refine gate_callee (f := 53) rfl ?_); refine goesL_ (some 207) rfl rfl Try.func53 (by kernel_rfl) rfl #[.int .i64 a0, .slice A1 l1.length c1, .slice A2 l2.length c2] rfl (by (try simp only [List.map_toArray, List.map_cons, List.map_nil]); first | done | rfl) ?_; (refine (torrentlaw4_lists.calls k a0 A1 c1 l1 A2 c2 l2 true _ (Kd.C_below HR1.out HB.out) HC1.out (Kd.C_below HR2.out HB.out) HC2.out HQ.out.hli).mono ?_); rintro e wl ⟨rfl, hb⟩; refine ⟨_, rfl, ?_⟩; have HB2 := Aside0.mk (below_step HB.out hb); clear HB hb; have HB := HB2; clear HB2)
                    | (go_at_call 54; refine (torrentlaw4_stale.calls k a0 A1 c1 l1 A2 c2 l2 true _ (Kd.C_below HR1.out HB.out) HC1.out (Kd.C_below HR2.out HB.out) HC2.out HQ.out.hst).mono ?_; rintro e ws ⟨rfl, hb⟩; have HB2 := Aside0.mk (below_step HB.out hb); clear HB hb; have HB := HB2; clear HB2)
                    | (go_at_call 55; refine (torrentlaw4_anew.calls k a0 A1 c1 l1 A2 c2 l2 a3 true _ (Kd.C_below HR1.out HB.out) HC1.out (Kd.C_below HR2.out HB.out) HC2.out HQ.out.han).mono ?_; rintro e wn ⟨rfl, hb⟩; have HB2 := Aside0.mk (below_step HB.out hb); clear HB hb; have HB := HB2; clear HB2))
                  go_ret
                  exact ⟨rfl, HB.out⟩
    · have h2b : (e2 != 0) = true := by simpa using h2
      obtain ⟨e, he⟩ := HNO.out (.inr h2)
      have HAND := Aside0.mk he
      clear he
      go_wp2_with (first
        | ((with_reducible refine gate_callee (f := 48) rfl ?_); refine goesL_ (some 55) rfl rfl Try.func48 (by kernel_rfl) rfl #[.int .i64 a0, .slice A1 l1.length c1] rfl (by (try simp only [List.map_toArray, List.map_cons, List.map_nil]); first | done | rfl) ?_; (refine (bitset_Check.calls k a0 A1 c1 l1 e1 _ (Kd.C_below HR1.out HB.out) HC1.out HK.out.h1).mono ?_); rintro e w55 ⟨rfl, hd⟩; refine ⟨_, rfl, ?_⟩; have hb := drawn_below hd; have n0_ := Aside0.mk (below_step HB.out hb); clear HB hd hb ; have HB := n0_; clear n0_)
        | (go_at_call 48; refine (bitset_Check.calls k a0 A2 c2 l2 e2 _ (Kd.C_below HR2.out HB.out) HC2.out HK.out.h2).mono ?_; rintro e wg48 ⟨rfl, hd⟩; have hb := drawn_below hd; have n0_ := Aside0.mk (below_step HB.out hb); clear HB hd hb ; have HB := n0_; clear n0_)
        | ((with_reducible refine gate_callee (f := 38) rfl ?_); refine goesL_ (some 67) rfl rfl Try.func38 (by kernel_rfl) rfl #[.int .i64 a0, .slice A1 l1.length c1, .slice A2 l2.length c2] rfl (by (try simp only [List.map_toArray, List.map_cons, List.map_nil]); first | done | rfl) ?_; (with_reducible refine (bitset_And.calls k a0 A1 c1 l1 A2 c2 l2 [] _ _ (Kd.C_below HR1.out HB.out) HC1.out (Kd.C_below HR2.out HB.out) HC2.out HAND.out).mono ?_); rintro e w67 ⟨v67, rfl, ho, hb⟩; refine ⟨_, rfl, ?_⟩; have n0_ := Aside0.mk (below_step HB.out hb); have n1_ := Aside0.mk ho; clear HB hb ho ; have HB := n0_; have H67 := n1_; clear n0_ n1_; obtain ⟨A67, c67, eo⟩ := Kd.R_slice H67.out; subst eo))
      go_ret
      exact ⟨rfl, HB.out⟩
  · have h1b : (e1 != 0) = true := by simpa using h1
    obtain ⟨e, he⟩ := HNO.out (.inl h1)
    have HAND := Aside0.mk he
    clear he
    go_wp2_with (first
      | ((with_reducible refine gate_callee (f := 48) rfl ?_); refine goesL_ (some 55) rfl rfl Try.func48 (by kernel_rfl) rfl #[.int .i64 a0, .slice A1 l1.length c1] rfl (by (try simp only [List.map_toArray, List.map_cons, List.map_nil]); first | done | rfl) ?_; (refine (bitset_Check.calls k a0 A1 c1 l1 e1 _ (Kd.C_below HR1.out HB.out) HC1.out HK.out.h1).mono ?_); rintro e w55 ⟨rfl, hd⟩; refine ⟨_, rfl, ?_⟩; have hb := drawn_below hd; have n0_ := Aside0.mk (below_step HB.out hb); clear HB hd hb ; have HB := n0_; clear n0_)
      | (go_at_call 48; refine (bitset_Check.calls k a0 A2 c2 l2 e2 _ (Kd.C_below HR2.out HB.out) HC2.out HK.out.h2).mono ?_; rintro e wg48 ⟨rfl, hd⟩; have hb := drawn_below hd; have n0_ := Aside0.mk (below_step HB.out hb); clear HB hd hb ; have HB := n0_; clear n0_)
      | ((with_reducible refine gate_callee (f := 38) rfl ?_); refine goesL_ (some 67) rfl rfl Try.func38 (by kernel_rfl) rfl #[.int .i64 a0, .slice A1 l1.length c1, .slice A2 l2.length c2] rfl (by (try simp only [List.map_toArray, List.map_cons, List.map_nil]); first | done | rfl) ?_; (with_reducible refine (bitset_And.calls k a0 A1 c1 l1 A2 c2 l2 [] _ _ (Kd.C_below HR1.out HB.out) HC1.out (Kd.C_below HR2.out HB.out) HC2.out HAND.out).mono ?_); rintro e w67 ⟨v67, rfl, ho, hb⟩; refine ⟨_, rfl, ?_⟩; have n0_ := Aside0.mk (below_step HB.out hb); have n1_ := Aside0.mk ho; clear HB hb ho ; have HB := n0_; have H67 := n1_; clear n0_ n1_; obtain ⟨A67, c67, eo⟩ := Kd.R_slice H67.out; subst eo))
    go_ret
    exact ⟨rfl, HB.out⟩
end Go.Proofs.Ytoohpdamndgdlaa.P


/- BitsetKept: what the walk of the law asks of the plain functions, and, with it, that the law returns true. No condition. -/
set_option linter.unusedVariables false
namespace Go.Proofs.Ytoohpdamndgdlaa.Pure
open Go.RowKit Go.Proofs.Ytoohpdamndgdlaa.P Go.Proofs.YtoohpdamndgdlaaW.PrintWords Go.Proofs.YtoohpdamndgdlaaW.PrintLast
open Go.Proofs.Ytoohpdamndgdlaa.B
theorem evAll {P : Nat → Nat → Prop} (h : ∀ j, ∃ K, ∀ k, K ≤ k → P j k) : ∀ N, ∃ K, ∀ k, K ≤ k → ∀ j, j < N → P j k
  | 0 => ⟨0, fun _ _ j hj => absurd hj (Nat.not_lt_zero _)⟩
  | N + 1 => by
    obtain ⟨K, hK⟩ := evAll h N
    obtain ⟨K', hK'⟩ := h N
    refine ⟨K + K', fun k hk j hj => ?_⟩
    by_cases e : j = N
    · subst e
      exact hK' k (by omega)
    · exact hK k (by omega) j (by omega)
theorem of_nine : Ev (fun k => bitset_Of.f k 9 [8, 0]) ([128, 128], 0) := Ev.of (fun k => bitset_Of.mono _ _ k) (k := 20) (by kernel_rfl)
theorem ones_nine : Ev (fun k => bitset_Ones.f k 9 [129, 128]) ([0, 7, 8], 0) := Ev.of (fun k => bitset_Ones.mono _ _ k) (k := 20) (by kernel_rfl)
theorem first_at (n : Int) (l1 l2 : List Int) (e1 e2 : Int) (h1 : Ev (fun k => bitset_Check.f k n l1) e1) (h2 : Ev (fun k => bitset_Check.f k n l2) e2) : ∃ K, ∀ k, K ≤ k → First k n l1 l2 e1 e2 := by
  obtain ⟨K1, g1⟩ := of_nine
  obtain ⟨K2, g2⟩ := ones_nine
  obtain ⟨K3, g3⟩ := sameBytes_f [128, 128] (by decide)
  obtain ⟨K4, g4⟩ := sameI_f [0, 7, 8] (by decide)
  obtain ⟨K5, g5⟩ := h1
  obtain ⟨K6, g6⟩ := h2
  exact ⟨K1 + K2 + K3 + K4 + K5 + K6, fun k hk => ⟨g1 k (by omega), g2 k (by omega), g3 k (by omega), g4 k (by omega), g5 k (by omega), g6 k (by omega)⟩⟩
theorem rest_at {m : Nat} {a b : List Int} (ha : Fit m a) (hb : Fit m b) (x : Int) : ∃ cv K, ∀ k, K ≤ k → Go.Proofs.Ytoohpdamndgdlaa.P.Rest k (m : Int) x a b cv := by
  obtain ⟨cv, hs⟩ := Classical.axiomOfChoice (fun j : Nat => call_ok ha hb x (j : Int))
  refine ⟨cv, ?_⟩
  obtain ⟨K1, g1⟩ := evAll (P := fun j k => torrentlaw4_call.f k (j : Int) (m : Int) a b x = some (cv j)) (fun j => (hs j).1) 8
  obtain ⟨K2, g2⟩ := evAll (P := fun j k => torrentlaw4_copied.f k (cv j) = some (cv j)) (fun j => copied_f (cv j) (by have := (hs j).2; omega)) 8
  obtain ⟨K3, g3⟩ := evAll (P := fun j k => torrentlaw4_sameBytes.f k (cv j) (cv j) = some true) (fun j => sameBytes_f (cv j) (by have := (hs j).2; omega)) 8
  obtain ⟨K4, g4⟩ := ha.copied
  obtain ⟨K5, g5⟩ := hb.copied
  obtain ⟨K6, g6⟩ := ha.same
  obtain ⟨K7, g7⟩ := hb.same
  obtain ⟨K8, g8⟩ := lists_ok ha hb
  obtain ⟨K9, g9⟩ := stale_ok ha hb
  obtain ⟨K10, g10⟩ := anew_ok ha hb x
  have hla := ha.len
  have hlb := hb.len
  exact ⟨K1 + K2 + K3 + K4 + K5 + K6 + K7 + K8 + K9 + K10, fun k hk => {
    hll := by rw [ha.hl, hb.hl]
    hM1 := by omega
    hM2 := by omega
    hc1 := g4 k (by omega)
    hc2 := g5 k (by omega)
    hs1 := g6 k (by omega)
    hs2 := g7 k (by omega)
    hcall := fun j hj => g1 k (by omega) j hj
    hcv := fun j hj => ⟨by have := (hs j).2; omega, g2 k (by omega) j hj, g3 k (by omega) j hj⟩
    hli := g8 k (by omega)
    hst := g9 k (by omega)
    han := g10 k (by omega) }⟩
theorem no_at {n : Int} {a b : List Int} {e1 e2 : Int} {k : Nat} (h1 : bitset_Check.f k n a = some e1) (h2 : bitset_Check.f k n b = some e2) (h : e1 ≠ 0 ∨ e2 ≠ 0) : ∃ e, bitset_And.f k n a b = some ([], e) := by
  unfold bitset_And.f bitset_both.f
  rw [h1]
  simp only [Option.bind_some]
  by_cases h0 : e1 = 0
  · rw [if_pos h0, h2]
    simp only [Option.bind_some]
    rw [if_neg (h.elim (fun h => absurd h0 h) id)]
    exact ⟨_, rfl⟩
  · rw [if_neg h0]
    simp only [Option.bind_some]
    rw [if_neg h0]
    exact ⟨_, rfl⟩
theorem BitsetKept (a0 : Int) (a1 : Option Addr) (len1 cap1 : Nat) (z1 : List Int) (a2 : Option Addr) (len2 cap2 : Nat) (z2 : List Int) (a3 : Int) (w : World)
    (w1 : (a1 = none ∧ len1 = 0 ∧ cap1 = 0 ∧ z1 = []) ∨ ∃ x, a1 = some x ∧ len1 ≤ cap1 ∧ cap1 ≤ maxLen ∧ z1.length = cap1 ∧ (∀ i, i < z1.length → w.cell? (x.add i) = some (.int .u8 (z1.getD i 0))) ∧ ∀ n ∈ z1, (Lit.int .u8 n).wf = true) (y1 : len1 * 1 ≤ 140737488351232)
    (w2 : (a2 = none ∧ len2 = 0 ∧ cap2 = 0 ∧ z2 = []) ∨ ∃ x, a2 = some x ∧ len2 ≤ cap2 ∧ cap2 ≤ maxLen ∧ z2.length = cap2 ∧ (∀ i, i < z2.length → w.cell? (x.add i) = some (.int .u8 (z2.getD i 0))) ∧ ∀ n ∈ z2, (Lit.int .u8 n).wf = true) (y2 : len2 * 1 ≤ 140737488351232) :
    Calls Try.prog 14 #[.int .i64 a0, .slice a1 len1 cap1, .slice a2 len2 cap2, .int .i64 a3] w fun e w' => e = .returned (.bool true) ∧ Below w.heap.size w w' := by
  obtain ⟨l1, rfl, hr1, hm1, hw1, hc1⟩ := ReadsInt.ofRowC w1
  obtain ⟨l2, rfl, hr2, hm2, hw2, hc2⟩ := ReadsInt.ofRowC w2
  obtain ⟨e1, g1⟩ := check_any a0 l1 (IsB.of_wf hw1) (by omega)
  obtain ⟨e2, g2⟩ := check_any a0 l2 (IsB.of_wf hw2) (by omega)
  obtain ⟨K, hK⟩ := first_at a0 l1 l2 e1 e2 g1 g2
  have C1 := Kd.C_of_reads (d := (0 : Int)) (h1 := fun _ => rfl) hr1
  have C2 := Kd.C_of_reads (d := (0 : Int)) (h1 := fun _ => rfl) hr2
  by_cases hb : e1 = 0 ∧ e2 = 0
  · obtain ⟨rfl, rfl⟩ := hb
    obtain ⟨m, rfl, hm, hl1⟩ := check_ok g1
    obtain ⟨m', em, _, hl2⟩ := check_ok g2
    obtain rfl : m = m' := by omega
    obtain ⟨cv, K', hK'⟩ := rest_at ⟨hm, IsB.of_wf hw1, hl1, g1⟩ ⟨hm, IsB.of_wf hw2, hl2, g2⟩ a3
    exact kept_true (K + K') (m : Int) a3 a1 cap1 l1 a2 cap2 l2 w 0 0 cv C1 hc1 C2 hc2 (hK _ (by omega)) (fun _ _ => hK' _ (by omega)) (fun h => by rcases h with h | h <;> exact absurd rfl h)
  · have hf := hK K (Nat.le_refl _)
    exact kept_true K a0 a3 a1 cap1 l1 a2 cap2 l2 w e1 e2 (fun _ => []) C1 hc1 C2 hc2 hf (fun h1 h2 => absurd ⟨h1, h2⟩ hb) (fun h => no_at hf.h1 hf.h2 h)
end Go.Proofs.Ytoohpdamndgdlaa.Pure

