-- Merged by a program of this session out of the texts HOnes, Px38, Px55, Pd56 of this claim's own.
import Derived.Test.YtoohpdamndgdlaaZBitsetTwoWay0
import Derived.RangeFuncWrites
import Derived.RangeFuncBox
import Derived.Maps.AppendAt

/- bitset.Ones, a loop over Walk that collects: the places the walk yields, and Check's answer. Condition: at most 65536 places. -/
set_option linter.unusedVariables false
namespace Go.Proofs.Ytoohpdamndgdlaa.P
open Go.RowKit Go.Proofs.YtoohpdamndgdlaaW.PrintWords Go.Proofs.YtoohpdamndgdlaaW.PrintLast Go.Proofs.YtoohpdamndgdlaaW.PrintMore Go.Proofs.Ytoohpdamndgdlaa.B
attribute [local go_sem] Oper.semAt_some

/-- 'list = append(list, ..)' in a loop over a walk: what the round owes, the list's box ahead of the walk's blocks, its row behind them. -/
theorem appended2 {w W w1 : World} {lo hi B : Nat} {t e : TypeId} {size : Nat} {v v' : Value} {k m : Nat} {xs ys : List Value} {tmp : Obj}
    (hv : Boxed W B t v) (hte : t ≠ e) (hrow : W.ownsRow hi e size v k xs) (hb1 : w.heap.size ≤ B) (hb2 : B < lo) (hb3 : w.heap.size ≤ hi) (hhi : hi ≤ W.heap.size) (hw : w.heap.size ≤ W.heap.size)
    (hown' : w1.ownsRow hi e size v' m ys) (hgrow : (W.alloc tmp).grownBy w1 v.ownBlock) :
    Boxed w1 B t v ∧ Boxed (w1.setCell ⟨B, 0, none⟩ v') B t v' ∧ (w1.setCell ⟨B, 0, none⟩ v').ownsRow hi e size v' m ys ∧ KeepsOthers W (w1.setCell ⟨B, 0, none⟩ v') ∧ Below w.heap.size W (w1.setCell ⟨B, 0, none⟩ v') ∧ Keeps lo hi W (w1.setCell ⟨B, 0, none⟩ v') := by
  have hv1 : Boxed w1 B t v := (hv.alloc tmp).kept hgrow (hv.not_row hte hrow)
  have hrb : ∀ j, v.ownBlock = some j → hi ≤ j := fun j ej => own_base hrow j ej
  refine ⟨hv1, hv1.set v', hown'.kept (grownBy_setCell' w1 B v') (.inr (hv1.not_row hte hown').symm), ?_, ?_, ?_⟩
  · refine ((KeepsOthers.alloc W tmp).trans (KeepsOthers.of_grownBy hgrow fun j o ej hj => ?_)).trans (KeepsOthers.setCell _ _ _)
    rcases (hrow.alloc tmp).2 with ⟨rfl, _⟩ | ⟨g, cap, cur, rfl, _, hgb, _⟩
    · simp [Value.ownBlock] at ej
    · obtain rfl : g = j := by simpa [Value.ownBlock] using ej
      rw [hgb] at hj; cases hj; rfl
  · exact (((Below.refl w.heap.size W).alloc hw tmp).grown hgrow (by simp; omega) fun j ej => Nat.le_trans hb3 (hrb j ej)).setCell (p := ⟨B, 0, none⟩) hb1 v'
  · intro b h1 h2
    rw [Below.heap_setCell _ _ _ _ (by simp; omega), hgrow.block b (by simp; omega) (fun e => by have := hrb b e.symm; omega)]
    exact (Below.heap_alloc W tmp b (by omega))
theorem int_row {W : World} {base hi : Nat} {e : TypeId} {v : Value} {xs : List Int} (h : W.ownsRow hi e 1 v xs.length (xs.map (Value.int .i64))) (hb : base ≤ hi) : Kd.R (Kd.int .i64) e W base (fun _ => True) v xs := by
  refine ⟨fun _ _ => trivial, xs.map (Value.int .i64), own_weaken h hb, (by rw [List.length_map]; exact (Nat.mul_one _).symm), fun j p hp => ?_⟩
  show ((xs.map (Value.int .i64)).drop (j * 1)).take 1 = [Value.int .i64 p]
  have hj := (List.getElem?_eq_some_iff.1 hp).1
  rw [Nat.mul_one, List.drop_eq_getElem_cons (by simpa using hj)]
  simp only [List.take_succ_cons, List.take_zero, List.getElem_map]
  rw [(List.getElem?_eq_some_iff.1 hp).2]

theorem info3' : (Try.prog.info? 3).map (fun i => (i.zero, i.size, i.bytes)) = some (some (.int .i64 0), 1, 8) := by kernel_rfl

def OnesSay (L : List Int) (r : Int) (w : World) (e : Ending) (w' : World) : Prop :=
  ∃ v, e = .returned (.tuple #[v, .int .i64 r]) ∧ Kd.R (Kd.int .i64) 3 w' w.heap.size (fun _ => True) v L ∧ Below w.heap.size w w'

set_option maxRecDepth 100000 in
set_option maxHeartbeats 4000000 in
theorem ones_in (k : Nat) (a0 : Int) (A1 : Option Addr) (c1 : Nat) (l1 : List Int) (w : World) (r : Int) (hr1 : Kd.C (Kd.int .u8) w A1 l1.length l1) (hc1 : l1.length ≤ c1) (h : bitset_Check.f k a0 l1 = some r) (hL : (walked r a0 l1).length ≤ 65536) :
    CallsIn Fence.wide 3 Try.prog 37 #[.int .i64 a0, .slice A1 l1.length c1] w (OnesSay (walked r a0 l1) r w) := by
  have HR1 := Aside0.mk hr1
  have HC1 := Aside0.mk hc1
  have HK := Aside0.mk h
  have HL := Aside0.mk hL
  clear hr1 hc1 h hL
  obtain ⟨i0, hi, hz0, hz1, hz2⟩ := info_parts info3'
  have HI := Aside0.mk hi
  have HZ0 := Aside0.mk hz0
  have HZ1 := Aside0.mk hz1
  have HZ2 := Aside0.mk hz2
  clear hi hz0 hz1 hz2
  refine callsIn_of_wp_marks Try.func37 rfl trivial ?_ rfl
  simp only [Try.ntmps37, List.size_toArray, List.length_cons, List.length_nil, Nat.reduceAdd, Nat.reduceSub, Array.replicate_succ, Array.replicate_zero, List.push_toArray, List.append_toArray, List.nil_append, List.cons_append]
  gi_wp2_with (refine ⟨trivial, ?_⟩; gi_at_call 25; refine (callsIn_wide.2 (walk_says k a0 A1 c1 l1 _ r (Kd.C_alloc HR1.out _) HC1.out HK.out)).mono ?_; rintro e w1 ⟨gf, lb, rfl, heg, hB1, hseq⟩; have HEG := Aside0.mk heg; have HB1 := Aside0.mk hB1; have HSQ := Aside0.mk hseq; clear heg hB1 hseq)
  have hlo : (w.alloc (.cells #[.slice none 0 0] 28)).heap.size = w.heap.size + 1 := by simp
  rw [hlo] at HSQ
  have hB0 := below_step ((Below.refl w.heap.size w).alloc (Nat.le_refl _) _) HB1.out
  have hv0 : Boxed w1 w.heap.size 28 (.slice none 0 0) := (HB1.out.block w.heap.size (by simp)).trans (Boxed.new w 28 _)
  have hlt1 : w.heap.size < w1.heap.size := hv0.lt
  refine wpIn_rangeFunc_ownG rfl (by decide) (gf := gf) (lb := lb) rfl trivial HEG.out (HSQ.out (3 - 1) (by decide)) (fun h k => h.trans k) (fun W l o o' hl _ _ _ => Keeps.putObj _ _ W l o' hl) (Below.refl _ _) (fun _ => rfl)
    (fun pre W => (∃ v, Boxed W w.heap.size 28 v ∧ W.ownsRow w1.heap.size 3 1 v pre.length (pre.map (Value.int .i64)) ∧ True) ∧ (Below w.heap.size w W ∧ w1.heap.size ≤ W.heap.size))
    (fun _ _ _ => False)
    (OwnFrom.and (Own.from (holdsRow_own w1.heap.size w.heap.size 28 3 1 (fun pre : List Int => pre.length) (fun pre => pre.map (Value.int .i64)) (fun _ _ => True)) _) (OwnFrom.and (ownFrom_below (Nat.le_refl _) (by omega)) (fun s A B row hs hg hr => Nat.le_trans hs hg.size)))
    (fun _ _ _ _ _ hs _ _ => hs)
    ⟨⟨_, hv0, World.ownsRow_nil _ _ _ _, trivial⟩, hB0, Nat.le_refl _⟩
    (fun x => { tmps := #[.int .i64 a0, .slice A1 l1.length c1, undef, undef, .slice none 0 0, .int .i64 0, .pointer (some ⟨w.heap.size, 0, none⟩), .int .i64 x, .int .i64 a0, .slice A1 l1.length c1, .func (.func gf) #[] lb, .int .i64 x, undef, undef, undef, undef, undef, undef, undef, undef], defers := [] }) ?assign ?body ?done ?stop
  case assign =>
    intro l x W K hK
    gi_wp2
    first | exact hK | simpa using hK
  case body =>
    rintro l pre x W ⟨⟨v, hv, hrow, _⟩, hB, hsz⟩ hlt
    have hc := hv.cell
    have HP := Aside0.mk (show pre.length < 65536 by have := HL.out; omega)
    have HV := Aside0.mk hv
    have HROW := Aside0.mk hrow
    have HBB := Aside0.mk hB
    have HSZ := Aside0.mk hsz
    have HLT := Aside0.mk hlt1
    clear hv hrow hB hsz hlt
    gi_wp2_with (gi_at_builtin; refine wpListIn_append_own _ rfl _ _ 28 rfl w1.heap.size 3 i0 (.int .i64 0) 1 8 Try.underlying28 HI.out HZ0.out HZ1.out HZ2.out rfl (by decide) _ _ _ rfl (HROW.out.alloc _) ⟨W.heap.size, 0, none⟩ 1 1 [.int .i64 x] rfl rfl (cell_one_new _ _ _) (by simp [Value.oneCell']) (by have := HP.out; simp only [maxLen]; omega) (by have := HP.out; omega) (by have := HSZ.out; simp; omega) ?_; intro v' w2 hown' hgrow _; obtain ⟨g', cap', rfl⟩ := ownsRow_succ hown'; obtain ⟨hv1, hv2, hr2, hk2, hb2, hk3⟩ := appended2 (lo := w.heap.size + 1) HV.out (by decide) HROW.out (Nat.le_refl _) (by omega) (by have := HLT.out; omega) HSZ.out (by have := HSZ.out; have := HLT.out; omega) hown' hgrow; have hc1 := hv1.cell; have hf1 := hv1.frozen; have HH := Aside0.mk (And.intro hv2 (And.intro hr2 (And.intro hk2 (And.intro hb2 hk3)))); clear hv2 hr2 hk2 hb2 hk3 hown' hgrow)
    obtain ⟨hv2, hr2, hk2, hb2, hk3⟩ := HH.out
    exact ⟨hk2.from _, hk3, ⟨_, hv2, by simpa using hr2, trivial⟩, HBB.out.trans hb2, Nat.le_trans HSZ.out (hk2.size)⟩
  case done =>
    rintro D ys W hD rfl ⟨⟨v, hv, hrow, _⟩, hB, hsz⟩ hK
    have hc := hv.cell
    have hmo : Try.prog.follows .mixedOrders = true := by kernel_rfl
    have HBW := Aside0.mk hB
    have HKD := Aside0.mk hK
    have HROW := Aside0.mk hrow
    clear hK hB hrow
    gi_wp2
    first | (gi_region_with_o (refine ⟨trivial, ?_⟩; gi_at_call 48; refine (callsIn_wide.2 (bitset_Check.calls k a0 _ _ l1 r _ (Kd.C_drew (Kd.C_below HR1.out HBW.out)) HC1.out HK.out)).mono ?_; rintro e w2 ⟨rfl, ⟨nd, rfl⟩⟩)) | (fail "no")
    all_goals
      have hb9 : Below w.heap.size w (W.drewN (1 + nd)) := pw_below_drewN HBW.out _
      have hk9 : (W.drewN (1 + nd)).heap[D]? = some (.deferred (some [])) := HKD.out
      have hr9 : (W.drewN (1 + nd)).ownsRow w1.heap.size 3 1 v (walked r a0 l1).length ((walked r a0 l1).map (Value.int .i64)) := HROW.out
      gi_wp2
      refine ⟨by simp, .inl ⟨_, _, rfl, run_takeDeferred hk9, ?_⟩⟩
      exact ⟨_, results_tmp2 (show Try.f37.results = #[.tmp 4, .tmp 5] from rfl) _ _ _, v, rfl, int_row (ownsRow_putObj hr9 _ hk9 rfl) (by omega), hb9.trans (belowK_b (w := w) (Nat.le_refl _) _ D _ _ (by omega) hk9 rfl rfl)⟩
  case stop =>
    rintro D c pre W _ _ h _
    exact h.elim
end Go.Proofs.Ytoohpdamndgdlaa.P

-- Made by a program of this session (the print of the kit over a neighbour), for this claim.
namespace Go.Proofs.Ytoohpdamndgdlaa.P
open Go.RowKit Go.Proofs.YtoohpdamndgdlaaW.PrintWords Go.Proofs.YtoohpdamndgdlaaW.PrintLast Go.Proofs.YtoohpdamndgdlaaW.PrintMore
attribute [local go_sem] max2_int min2_int max_two min_two max_three min_three max_four min_four   -- for this text's walks alone
set_option linter.unusedVariables false
set_option linter.unusedSimpArgs false

/-! ### bitset_Ones: function 37 -/
def bitset_Ones.l0 : Nat → Int → List Int → List Int → Int → Option (List Int × Int)
  | 0, _, _, _, _ => none
  | k + 1, x0, x1, x7, x8 => if x8 < x0 then (if 0 ≤ (wrap64 (Int.tdiv x8 8)) then (if (wrap64 (Int.tdiv x8 8)) < (x1.length : Int) then (if 0 ≤ (Int.tmod x8 8) then (if (Go.bits .and .u8 (rd x1 (wrap64 (Int.tdiv x8 8))) (shr .u8 128 (Int.tmod x8 8))) = 0 then (bitset_Ones.l0 k x0 x1 x7 (wrap64 (x8 + 1))) else (if x7.length < 17592186044416 then (bitset_Ones.l0 k x0 x1 (x7 ++ [x8]) (wrap64 (x8 + 1))) else (none))) else (none)) else (none)) else (none)) else (some (x7, 0))
def bitset_Ones.f (k : Nat) (a0 : Int) (l1 : List Int) : Option (List Int × Int) := (bitset_Check.f k a0 l1).bind fun t315 => (if t315 = 0 then (bitset_Ones.l0 k a0 l1 ([] : List Int) 0) else (some (([] : List Int), t315)))
theorem bitset_Ones.mono_l : ∀ k, (∀ y0 y1 y2 y3, LeO (bitset_Ones.l0 k y0 y1 y2 y3) (bitset_Ones.l0 (k + 1) y0 y1 y2 y3))
  | 0 => fun _ _ _ _ r h => by simp [bitset_Ones.l0] at h
  | k + 1 => by
    have ih0 := bitset_Ones.mono_l k
    · intro y0 y1 y2 y3
      unfold bitset_Ones.l0
      repeat' first
      | (with_reducible exact ih0 _ _ _ _)
      | (with_reducible exact bitset_Check.mono _ _ _)
      | (with_reducible exact LeO.refl _)
      | (with_reducible exact LeO.none _)
      | (with_reducible refine LeO.ite ?_ ?_)
      | (with_reducible refine LeO.bind ?_ (fun _ => ?_))
      | exact ih0 _ _ _ _
      | exact bitset_Check.mono _ _ _
      | exact LeO.none _
      | refine LeO.ite ?_ ?_
      | refine LeO.bind ?_ (fun _ => ?_)
theorem bitset_Ones.mono : ∀ a0 a1 k, LeO (bitset_Ones.f k a0 a1) (bitset_Ones.f (k + 1) a0 a1) := by
  intro a0 a1 k
  have ih0 := bitset_Ones.mono_l k
  unfold bitset_Ones.f
  repeat' first
      | (with_reducible exact ih0 _ _ _ _)
      | (with_reducible exact bitset_Check.mono _ _ _)
      | (with_reducible exact LeO.refl _)
      | (with_reducible exact LeO.none _)
      | (with_reducible refine LeO.ite ?_ ?_)
      | (with_reducible refine LeO.bind ?_ (fun _ => ?_))
      | exact ih0 _ _ _ _
      | exact bitset_Check.mono _ _ _
      | exact LeO.none _
      | refine LeO.ite ?_ ?_
      | refine LeO.bind ?_ (fun _ => ?_)
open Go.Proofs.Ytoohpdamndgdlaa.B in
theorem bitset_Ones.told_l (n : Nat) (hn : n ≤ 65536) (l : List Int) (hl : n ≤ 8 * l.length) : ∀ (k i : Nat) (r1 : List Int) (r2 : Int), i ≤ n → bitset_Ones.l0 k (n : Int) l (onesTo l i) (i : Int) = some (r1, r2) → r1 = onesTo l n ∧ r2 = 0
  | 0, _, _, _, _, h => by simp [bitset_Ones.l0] at h
  | k + 1, i, r1, r2, hi, h => by
    simp only [bitset_Ones.l0] at h
    by_cases hlt : i < n
    · obtain ⟨g1, g2, g3⟩ := tests_in l i (by omega) (by omega)
      have hin := onesTo_length l i
      rw [if_pos (by omega), if_pos g1, if_pos g2, if_pos g3, inc i (by omega)] at h
      cases hb : hit l i with
      | false =>
        rw [if_pos ((hit_is l i (by omega)).2 hb), ← onesTo_miss hb] at h
        exact bitset_Ones.told_l n hn l hl k (i + 1) r1 r2 (by omega) h
      | true =>
        rw [if_neg (fun h0 => by rw [(hit_is l i (by omega)).1 h0] at hb; cases hb), if_pos (by omega), ← onesTo_hit hb] at h
        exact bitset_Ones.told_l n hn l hl k (i + 1) r1 r2 (by omega) h
    · obtain rfl : i = n := by omega
      rw [if_neg (by omega)] at h
      simp only [Option.some.injEq, Prod.mk.injEq] at h
      exact ⟨h.1.symm, h.2.symm⟩
open Go.Proofs.Ytoohpdamndgdlaa.B in
theorem bitset_Ones.told {k : Nat} {a0 : Int} {l : List Int} {r1 : List Int} {r2 : Int} (h : bitset_Ones.f k a0 l = some (r1, r2)) : bitset_Check.f k a0 l = some r2 ∧ r1 = walked r2 a0 l ∧ (walked r2 a0 l).length ≤ 65536 := by
  unfold bitset_Ones.f at h
  obtain ⟨t, ht, h⟩ := Option.bind_eq_some_iff.mp h
  by_cases h0 : t = 0
  · subst h0
    rw [if_pos rfl] at h
    obtain ⟨n, rfl, hn, hl⟩ := check_zero ht
    obtain ⟨rfl, rfl⟩ := bitset_Ones.told_l n hn l (by omega) k 0 r1 r2 (by omega) h
    refine ⟨ht, ?_, ?_⟩
    · unfold walked
      rw [if_pos rfl, Int.toNat_natCast]
    · unfold walked
      rw [if_pos rfl, Int.toNat_natCast]
      exact Nat.le_trans (onesTo_length l n) hn
  · rw [if_neg h0] at h
    simp only [Option.some.injEq, Prod.mk.injEq] at h
    obtain ⟨rfl, rfl⟩ := h
    refine ⟨ht, ?_, ?_⟩
    · unfold walked
      rw [if_neg h0]
    · unfold walked
      rw [if_neg h0]
      simp
set_option maxHeartbeats 4000000 in
set_option maxRecDepth 100000 in
theorem bitset_Ones.calls (k : Nat) (a0 : Int) (A1 : Option Addr) (c1 : Nat) (l1 : List Int) (r1 : List Int) (r2 : Int) (w : World) (hr1 : Kd.C (Kd.int .u8) w A1 l1.length l1) (hc1 : l1.length ≤ c1) (h : bitset_Ones.f k a0 l1 = some (r1, r2)) :
    Calls Try.prog 37 #[.int .i64 a0, .slice A1 l1.length c1] w fun e w' => ∃ v0_ : Value, e = .returned (.tuple #[v0_, .int .i64 r2]) ∧ Kd.R (Kd.int .i64) 3 w' w.heap.size (fun _ => True) v0_ r1 ∧ Below w.heap.size w w' := by
  obtain ⟨h1, rfl, h3⟩ := bitset_Ones.told h
  exact callsIn_wide.1 (ones_in k a0 A1 c1 l1 w r2 hr1 hc1 h1 h3)

end Go.Proofs.Ytoohpdamndgdlaa.P

-- Made by a program of this session (the print of the kit over a neighbour), for this claim.
namespace Go.Proofs.Ytoohpdamndgdlaa.P
open Go.RowKit Go.Proofs.YtoohpdamndgdlaaW.PrintWords Go.Proofs.YtoohpdamndgdlaaW.PrintLast Go.Proofs.YtoohpdamndgdlaaW.PrintMore
attribute [local go_sem] max2_int min2_int max_two min_two max_three min_three max_four min_four   -- for this text's walks alone
set_option linter.unusedVariables false
set_option linter.unusedSimpArgs false

/-! ### torrentlaw4_has: function 49 -/
def torrentlaw4_has.l0 : Nat → List Int → Int → Int → Option (Bool)
  | 0, _, _, _ => none
  | k + 1, x0, x1, x5 => if x5 < (x0.length : Int) then (if 0 ≤ x5 then (if (rd x0 x5) = x1 then (some true) else (torrentlaw4_has.l0 k x0 x1 (wrap64 (x5 + 1)))) else (none)) else (some false)
def torrentlaw4_has.f (k : Nat) (l0 : List Int) (a1 : Int) : Option (Bool) := torrentlaw4_has.l0 k l0 a1 0
theorem torrentlaw4_has.mono_l : ∀ k, (∀ y0 y1 y2, LeO (torrentlaw4_has.l0 k y0 y1 y2) (torrentlaw4_has.l0 (k + 1) y0 y1 y2))
  | 0 => fun _ _ _ r h => by simp [torrentlaw4_has.l0] at h
  | k + 1 => by
    have ih0 := torrentlaw4_has.mono_l k
    · intro y0 y1 y2
      unfold torrentlaw4_has.l0
      repeat' first
      | (with_reducible exact ih0 _ _ _)
      | (with_reducible exact LeO.refl _)
      | (with_reducible exact LeO.none _)
      | (with_reducible refine LeO.ite ?_ ?_)
      | (with_reducible refine LeO.bind ?_ (fun _ => ?_))
      | exact ih0 _ _ _
      | exact LeO.none _
      | refine LeO.ite ?_ ?_
      | refine LeO.bind ?_ (fun _ => ?_)
theorem torrentlaw4_has.mono : ∀ a0 a1 k, LeO (torrentlaw4_has.f k a0 a1) (torrentlaw4_has.f (k + 1) a0 a1) := by
  intro a0 a1 k
  have ih0 := torrentlaw4_has.mono_l k
  unfold torrentlaw4_has.f
  repeat' first
      | (with_reducible exact ih0 _ _ _)
      | (with_reducible exact LeO.refl _)
      | (with_reducible exact LeO.none _)
      | (with_reducible refine LeO.ite ?_ ?_)
      | (with_reducible refine LeO.bind ?_ (fun _ => ?_))
      | exact ih0 _ _ _
      | exact LeO.none _
      | refine LeO.ite ?_ ?_
      | refine LeO.bind ?_ (fun _ => ?_)
set_option maxHeartbeats 8000000 in
set_option maxRecDepth 100000 in
theorem torrentlaw4_has.calls (k : Nat) (A0 : Option Addr) (c0 : Nat) (l0 : List Int) (a1 : Int) (r : Bool) (w : World) (hr0 : Kd.C (Kd.int .i64) w A0 l0.length l0) (hc0 : l0.length ≤ c0) (h : torrentlaw4_has.f k l0 a1 = some r) :
    Calls Try.prog 49 #[.slice A0 l0.length c0, .int .i64 a1] w fun e w' => e = .returned (.bool r) ∧ Drawn0 w w' := by
  have HR0 := Aside0.mk hr0
  have HC0 := Aside0.mk hc0
  clear hr0 hc0
  have H : (torrentlaw4_has.l0 k l0 a1 0) = some r := h
  clear h
  have H' := Aside0.mk H
  clear H
  go_enter Try.func49, Try.ntmps49
  go_wp2
  go_loopg [5] k (fun kq v5 w' => ∃ (x5_1 : Int), v5 = .int .i64 x5_1 ∧ Aside0 (torrentlaw4_has.l0 kq l0 a1 x5_1 = some r) ∧ Aside0 (kq ≤ k) ∧ Drawn0 w w')
  case atStart => exact ⟨(0), (by first | rfl | (simp; done) | (simp [*]; done)), H', ⟨Nat.le_refl _⟩, by repeat (first | exact Drawn0.refl _ | apply Drawn0.step)⟩
  case round =>
    clear H'
    try clear p2
    obtain ⟨x5_1, rfl, HA, HK1, ⟨m1, rfl⟩⟩ := hrel
    cases gk with
    | zero => exact absurd HA.out (by simp [torrentlaw4_has.l0])
    | succ k1 =>
      have H := HA.out
      clear HA
      simp only [torrentlaw4_has.l0] at H
      by_cases c3 : x5_1 < (l0.length : Int)
      · rw [if_pos c3] at H
        have c3b0 : decide (x5_1 < (l0.length : Int)) = true := decide_eq_true c3
        clear c3
        by_cases c4 : 0 ≤ x5_1
        · rw [if_pos c4] at H
          have c4b0 : decide (0 ≤ x5_1) = true := decide_eq_true c4
          clear c4
          by_cases c5 : (rd l0 x5_1) = a1
          · rw [if_pos c5] at H
            have c5b0 : ((rd l0 x5_1) == a1) = true := beq_iff_eq.mpr c5
            have c5b1 : ((rd l0 x5_1) != a1) = false := bne_eq_false_iff_eq.mpr c5
            clear c5
            obtain rfl := Option.some.inj H
            have p489 : 0 ≤ (x5_1 : Int) := of_decide_eq_true (by first | (with_reducible assumption) | assumption)
            have q489 : x5_1 < (l0.length : Int) := of_decide_eq_true (by first | (with_reducible assumption) | assumption)
            obtain ⟨ad489, e489, hx489_0⟩ := Kd.at_int HR0.out x5_1 p489 q489
            cases e489
            replace p489 := eq_true p489
            replace q489 := eq_true q489
            go_wp2
            go_ret
            exact ⟨by first | rfl | (simp; done) | (simp [*]; done), by repeat (first | exact Drawn0.refl _ | apply Drawn0.step)⟩
          · rw [if_neg c5] at H
            have c5b0 : ((rd l0 x5_1) == a1) = false := beq_eq_false_iff_ne.mpr c5
            have c5b1 : ((rd l0 x5_1) != a1) = true := bne_iff_ne.mpr c5
            have H' := Aside0.mk H
            clear H
            have p489 : 0 ≤ (x5_1 : Int) := of_decide_eq_true (by first | (with_reducible assumption) | assumption)
            have q489 : x5_1 < (l0.length : Int) := of_decide_eq_true (by first | (with_reducible assumption) | assumption)
            obtain ⟨ad489, e489, hx489_0⟩ := Kd.at_int HR0.out x5_1 p489 q489
            cases e489
            replace p489 := eq_true p489
            replace q489 := eq_true q489
            go_wp2
            go_roundg k1
            case measure => have := HK1.out; omega
            case rel => exact ⟨(wrap64 (x5_1 + 1)), (by first | rfl | (simp; done) | (simp [*]; done)), H', ⟨by have := HK1.out; omega⟩, by repeat (first | exact Drawn0.refl _ | apply Drawn0.step)⟩
        · rw [if_neg c4] at H
          exact absurd H (by simp)
      · rw [if_neg c3] at H
        have c3b0 : decide (x5_1 < (l0.length : Int)) = false := decide_eq_false c3
        clear c3
        obtain rfl := Option.some.inj H
        go_wp2
        go_ret
        exact ⟨by first | rfl | (simp; done) | (simp [*]; done), by repeat (first | exact Drawn0.refl _ | apply Drawn0.step)⟩

end Go.Proofs.Ytoohpdamndgdlaa.P

-- Made by a program of this session (the print of the kit over a neighbour), for this claim.
namespace Go.Proofs.Ytoohpdamndgdlaa.P
open Go.RowKit Go.Proofs.YtoohpdamndgdlaaW.PrintWords Go.Proofs.YtoohpdamndgdlaaW.PrintLast Go.Proofs.YtoohpdamndgdlaaW.PrintMore
attribute [local go_sem] max2_int min2_int max_two min_two max_three min_three max_four min_four   -- for this text's walks alone
set_option linter.unusedVariables false
set_option linter.unusedSimpArgs false

/-! ### torrentlaw4_BitsetTwoWay: function 11 -/
mutual
def torrentlaw4_BitsetTwoWay.j0 : Nat → Int → List Int → List Int → Bool → Option (Bool)
  | 0, _, _, _, _ => none
  | k + 1, x0, x1, x2, x28 => if x28 = true then ((bitset_Check.f k x0 x2).bind fun t490 => (some (t490 != 0))) else (torrentlaw4_BitsetTwoWay.l0 k x0 x1 x2 ([] : List Int) 0)
def torrentlaw4_BitsetTwoWay.l0 : Nat → Int → List Int → List Int → List Int → Int → Option (Bool)
  | 0, _, _, _, _, _ => none
  | k + 1, x0, x1, x2, x7, x8 => if x8 < (x1.length : Int) then (if 0 ≤ x8 then (if (rd x1 x8) ≥ 0 then (if (rd x1 x8) < x0 then (if x7.length < 17592186044416 then (torrentlaw4_BitsetTwoWay.l0 k x0 x1 x2 (x7 ++ [rd x1 x8]) (wrap64 (x8 + 1))) else (none)) else (torrentlaw4_BitsetTwoWay.l0 k x0 x1 x2 x7 (wrap64 (x8 + 1)))) else (torrentlaw4_BitsetTwoWay.l0 k x0 x1 x2 x7 (wrap64 (x8 + 1)))) else (none)) else ((bitset_Of.f k x0 x7).bind fun bt497 => (if bt497.2 = 0 then ((bitset_Check.f k x0 bt497.1).bind fun t501 => (torrentlaw4_BitsetTwoWay.j2 k x0 x2 x7 bt497.1 (t501 != 0))) else (torrentlaw4_BitsetTwoWay.j2 k x0 x2 x7 bt497.1 true)))
def torrentlaw4_BitsetTwoWay.j2 : Nat → Int → List Int → List Int → List Int → Bool → Option (Bool)
  | 0, _, _, _, _, _ => none
  | k + 1, x0, x2, x7, x9, x72 => if x72 = true then (some false) else (torrentlaw4_BitsetTwoWay.l1 k x0 x2 x7 x9 0)
def torrentlaw4_BitsetTwoWay.l1 : Nat → Int → List Int → List Int → List Int → Int → Option (Bool)
  | 0, _, _, _, _, _ => none
  | k + 1, x0, x2, x7, x9, x11 => if x11 < x0 then ((bitset_Get.f k x0 x9 x11).bind fun bt502 => (if bt502.2 = 0 then ((torrentlaw4_has.f k x7 x11).bind fun t504 => (if (bt502.1 != t504) = true then (some false) else (torrentlaw4_BitsetTwoWay.l1 k x0 x2 x7 x9 (wrap64 (x11 + 1))))) else (some false))) else ((bitset_Ones.f k x0 x9).bind fun bt505 => (if bt505.2 = 0 then (torrentlaw4_BitsetTwoWay.l2 k x0 x2 x7 x9 bt505.1 0) else (some false)))
def torrentlaw4_BitsetTwoWay.l2 : Nat → Int → List Int → List Int → List Int → List Int → Int → Option (Bool)
  | 0, _, _, _, _, _, _ => none
  | k + 1, x0, x2, x7, x9, x14, x15 => if x15 < (x14.length : Int) then (if 0 ≤ x15 then ((torrentlaw4_has.f k x7 (rd x14 x15)).bind fun t510 => (if t510 = true then (if x15 > 0 then (if 0 ≤ (wrap64 (x15 - 1)) then (if (wrap64 (x15 - 1)) < (x14.length : Int) then (if (rd x14 x15) ≤ (rd x14 (wrap64 (x15 - 1))) then (some false) else (torrentlaw4_BitsetTwoWay.l2 k x0 x2 x7 x9 x14 (wrap64 (x15 + 1)))) else (none)) else (none)) else (torrentlaw4_BitsetTwoWay.l2 k x0 x2 x7 x9 x14 (wrap64 (x15 + 1)))) else (some false))) else (none)) else (torrentlaw4_BitsetTwoWay.l3 k x0 x2 x7 x9 x14 0)
def torrentlaw4_BitsetTwoWay.l3 : Nat → Int → List Int → List Int → List Int → List Int → Int → Option (Bool)
  | 0, _, _, _, _, _, _ => none
  | k + 1, x0, x2, x7, x9, x14, x16 => if x16 < (x7.length : Int) then (if 0 ≤ x16 then ((torrentlaw4_has.f k x14 (rd x7 x16)).bind fun t514 => (if t514 = true then (torrentlaw4_BitsetTwoWay.l3 k x0 x2 x7 x9 x14 (wrap64 (x16 + 1))) else (some false))) else (none)) else ((bitset_Count.f k x0 x9).bind fun bt515 => (if bt515.2 = 0 then (torrentlaw4_BitsetTwoWay.j6 k x0 x2 x9 x14 (bt515.1 != (x14.length : Int))) else (torrentlaw4_BitsetTwoWay.j6 k x0 x2 x9 x14 true)))
def torrentlaw4_BitsetTwoWay.j6 : Nat → Int → List Int → List Int → List Int → Bool → Option (Bool)
  | 0, _, _, _, _, _ => none
  | k + 1, x0, x2, x9, x14, x157 => if x157 = true then (some false) else ((bitset_Of.f k x0 x14).bind fun bt517 => (if bt517.2 = 0 then ((torrentlaw4_sameBytes.f k x9 bt517.1).bind fun t521 => (torrentlaw4_BitsetTwoWay.j7 k x0 x2 (!t521))) else (torrentlaw4_BitsetTwoWay.j7 k x0 x2 true)))
def torrentlaw4_BitsetTwoWay.j7 : Nat → Int → List Int → Bool → Option (Bool)
  | 0, _, _, _ => none
  | k + 1, x0, x2, x171 => if x171 = true then (some false) else ((bitset_Check.f k x0 x2).bind fun t522 => (if t522 = 0 then ((bitset_Ones.f k x0 x2).bind fun bt523 => (if bt523.2 = 0 then ((bitset_Of.f k x0 bt523.1).bind fun bt527 => (if bt527.2 = 0 then ((torrentlaw4_sameBytes.f k bt527.1 x2).bind fun t531 => (some t531)) else (some false))) else (some false))) else (some true)))
end
def torrentlaw4_BitsetTwoWay.f (k : Nat) (a0 : Int) (l1 : List Int) (l2 : List Int) : Option (Bool) := if a0 < 0 then (torrentlaw4_BitsetTwoWay.j0 k a0 l1 l2 true) else (torrentlaw4_BitsetTwoWay.j0 k a0 l1 l2 (decide (a0 > 65536)))
theorem torrentlaw4_BitsetTwoWay.mono_l : ∀ k, (∀ y0 y1 y2 y3, LeO (torrentlaw4_BitsetTwoWay.j0 k y0 y1 y2 y3) (torrentlaw4_BitsetTwoWay.j0 (k + 1) y0 y1 y2 y3)) ∧ (∀ y0 y1 y2 y3 y4, LeO (torrentlaw4_BitsetTwoWay.l0 k y0 y1 y2 y3 y4) (torrentlaw4_BitsetTwoWay.l0 (k + 1) y0 y1 y2 y3 y4)) ∧ (∀ y0 y1 y2 y3 y4, LeO (torrentlaw4_BitsetTwoWay.j2 k y0 y1 y2 y3 y4) (torrentlaw4_BitsetTwoWay.j2 (k + 1) y0 y1 y2 y3 y4)) ∧ (∀ y0 y1 y2 y3 y4, LeO (torrentlaw4_BitsetTwoWay.l1 k y0 y1 y2 y3 y4) (torrentlaw4_BitsetTwoWay.l1 (k + 1) y0 y1 y2 y3 y4)) ∧ (∀ y0 y1 y2 y3 y4 y5, LeO (torrentlaw4_BitsetTwoWay.l2 k y0 y1 y2 y3 y4 y5) (torrentlaw4_BitsetTwoWay.l2 (k + 1) y0 y1 y2 y3 y4 y5)) ∧ (∀ y0 y1 y2 y3 y4 y5, LeO (torrentlaw4_BitsetTwoWay.l3 k y0 y1 y2 y3 y4 y5) (torrentlaw4_BitsetTwoWay.l3 (k + 1) y0 y1 y2 y3 y4 y5)) ∧ (∀ y0 y1 y2 y3 y4, LeO (torrentlaw4_BitsetTwoWay.j6 k y0 y1 y2 y3 y4) (torrentlaw4_BitsetTwoWay.j6 (k + 1) y0 y1 y2 y3 y4)) ∧ (∀ y0 y1 y2, LeO (torrentlaw4_BitsetTwoWay.j7 k y0 y1 y2) (torrentlaw4_BitsetTwoWay.j7 (k + 1) y0 y1 y2))
  | 0 => ⟨fun _ _ _ _ r h => by simp [torrentlaw4_BitsetTwoWay.j0] at h, fun _ _ _ _ _ r h => by simp [torrentlaw4_BitsetTwoWay.l0] at h, fun _ _ _ _ _ r h => by simp [torrentlaw4_BitsetTwoWay.j2] at h, fun _ _ _ _ _ r h => by simp [torrentlaw4_BitsetTwoWay.l1] at h, fun _ _ _ _ _ _ r h => by simp [torrentlaw4_BitsetTwoWay.l2] at h, fun _ _ _ _ _ _ r h => by simp [torrentlaw4_BitsetTwoWay.l3] at h, fun _ _ _ _ _ r h => by simp [torrentlaw4_BitsetTwoWay.j6] at h, fun _ _ _ r h => by simp [torrentlaw4_BitsetTwoWay.j7] at h⟩
  | k + 1 => by
    obtain ⟨ih0, ih1, ih2, ih3, ih4, ih5, ih6, ih7⟩ := torrentlaw4_BitsetTwoWay.mono_l k
    refine ⟨?_, ?_, ?_, ?_, ?_, ?_, ?_, ?_⟩
    · intro y0 y1 y2 y3
      unfold torrentlaw4_BitsetTwoWay.j0
      repeat' first
      | (with_reducible exact ih0 _ _ _ _)
      | (with_reducible exact ih1 _ _ _ _ _)
      | (with_reducible exact ih2 _ _ _ _ _)
      | (with_reducible exact ih3 _ _ _ _ _)
      | (with_reducible exact ih4 _ _ _ _ _ _)
      | (with_reducible exact ih5 _ _ _ _ _ _)
      | (with_reducible exact ih6 _ _ _ _ _)
      | (with_reducible exact ih7 _ _ _)
      | (with_reducible exact bitset_Check.mono _ _ _)
      | (with_reducible exact bitset_Count.mono _ _ _)
      | (with_reducible exact bitset_Get.mono _ _ _ _)
      | (with_reducible exact bitset_Of.mono _ _ _)
      | (with_reducible exact bitset_Ones.mono _ _ _)
      | (with_reducible exact torrentlaw4_has.mono _ _ _)
      | (with_reducible exact torrentlaw4_sameBytes.mono _ _ _)
      | (with_reducible exact LeO.refl _)
      | (with_reducible exact LeO.none _)
      | (with_reducible refine LeO.ite ?_ ?_)
      | (with_reducible refine LeO.bind ?_ (fun _ => ?_))
      | exact ih0 _ _ _ _
      | exact ih1 _ _ _ _ _
      | exact ih2 _ _ _ _ _
      | exact ih3 _ _ _ _ _
      | exact ih4 _ _ _ _ _ _
      | exact ih5 _ _ _ _ _ _
      | exact ih6 _ _ _ _ _
      | exact ih7 _ _ _
      | exact bitset_Check.mono _ _ _
      | exact bitset_Count.mono _ _ _
      | exact bitset_Get.mono _ _ _ _
      | exact bitset_Of.mono _ _ _
      | exact bitset_Ones.mono _ _ _
      | exact torrentlaw4_has.mono _ _ _
      | exact torrentlaw4_sameBytes.mono _ _ _
      | exact LeO.none _
      | refine LeO.ite ?_ ?_
      | refine LeO.bind ?_ (fun _ => ?_)
    · intro y0 y1 y2 y3 y4
      unfold torrentlaw4_BitsetTwoWay.l0
      repeat' first
      | (with_reducible exact ih0 _ _ _ _)
      | (with_reducible exact ih1 _ _ _ _ _)
      | (with_reducible exact ih2 _ _ _ _ _)
      | (with_reducible exact ih3 _ _ _ _ _)
      | (with_reducible exact ih4 _ _ _ _ _ _)
      | (with_reducible exact ih5 _ _ _ _ _ _)
      | (with_reducible exact ih6 _ _ _ _ _)
      | (with_reducible exact ih7 _ _ _)
      | (with_reducible exact bitset_Check.mono _ _ _)
      | (with_reducible exact bitset_Count.mono _ _ _)
      | (with_reducible exact bitset_Get.mono _ _ _ _)
      | (with_reducible exact bitset_Of.mono _ _ _)
      | (with_reducible exact bitset_Ones.mono _ _ _)
      | (with_reducible exact torrentlaw4_has.mono _ _ _)
      | (with_reducible exact torrentlaw4_sameBytes.mono _ _ _)
      | (with_reducible exact LeO.refl _)
      | (with_reducible exact LeO.none _)
      | (with_reducible refine LeO.ite ?_ ?_)
      | (with_reducible refine LeO.bind ?_ (fun _ => ?_))
      | exact ih0 _ _ _ _
      | exact ih1 _ _ _ _ _
      | exact ih2 _ _ _ _ _
      | exact ih3 _ _ _ _ _
      | exact ih4 _ _ _ _ _ _
      | exact ih5 _ _ _ _ _ _
      | exact ih6 _ _ _ _ _
      | exact ih7 _ _ _
      | exact bitset_Check.mono _ _ _
      | exact bitset_Count.mono _ _ _
      | exact bitset_Get.mono _ _ _ _
      | exact bitset_Of.mono _ _ _
      | exact bitset_Ones.mono _ _ _
      | exact torrentlaw4_has.mono _ _ _
      | exact torrentlaw4_sameBytes.mono _ _ _
      | exact LeO.none _
      | refine LeO.ite ?_ ?_
      | refine LeO.bind ?_ (fun _ => ?_)
    · intro y0 y1 y2 y3 y4
      unfold torrentlaw4_BitsetTwoWay.j2
      repeat' first
      | (with_reducible exact ih0 _ _ _ _)
      | (with_reducible exact ih1 _ _ _ _ _)
      | (with_reducible exact ih2 _ _ _ _ _)
      | (with_reducible exact ih3 _ _ _ _ _)
      | (with_reducible exact ih4 _ _ _ _ _ _)
      | (with_reducible exact ih5 _ _ _ _ _ _)
      | (with_reducible exact ih6 _ _ _ _ _)
      | (with_reducible exact ih7 _ _ _)
      | (with_reducible exact bitset_Check.mono _ _ _)
      | (with_reducible exact bitset_Count.mono _ _ _)
      | (with_reducible exact bitset_Get.mono _ _ _ _)
      | (with_reducible exact bitset_Of.mono _ _ _)
      | (with_reducible exact bitset_Ones.mono _ _ _)
      | (with_reducible exact torrentlaw4_has.mono _ _ _)
      | (with_reducible exact torrentlaw4_sameBytes.mono _ _ _)
      | (with_reducible exact LeO.refl _)
      | (with_reducible exact LeO.none _)
      | (with_reducible refine LeO.ite ?_ ?_)
      | (with_reducible refine LeO.bind ?_ (fun _ => ?_))
      | exact ih0 _ _ _ _
      | exact ih1 _ _ _ _ _
      | exact ih2 _ _ _ _ _
      | exact ih3 _ _ _ _ _
      | exact ih4 _ _ _ _ _ _
      | exact ih5 _ _ _ _ _ _
      | exact ih6 _ _ _ _ _
      | exact ih7 _ _ _
      | exact bitset_Check.mono _ _ _
      | exact bitset_Count.mono _ _ _
      | exact bitset_Get.mono _ _ _ _
      | exact bitset_Of.mono _ _ _
      | exact bitset_Ones.mono _ _ _
      | exact torrentlaw4_has.mono _ _ _
      | exact torrentlaw4_sameBytes.mono _ _ _
      | exact LeO.none _
      | refine LeO.ite ?_ ?_
      | refine LeO.bind ?_ (fun _ => ?_)
    · intro y0 y1 y2 y3 y4
      unfold torrentlaw4_BitsetTwoWay.l1
      repeat' first
      | (with_reducible exact ih0 _ _ _ _)
      | (with_reducible exact ih1 _ _ _ _ _)
      | (with_reducible exact ih2 _ _ _ _ _)
      | (with_reducible exact ih3 _ _ _ _ _)
      | (with_reducible exact ih4 _ _ _ _ _ _)
      | (with_reducible exact ih5 _ _ _ _ _ _)
      | (with_reducible exact ih6 _ _ _ _ _)
      | (with_reducible exact ih7 _ _ _)
      | (with_reducible exact bitset_Check.mono _ _ _)
      | (with_reducible exact bitset_Count.mono _ _ _)
      | (with_reducible exact bitset_Get.mono _ _ _ _)
      | (with_reducible exact bitset_Of.mono _ _ _)
      | (with_reducible exact bitset_Ones.mono _ _ _)
      | (with_reducible exact torrentlaw4_has.mono _ _ _)
      | (with_reducible exact torrentlaw4_sameBytes.mono _ _ _)
      | (with_reducible exact LeO.refl _)
      | (with_reducible exact LeO.none _)
      | (with_reducible refine LeO.ite ?_ ?_)
      | (with_reducible refine LeO.bind ?_ (fun _ => ?_))
      | exact ih0 _ _ _ _
      | exact ih1 _ _ _ _ _
      | exact ih2 _ _ _ _ _
      | exact ih3 _ _ _ _ _
      | exact ih4 _ _ _ _ _ _
      | exact ih5 _ _ _ _ _ _
      | exact ih6 _ _ _ _ _
      | exact ih7 _ _ _
      | exact bitset_Check.mono _ _ _
      | exact bitset_Count.mono _ _ _
      | exact bitset_Get.mono _ _ _ _
      | exact bitset_Of.mono _ _ _
      | exact bitset_Ones.mono _ _ _
      | exact torrentlaw4_has.mono _ _ _
      | exact torrentlaw4_sameBytes.mono _ _ _
      | exact LeO.none _
      | refine LeO.ite ?_ ?_
      | refine LeO.bind ?_ (fun _ => ?_)
    · intro y0 y1 y2 y3 y4 y5
      unfold torrentlaw4_BitsetTwoWay.l2
      repeat' first
      | (with_reducible exact ih0 _ _ _ _)
      | (with_reducible exact ih1 _ _ _ _ _)
      | (with_reducible exact ih2 _ _ _ _ _)
      | (with_reducible exact ih3 _ _ _ _ _)
      | (with_reducible exact ih4 _ _ _ _ _ _)
      | (with_reducible exact ih5 _ _ _ _ _ _)
      | (with_reducible exact ih6 _ _ _ _ _)
      | (with_reducible exact ih7 _ _ _)
      | (with_reducible exact bitset_Check.mono _ _ _)
      | (with_reducible exact bitset_Count.mono _ _ _)
      | (with_reducible exact bitset_Get.mono _ _ _ _)
      | (with_reducible exact bitset_Of.mono _ _ _)
      | (with_reducible exact bitset_Ones.mono _ _ _)
      | (with_reducible exact torrentlaw4_has.mono _ _ _)
      | (with_reducible exact torrentlaw4_sameBytes.mono _ _ _)
      | (with_reducible exact LeO.refl _)
      | (with_reducible exact LeO.none _)
      | (with_reducible refine LeO.ite ?_ ?_)
      | (with_reducible refine LeO.bind ?_ (fun _ => ?_))
      | exact ih0 _ _ _ _
      | exact ih1 _ _ _ _ _
      | exact ih2 _ _ _ _ _
      | exact ih3 _ _ _ _ _
      | exact ih4 _ _ _ _ _ _
      | exact ih5 _ _ _ _ _ _
      | exact ih6 _ _ _ _ _
      | exact ih7 _ _ _
      | exact bitset_Check.mono _ _ _
      | exact bitset_Count.mono _ _ _
      | exact bitset_Get.mono _ _ _ _
      | exact bitset_Of.mono _ _ _
      | exact bitset_Ones.mono _ _ _
      | exact torrentlaw4_has.mono _ _ _
      | exact torrentlaw4_sameBytes.mono _ _ _
      | exact LeO.none _
      | refine LeO.ite ?_ ?_
      | refine LeO.bind ?_ (fun _ => ?_)
    · intro y0 y1 y2 y3 y4 y5
      unfold torrentlaw4_BitsetTwoWay.l3
      repeat' first
      | (with_reducible exact ih0 _ _ _ _)
      | (with_reducible exact ih1 _ _ _ _ _)
      | (with_reducible exact ih2 _ _ _ _ _)
      | (with_reducible exact ih3 _ _ _ _ _)
      | (with_reducible exact ih4 _ _ _ _ _ _)
      | (with_reducible exact ih5 _ _ _ _ _ _)
      | (with_reducible exact ih6 _ _ _ _ _)
      | (with_reducible exact ih7 _ _ _)
      | (with_reducible exact bitset_Check.mono _ _ _)
      | (with_reducible exact bitset_Count.mono _ _ _)
      | (with_reducible exact bitset_Get.mono _ _ _ _)
      | (with_reducible exact bitset_Of.mono _ _ _)
      | (with_reducible exact bitset_Ones.mono _ _ _)
      | (with_reducible exact torrentlaw4_has.mono _ _ _)
      | (with_reducible exact torrentlaw4_sameBytes.mono _ _ _)
      | (with_reducible exact LeO.refl _)
      | (with_reducible exact LeO.none _)
      | (with_reducible refine LeO.ite ?_ ?_)
      | (with_reducible refine LeO.bind ?_ (fun _ => ?_))
      | exact ih0 _ _ _ _
      | exact ih1 _ _ _ _ _
      | exact ih2 _ _ _ _ _
      | exact ih3 _ _ _ _ _
      | exact ih4 _ _ _ _ _ _
      | exact ih5 _ _ _ _ _ _
      | exact ih6 _ _ _ _ _
      | exact ih7 _ _ _
      | exact bitset_Check.mono _ _ _
      | exact bitset_Count.mono _ _ _
      | exact bitset_Get.mono _ _ _ _
      | exact bitset_Of.mono _ _ _
      | exact bitset_Ones.mono _ _ _
      | exact torrentlaw4_has.mono _ _ _
      | exact torrentlaw4_sameBytes.mono _ _ _
      | exact LeO.none _
      | refine LeO.ite ?_ ?_
      | refine LeO.bind ?_ (fun _ => ?_)
    · intro y0 y1 y2 y3 y4
      unfold torrentlaw4_BitsetTwoWay.j6
      repeat' first
      | (with_reducible exact ih0 _ _ _ _)
      | (with_reducible exact ih1 _ _ _ _ _)
      | (with_reducible exact ih2 _ _ _ _ _)
      | (with_reducible exact ih3 _ _ _ _ _)
      | (with_reducible exact ih4 _ _ _ _ _ _)
      | (with_reducible exact ih5 _ _ _ _ _ _)
      | (with_reducible exact ih6 _ _ _ _ _)
      | (with_reducible exact ih7 _ _ _)
      | (with_reducible exact bitset_Check.mono _ _ _)
      | (with_reducible exact bitset_Count.mono _ _ _)
      | (with_reducible exact bitset_Get.mono _ _ _ _)
      | (with_reducible exact bitset_Of.mono _ _ _)
      | (with_reducible exact bitset_Ones.mono _ _ _)
      | (with_reducible exact torrentlaw4_has.mono _ _ _)
      | (with_reducible exact torrentlaw4_sameBytes.mono _ _ _)
      | (with_reducible exact LeO.refl _)
      | (with_reducible exact LeO.none _)
      | (with_reducible refine LeO.ite ?_ ?_)
      | (with_reducible refine LeO.bind ?_ (fun _ => ?_))
      | exact ih0 _ _ _ _
      | exact ih1 _ _ _ _ _
      | exact ih2 _ _ _ _ _
      | exact ih3 _ _ _ _ _
      | exact ih4 _ _ _ _ _ _
      | exact ih5 _ _ _ _ _ _
      | exact ih6 _ _ _ _ _
      | exact ih7 _ _ _
      | exact bitset_Check.mono _ _ _
      | exact bitset_Count.mono _ _ _
      | exact bitset_Get.mono _ _ _ _
      | exact bitset_Of.mono _ _ _
      | exact bitset_Ones.mono _ _ _
      | exact torrentlaw4_has.mono _ _ _
      | exact torrentlaw4_sameBytes.mono _ _ _
      | exact LeO.none _
      | refine LeO.ite ?_ ?_
      | refine LeO.bind ?_ (fun _ => ?_)
    · intro y0 y1 y2
      unfold torrentlaw4_BitsetTwoWay.j7
      repeat' first
      | (with_reducible exact ih0 _ _ _ _)
      | (with_reducible exact ih1 _ _ _ _ _)
      | (with_reducible exact ih2 _ _ _ _ _)
      | (with_reducible exact ih3 _ _ _ _ _)
      | (with_reducible exact ih4 _ _ _ _ _ _)
      | (with_reducible exact ih5 _ _ _ _ _ _)
      | (with_reducible exact ih6 _ _ _ _ _)
      | (with_reducible exact ih7 _ _ _)
      | (with_reducible exact bitset_Check.mono _ _ _)
      | (with_reducible exact bitset_Count.mono _ _ _)
      | (with_reducible exact bitset_Get.mono _ _ _ _)
      | (with_reducible exact bitset_Of.mono _ _ _)
      | (with_reducible exact bitset_Ones.mono _ _ _)
      | (with_reducible exact torrentlaw4_has.mono _ _ _)
      | (with_reducible exact torrentlaw4_sameBytes.mono _ _ _)
      | (with_reducible exact LeO.refl _)
      | (with_reducible exact LeO.none _)
      | (with_reducible refine LeO.ite ?_ ?_)
      | (with_reducible refine LeO.bind ?_ (fun _ => ?_))
      | exact ih0 _ _ _ _
      | exact ih1 _ _ _ _ _
      | exact ih2 _ _ _ _ _
      | exact ih3 _ _ _ _ _
      | exact ih4 _ _ _ _ _ _
      | exact ih5 _ _ _ _ _ _
      | exact ih6 _ _ _ _ _
      | exact ih7 _ _ _
      | exact bitset_Check.mono _ _ _
      | exact bitset_Count.mono _ _ _
      | exact bitset_Get.mono _ _ _ _
      | exact bitset_Of.mono _ _ _
      | exact bitset_Ones.mono _ _ _
      | exact torrentlaw4_has.mono _ _ _
      | exact torrentlaw4_sameBytes.mono _ _ _
      | exact LeO.none _
      | refine LeO.ite ?_ ?_
      | refine LeO.bind ?_ (fun _ => ?_)
theorem torrentlaw4_BitsetTwoWay.mono : ∀ a0 a1 a2 k, LeO (torrentlaw4_BitsetTwoWay.f k a0 a1 a2) (torrentlaw4_BitsetTwoWay.f (k + 1) a0 a1 a2) := by
  intro a0 a1 a2 k
  obtain ⟨ih0, ih1, ih2, ih3, ih4, ih5, ih6, ih7⟩ := torrentlaw4_BitsetTwoWay.mono_l k
  unfold torrentlaw4_BitsetTwoWay.f
  repeat' first
      | (with_reducible exact ih0 _ _ _ _)
      | (with_reducible exact ih1 _ _ _ _ _)
      | (with_reducible exact ih2 _ _ _ _ _)
      | (with_reducible exact ih3 _ _ _ _ _)
      | (with_reducible exact ih4 _ _ _ _ _ _)
      | (with_reducible exact ih5 _ _ _ _ _ _)
      | (with_reducible exact ih6 _ _ _ _ _)
      | (with_reducible exact ih7 _ _ _)
      | (with_reducible exact bitset_Check.mono _ _ _)
      | (with_reducible exact bitset_Count.mono _ _ _)
      | (with_reducible exact bitset_Get.mono _ _ _ _)
      | (with_reducible exact bitset_Of.mono _ _ _)
      | (with_reducible exact bitset_Ones.mono _ _ _)
      | (with_reducible exact torrentlaw4_has.mono _ _ _)
      | (with_reducible exact torrentlaw4_sameBytes.mono _ _ _)
      | (with_reducible exact LeO.refl _)
      | (with_reducible exact LeO.none _)
      | (with_reducible refine LeO.ite ?_ ?_)
      | (with_reducible refine LeO.bind ?_ (fun _ => ?_))
      | exact ih0 _ _ _ _
      | exact ih1 _ _ _ _ _
      | exact ih2 _ _ _ _ _
      | exact ih3 _ _ _ _ _
      | exact ih4 _ _ _ _ _ _
      | exact ih5 _ _ _ _ _ _
      | exact ih6 _ _ _ _ _
      | exact ih7 _ _ _
      | exact bitset_Check.mono _ _ _
      | exact bitset_Count.mono _ _ _
      | exact bitset_Get.mono _ _ _ _
      | exact bitset_Of.mono _ _ _
      | exact bitset_Ones.mono _ _ _
      | exact torrentlaw4_has.mono _ _ _
      | exact torrentlaw4_sameBytes.mono _ _ _
      | exact LeO.none _
      | refine LeO.ite ?_ ?_
      | refine LeO.bind ?_ (fun _ => ?_)
end Go.Proofs.Ytoohpdamndgdlaa.P
