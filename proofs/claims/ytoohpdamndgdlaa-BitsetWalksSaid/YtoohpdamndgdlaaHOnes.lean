/- bitset.Ones, a loop over Walk that collects: the places the walk yields, and Check's answer. Condition: at most 65536 places. -/
import Derived.Test.YtoohpdamndgdlaaHWalk1
import Derived.RangeFuncWrites
import Derived.RangeFuncBox
import Derived.Maps.AppendAt
set_option linter.unusedVariables false
namespace Go.Proofs.Ytoohpdamndgdlaa.P
open Go.RowKit Go.Proofs.YtoohpdamndgdlaaW.PrintWords Go.Proofs.YtoohpdamndgdlaaW.PrintLast Go.Proofs.YtoohpdamndgdlaaW.PrintMore Go.Proofs.Ytoohpdamndgdlaa.B
attribute [local go_sem] Oper.semAt_some

/-- 'list = append(list, ..)' in a loop over a walk: what the round owes, the list's box ahead of the walk's blocks, its row behind them. -/
theorem appended2 {w W w1 : World} {lo hi B : Nat} {t e : TypeId} {size : Nat} {v v' : Value} {k m : Nat} {xs ys : List Value} {tmp : Obj}
    (hv : Boxed W B t v) (hte : t ≠ e) (hrow : W.ownsRow hi e size v k xs) (hb1 : w.heap.size ≤ B) (hb2 : B < lo) (hb3 : w.heap.size ≤ hi) (hhi : hi ≤ W.heap.size) (hw : w.heap.size ≤ W.heap.size)
    (hown' : w1.ownsRow hi e size v' m ys) (hgrow : (W.alloc tmp).grownBy w1 v.ownBlock) :
    Boxed w1 B t v ∧ Boxed (w1.setCell ⟨B, 0, none⟩ v') B t v' ∧ (w1.setCell ⟨B, 0, none⟩ v').ownsRow hi e size v' m ys ∧ KeepsOthers W (w1.setCell ⟨B, 0, none⟩ v') ∧ Below w.heap.size W (w1.setCell ⟨B, 0, none⟩ v') ∧ Keeps lo hi W (w1.setCell ⟨B, 0, none⟩ v') := by
  have hv1 : Boxed w1 B t v := (hv.alloc tmp).kept hgrow (hv.not_row hte hrow)
  have hrb : ∀ j, v.ownBlock = some j → hi ≤ j := fun j ej => own_base hrow j ej
  refine ⟨hv1, hv1.set v', hown'.kept (grownBy_setCell' w1 B v') (.inr (hv1.not_row hte hown').symm), ?_, ?_, ?_⟩
  · refine ((KeepsOthers.alloc W tmp).trans (KeepsOthers.of_grownBy hgrow fun j o ej hj => ?_)).trans (KeepsOthers.setCell _ _ _)
    rcases (hrow.alloc tmp).2 with ⟨rfl, _⟩ | ⟨g, cap, cur, rfl, _, hgb, _⟩
    · simp [Value.ownBlock] at ej
    · obtain rfl : g = j := by simpa [Value.ownBlock] using ej
      rw [hgb] at hj; cases hj; rfl
  · exact (((Below.refl w.heap.size W).alloc hw tmp).grown hgrow (by simp; omega) fun j ej => Nat.le_trans hb3 (hrb j ej)).setCell (p := ⟨B, 0, none⟩) hb1 v'
  · intro b h1 h2
    rw [Below.heap_setCell _ _ _ _ (by simp; omega), hgrow.block b (by simp; omega) (fun e => by have := hrb b e.symm; omega)]
    exact (Below.heap_alloc W tmp b (by omega))
theorem int_row {W : World} {base hi : Nat} {e : TypeId} {v : Value} {xs : List Int} (h : W.ownsRow hi e 1 v xs.length (xs.map (Value.int .i64))) (hb : base ≤ hi) : Kd.R (Kd.int .i64) e W base (fun _ => True) v xs := by
  refine ⟨fun _ _ => trivial, xs.map (Value.int .i64), own_weaken h hb, (by rw [List.length_map]; exact (Nat.mul_one _).symm), fun j p hp => ?_⟩
  show ((xs.map (Value.int .i64)).drop (j * 1)).take 1 = [Value.int .i64 p]
  have hj := (List.getElem?_eq_some_iff.1 hp).1
  rw [Nat.mul_one, List.drop_eq_getElem_cons (by simpa using hj)]
  simp only [List.take_succ_cons, List.take_zero, List.getElem_map]
  rw [(List.getElem?_eq_some_iff.1 hp).2]

theorem info3' : (Try.prog.info? 3).map (fun i => (i.zero, i.size, i.bytes)) = some (some (.int .i64 0), 1, 8) := by kernel_rfl

def OnesSay (L : List Int) (r : Int) (w : World) (e : Ending) (w' : World) : Prop :=
  ∃ v, e = .returned (.tuple #[v, .int .i64 r]) ∧ Kd.R (Kd.int .i64) 3 w' w.heap.size (fun _ => True) v L ∧ Below w.heap.size w w'

set_option maxRecDepth 100000 in
set_option maxHeartbeats 4000000 in
theorem ones_in (k : Nat) (a0 : Int) (A1 : Option Addr) (c1 : Nat) (l1 : List Int) (w : World) (r : Int) (hr1 : Kd.C (Kd.int .u8) w A1 l1.length l1) (hc1 : l1.length ≤ c1) (h : bitset_Check.f k a0 l1 = some r) (hL : (walked r a0 l1).length ≤ 65536) :
    CallsIn Fence.wide 3 Try.prog 37 #[.int .i64 a0, .slice A1 l1.length c1] w (OnesSay (walked r a0 l1) r w) := by
  have HR1 := Aside0.mk hr1
  have HC1 := Aside0.mk hc1
  have HK := Aside0.mk h
  have HL := Aside0.mk hL
  clear hr1 hc1 h hL
  obtain ⟨i0, hi, hz0, hz1, hz2⟩ := info_parts info3'
  have HI := Aside0.mk hi
  have HZ0 := Aside0.mk hz0
  have HZ1 := Aside0.mk hz1
  have HZ2 := Aside0.mk hz2
  clear hi hz0 hz1 hz2
  refine callsIn_of_wp_marks Try.func37 rfl trivial ?_ rfl
  simp only [Try.ntmps37, List.size_toArray, List.length_cons, List.length_nil, Nat.reduceAdd, Nat.reduceSub, Array.replicate_succ, Array.replicate_zero, List.push_toArray, List.append_toArray, List.nil_append, List.cons_append]
  gi_wp2_with (refine ⟨trivial, ?_⟩; gi_at_call 25; refine (callsIn_wide.2 (walk_says k a0 A1 c1 l1 _ r (Kd.C_alloc HR1.out _) HC1.out HK.out)).mono ?_; rintro e w1 ⟨gf, lb, rfl, heg, hB1, hseq⟩; have HEG := Aside0.mk heg; have HB1 := Aside0.mk hB1; have HSQ := Aside0.mk hseq; clear heg hB1 hseq)
  have hlo : (w.alloc (.cells #[.slice none 0 0] 28)).heap.size = w.heap.size + 1 := by simp
  rw [hlo] at HSQ
  have hB0 := below_step ((Below.refl w.heap.size w).alloc (Nat.le_refl _) _) HB1.out
  have hv0 : Boxed w1 w.heap.size 28 (.slice none 0 0) := (HB1.out.block w.heap.size (by simp)).trans (Boxed.new w 28 _)
  have hlt1 : w.heap.size < w1.heap.size := hv0.lt
  refine wpIn_rangeFunc_ownG rfl (by decide) (gf := gf) (lb := lb) rfl trivial HEG.out (HSQ.out (3 - 1) (by decide)) (fun h k => h.trans k) (fun W l o o' hl _ _ _ => Keeps.putObj _ _ W l o' hl) (Below.refl _ _) (fun _ => rfl)
    (fun pre W => (∃ v, Boxed W w.heap.size 28 v ∧ W.ownsRow w1.heap.size 3 1 v pre.length (pre.map (Value.int .i64)) ∧ True) ∧ (Below w.heap.size w W ∧ w1.heap.size ≤ W.heap.size))
    (fun _ _ _ => False)
    (OwnFrom.and (Own.from (holdsRow_own w1.heap.size w.heap.size 28 3 1 (fun pre : List Int => pre.length) (fun pre => pre.map (Value.int .i64)) (fun _ _ => True)) _) (OwnFrom.and (ownFrom_below (Nat.le_refl _) (by omega)) (fun s A B row hs hg hr => Nat.le_trans hs hg.size)))
    (fun _ _ _ _ _ hs _ _ => hs)
    ⟨⟨_, hv0, World.ownsRow_nil _ _ _ _, trivial⟩, hB0, Nat.le_refl _⟩
    (fun x => { tmps := #[.int .i64 a0, .slice A1 l1.length c1, undef, undef, .slice none 0 0, .int .i64 0, .pointer (some ⟨w.heap.size, 0, none⟩), .int .i64 x, .int .i64 a0, .slice A1 l1.length c1, .func (.func gf) #[] lb, .int .i64 x, undef, undef, undef, undef, undef, undef, undef, undef], defers := [] }) ?assign ?body ?done ?stop
  case assign =>
    intro l x W K hK
    gi_wp2
    first | exact hK | simpa using hK
  case body =>
    rintro l pre x W ⟨⟨v, hv, hrow, _⟩, hB, hsz⟩ hlt
    have hc := hv.cell
    have HP := Aside0.mk (show pre.length < 65536 by have := HL.out; omega)
    have HV := Aside0.mk hv
    have HROW := Aside0.mk hrow
    have HBB := Aside0.mk hB
    have HSZ := Aside0.mk hsz
    have HLT := Aside0.mk hlt1
    clear hv hrow hB hsz hlt
    gi_wp2_with (gi_at_builtin; refine wpListIn_append_own _ rfl _ _ 28 rfl w1.heap.size 3 i0 (.int .i64 0) 1 8 Try.underlying28 HI.out HZ0.out HZ1.out HZ2.out rfl (by decide) _ _ _ rfl (HROW.out.alloc _) ⟨W.heap.size, 0, none⟩ 1 1 [.int .i64 x] rfl rfl (cell_one_new _ _ _) (by simp [Value.oneCell']) (by have := HP.out; simp only [maxLen]; omega) (by have := HP.out; omega) (by have := HSZ.out; simp; omega) ?_; intro v' w2 hown' hgrow _; obtain ⟨g', cap', rfl⟩ := ownsRow_succ hown'; obtain ⟨hv1, hv2, hr2, hk2, hb2, hk3⟩ := appended2 (lo := w.heap.size + 1) HV.out (by decide) HROW.out (Nat.le_refl _) (by omega) (by have := HLT.out; omega) HSZ.out (by have := HSZ.out; have := HLT.out; omega) hown' hgrow; have hc1 := hv1.cell; have hf1 := hv1.frozen; have HH := Aside0.mk (And.intro hv2 (And.intro hr2 (And.intro hk2 (And.intro hb2 hk3)))); clear hv2 hr2 hk2 hb2 hk3 hown' hgrow)
    obtain ⟨hv2, hr2, hk2, hb2, hk3⟩ := HH.out
    exact ⟨hk2.from _, hk3, ⟨_, hv2, by simpa using hr2, trivial⟩, HBB.out.trans hb2, Nat.le_trans HSZ.out (hk2.size)⟩
  case done =>
    rintro D ys W hD rfl ⟨⟨v, hv, hrow, _⟩, hB, hsz⟩ hK
    have hc := hv.cell
    have hmo : Try.prog.follows .mixedOrders = true := by kernel_rfl
    have HBW := Aside0.mk hB
    have HKD := Aside0.mk hK
    have HROW := Aside0.mk hrow
    clear hK hB hrow
    gi_wp2
    first | (gi_region_with_o (refine ⟨trivial, ?_⟩; gi_at_call 48; refine (callsIn_wide.2 (bitset_Check.calls k a0 _ _ l1 r _ (Kd.C_drew (Kd.C_below HR1.out HBW.out)) HC1.out HK.out)).mono ?_; rintro e w2 ⟨rfl, ⟨nd, rfl⟩⟩)) | (fail "no")
    all_goals
      have hb9 : Below w.heap.size w (W.drewN (1 + nd)) := pw_below_drewN HBW.out _
      have hk9 : (W.drewN (1 + nd)).heap[D]? = some (.deferred (some [])) := HKD.out
      have hr9 : (W.drewN (1 + nd)).ownsRow w1.heap.size 3 1 v (walked r a0 l1).length ((walked r a0 l1).map (Value.int .i64)) := HROW.out
      gi_wp2
      refine ⟨by simp, .inl ⟨_, _, rfl, run_takeDeferred hk9, ?_⟩⟩
      exact ⟨_, results_tmp2 (show Try.f37.results = #[.tmp 4, .tmp 5] from rfl) _ _ _, v, rfl, int_row (ownsRow_putObj hr9 _ hk9 rfl) (by omega), hb9.trans (belowK_b (w := w) (Nat.le_refl _) _ D _ _ (by omega) hk9 rfl rfl)⟩
  case stop =>
    rintro D c pre W _ _ h _
    exact h.elim
end Go.Proofs.Ytoohpdamndgdlaa.P
