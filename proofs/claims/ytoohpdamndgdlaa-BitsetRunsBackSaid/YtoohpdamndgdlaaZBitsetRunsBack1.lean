-- Merged by a program of this session out of the texts HWalk1, HOnes, HRound, HRuns, Px25, HCount, Px36, Px55, Px57, Px19 of this claim's own.
import Derived.Test.YtoohpdamndgdlaaZBitsetRunsBack0
import Derived.WalkSpells
import Derived.RangeFuncWrites
import Derived.RangeFuncBox
import Derived.Maps.AppendAt
import Derived.Sort.QuietThIn
import Derived.Sort.BigQuietIn
import Derived.Laws.OwnMore
import Derived.Shelf.RegionOpen
import Derived.Outline
import Derived.WalkSmall

/- The call of bitset.Walk: what it hands back, where Check is content and where it is not. Condition: at most 8192 bytes. -/
set_option linter.unusedVariables false
namespace Go.Proofs.Ytoohpdamndgdlaa.P
open Go.RowKit Go.Proofs.YtoohpdamndgdlaaW.PrintWords Go.Proofs.YtoohpdamndgdlaaW.PrintLast Go.Proofs.YtoohpdamndgdlaaW.PrintMore Go.Proofs.Ytoohpdamndgdlaa.B

/-- What Walk hands back, where Check is content. -/
def WalkGives (n : Int) (l1 : List Int) (w : World) (e : Ending) (w' : World) : Prop :=
  ∃ Bn Bo v, e = .returned (.func (.func 62) #[] #[.pointer (some ⟨Bn, 0, none⟩), .pointer (some ⟨Bo, 0, none⟩)]) ∧ (w.heap.size ≤ Bn ∧ Bn < w'.heap.size) ∧ (w.heap.size ≤ Bo ∧ Bo < w'.heap.size) ∧ w'.cell? ⟨Bn, 0, none⟩ = some (.int .i64 n) ∧ w'.cell? ⟨Bo, 0, none⟩ = some v ∧ Kd.R (Kd.int .u8) 5 w' w.heap.size (fun _ => True) v l1 ∧ Below w.heap.size w w'

set_option maxRecDepth 100000 in
set_option maxHeartbeats 4000000 in
theorem walk_ok (k : Nat) (a0 : Int) (A1 : Option Addr) (c1 : Nat) (l1 : List Int) (w : World) (hr1 : Kd.C (Kd.int .u8) w A1 l1.length l1) (hc1 : l1.length ≤ c1) (h : bitset_Check.f k a0 l1 = some 0) (hl : l1.length ≤ 8192) :
    Calls Try.prog 25 #[.int .i64 a0, .slice A1 l1.length c1] w (WalkGives a0 l1 w) := by
  have HR1 := Aside0.mk hr1
  have HC1 := Aside0.mk hc1
  have HK := Aside0.mk h
  have HL := Aside0.mk hl
  clear hr1 hc1 h hl
  have HB := Aside0.mk ((Below.refl w.heap.size w).alloc (Nat.le_refl _) (.cells #[.int .i64 a0] 3))
  go_enter Try.func25, Try.ntmps25
  go_wp2_with (first | ((with_reducible refine gate_callee (f := 48) rfl ?_); refine goesL_ (some 8) rfl rfl Try.func48 (by kernel_rfl) rfl #[.int .i64 a0, .slice A1 l1.length c1] rfl (by (try simp only [List.map_toArray, List.map_cons, List.map_nil]); first | done | rfl) ?_; (with_reducible refine (bitset_Check.calls k a0 _ _ l1 0 _ ?side1 ?side2 HK.out).mono ?_); (case side1 => repeat (first | exact HR1.out | (with_reducible refine Kd.C_alloc ?_ _) | (with_reducible refine Kd.C_drewN ?_ _) | (with_reducible refine Kd.C_drew ?_))); (case side2 => exact HC1.out); rintro e w' ⟨rfl, ⟨nd, rfl⟩⟩; refine ⟨_, rfl, ?_⟩) | ((with_reducible refine gate_builtin (b := .append) (xs := #[.const (.slice none 0 0), .tmp 10]) rfl ?_); at_builtin; go_must (refine Kd.R_append_rows (Kd.int .u8) (w0 := w) w.heap.size rfl (.const (.slice none 0 0)) (.tmp 10) 22 5 (.int .u8 0) 1 rfl Try.underlying22 info5 rfl (by decide) (by omega) (.slice none 0 0) ([] : List Int) l1 _ _ _ (fun _ => True) (fun _ => False) rfl rfl ?aO ?aR (fun _ _ h => h) (fun _ h => h.elim) ?aF ?aB ?aS ?aL ?_; (case aR => exact (Kd.C_drewN (Kd.C_alloc HR1.out _) _)); (case aB => exact (by repeat (first | (with_reducible first | exact HB.out | apply below_alloc | apply pw_below_drewN | apply below_drew1) | exact HB.out))); (case aF => exact (fun _ _ => trivial)); (case aO => exact ((Kd.R_nil _ _ _ _ (fun _ => True)))); (case aS => exact (below_size (by repeat (first | (with_reducible first | exact HB.out | apply below_alloc | apply pw_below_drewN | apply below_drew1) | exact HB.out)))); (case aL => have := HL.out; show (0 + l1.length) * 1 ≤ _; omega); intro v1 w1 ho hb hg hat; obtain ⟨Av, cv, ev⟩ := Kd.R_slice ho; subst ev; have HO := Aside0.mk ho; have HB2 := Aside0.mk hb; have HG := Aside0.mk hg; clear HB; clear ho hb hg hat)))
  refine bodyPost_ret (v := .func (.func 62) #[] #[.pointer (some ⟨w.heap.size, 0, none⟩), .pointer (some ⟨w1.heap.size, 0, none⟩)]) (by simp [results, Try.results25, go_sem]) rfl ?_
  have hbs := HB2.out.size
  have hlt : w.heap.size < w1.heap.size := by
    have := HG.out.size
    simp at this
    omega
  have hb0 : Boxed ((w.alloc (.cells #[.int .i64 a0] 3)).drewN nd) w.heap.size 3 (.int .i64 a0) := Boxed.new w 3 (.int .i64 a0)
  have hbn : Boxed w1 w.heap.size 3 (.int .i64 a0) := hb0.kept HG.out (by simp [Value.ownBlock])
  refine ⟨_, _, _, rfl, ⟨Nat.le_refl _, by simp; omega⟩, ⟨hbs, by simp⟩, (hbn.alloc _).cell, (Boxed.new w1 22 _).cell, Kd.R_alloc HO.out _, HB2.out.alloc hbs _⟩

set_option maxRecDepth 100000 in
set_option maxHeartbeats 4000000 in
theorem walk_no (k : Nat) (a0 : Int) (A1 : Option Addr) (c1 : Nat) (l1 : List Int) (w : World) (r : Int) (hr1 : Kd.C (Kd.int .u8) w A1 l1.length l1) (hc1 : l1.length ≤ c1) (h : bitset_Check.f k a0 l1 = some r) (hr : (r == 0) = false) :
    Calls Try.prog 25 #[.int .i64 a0, .slice A1 l1.length c1] w fun e w' => e = .returned (.func (.func 61) #[] #[]) ∧ Below w.heap.size w w' := by
  have HR1 := Aside0.mk hr1
  have HC1 := Aside0.mk hc1
  have HK := Aside0.mk h
  have hr2 : (r != 0) = true := by simpa using hr
  clear hr1 hc1 h
  have HB := Aside0.mk ((Below.refl w.heap.size w).alloc (Nat.le_refl _) (.cells #[.int .i64 a0] 3))
  go_enter Try.func25, Try.ntmps25
  go_wp2_with ((with_reducible refine gate_callee (f := 48) rfl ?_); refine goesL_ (some 8) rfl rfl Try.func48 (by kernel_rfl) rfl #[.int .i64 a0, .slice A1 l1.length c1] rfl (by (try simp only [List.map_toArray, List.map_cons, List.map_nil]); first | done | rfl) ?_; (with_reducible refine (bitset_Check.calls k a0 _ _ l1 r _ ?side1 ?side2 HK.out).mono ?_); (case side1 => repeat (first | exact HR1.out | (with_reducible refine Kd.C_alloc ?_ _) | (with_reducible refine Kd.C_drewN ?_ _) | (with_reducible refine Kd.C_drew ?_))); (case side2 => exact HC1.out); rintro e w' ⟨rfl, ⟨nd, rfl⟩⟩; refine ⟨_, rfl, ?_⟩)
  go_ret
  exact ⟨rfl, pw_below_drewN HB.out _⟩

/-- Walk's function where there is nothing. -/
theorem walk1_in (m : Nat) (l : Nat) (W : World) : CallsIn Fence.wide m Try.prog 61 #[.func (.yield l) #[] #[]] W fun e W' => (∃ v, e = .returned v) ∧ W = W' := by
  refine callsIn_wide.2 ?_
  go_enter Try.func61, Try.ntmps61
  go_wp2
  go_end0
  exact ⟨⟨_, rfl⟩, rfl⟩

/-- What a loop over a walk asks. -/
def Seq (gf : Nat) (lb : Array Value) (lo hi : Nat) (L : List Int) (w : World) : Prop :=
  ∀ m, 1 ≤ m → SeqStopsK Fence.wide m Try.prog gf lb (fun x : Int => #[Value.int .i64 x]) (Keeps lo hi) (fun ys => ys = L) (fun pre => pre <+: L) L.length w
theorem seq_no (lo hi : Nat) (w : World) : Seq 61 #[] lo hi [] w := fun m _ l J Jx W _ _ _ _ h0 =>
  (walk1_in m l W).mono fun e W' h => ⟨h.1, .inl ⟨[], rfl, h.2 ▸ h0⟩⟩
theorem seq_ok {n : Nat} {l1 : List Int} {w w' : World} {Bn Bo : Nat} {v : Value} (hn : n ≤ 65536) (hlen : n ≤ 8 * l1.length) (h1 : w.heap.size ≤ Bn ∧ Bn < w'.heap.size) (h2 : w.heap.size ≤ Bo ∧ Bo < w'.heap.size) (h3 : w'.cell? ⟨Bn, 0, none⟩ = some (.int .i64 n)) (h4 : w'.cell? ⟨Bo, 0, none⟩ = some v) (hR : Kd.R (Kd.int .u8) 5 w' w.heap.size (fun _ => True) v l1) :
    Seq 62 #[.pointer (some ⟨Bn, 0, none⟩), .pointer (some ⟨Bo, 0, none⟩)] w.heap.size w'.heap.size (onesTo l1 n) w' := fun m hm l J Jx W hW hJ hJx hY h0 => by
  have cell : ∀ b o, b < w'.heap.size → W.cell? ⟨b, o, none⟩ = w'.cell? ⟨b, o, none⟩ := fun b o hb => hW.cell (p := ⟨b, o, none⟩) hb
  have hJ' : ∀ s A B, J s A → A.grownBy B none → J s B := fun s A B hs hg => hJ s A B none hs hg (fun r e => by cases e)
  rcases Nat.eq_zero_or_pos l1.length with hz | hz
  · exact walk2_in m hm l Bn Bo w.heap.size w'.heap.size 0 0 n l1 hn hlen J Jx hJ' hY W hW.size h2 (fun h => by omega) (by rw [cell _ _ h1.2]; exact h3) (fun h => by omega) (fun h => by omega) h0
  · obtain ⟨g, cap, rfl, hg1, hg2, _⟩ := Kd.R_form hR hz
    refine walk2_in m hm l Bn Bo w.heap.size w'.heap.size g cap n l1 hn hlen J Jx hJ' hY W hW.size h2 (fun _ => ⟨hg1, hg2⟩) (by rw [cell _ _ h1.2]; exact h3) (fun _ => by rw [cell _ _ h2.2]; exact h4) (fun _ j hj => ?_) h0
    have := (Kd.R_celln 0 hR (j : Int) (by omega) (by omega)).1
    rw [Int.toNat_natCast] at this
    rw [cell _ _ hg2, this]
    rfl

/-- The program's own spelling of a bit's test. -/
theorem hit_is (xs : List Int) (i : Nat) (hi : i ≤ 65536) : (Go.bits .and .u8 (rd xs (wrap64 (Int.tdiv (i : Int) 8))) (shr .u8 128 (Int.tmod (i : Int) 8)) = 0) ↔ hit xs i = false := by
  rw [quo8 i (by omega), rem8, shr_mask _ (Nat.mod_lt _ (by decide)), rd_nat]
  unfold hit
  rw [bne_eq_false_iff_eq]
/-- What Walk hands back, either way: a function that yields L. -/
def WalkSays (L : List Int) (w : World) (e : Ending) (w' : World) : Prop :=
  ∃ gf lb, e = .returned (.func (.func gf) #[] lb) ∧ (∀ args W, (callFunc gf args).run Try.prog W = .ok (.enter gf args) W) ∧ Below w.heap.size w w' ∧ Seq gf lb w.heap.size w'.heap.size L w'
/-- What comes of a walk: the places of the set bits, or nothing. -/
def walked (r : Int) (a0 : Int) (l1 : List Int) : List Int := if r = 0 then onesTo l1 a0.toNat else []
theorem walk_says (k : Nat) (a0 : Int) (A1 : Option Addr) (c1 : Nat) (l1 : List Int) (w : World) (r : Int) (hr1 : Kd.C (Kd.int .u8) w A1 l1.length l1) (hc1 : l1.length ≤ c1) (h : bitset_Check.f k a0 l1 = some r) :
    Calls Try.prog 25 #[.int .i64 a0, .slice A1 l1.length c1] w (WalkSays (walked r a0 l1) w) := by
  by_cases hr : r = 0
  · subst hr
    obtain ⟨n, rfl, hn, hl⟩ := check_zero h
    refine (walk_ok k n A1 c1 l1 w hr1 hc1 h (by omega)).mono ?_
    rintro e w' ⟨Bn, Bo, v, rfl, h1, h2, h3, h4, hR, hB⟩
    refine ⟨62, _, rfl, enters_of Try.func62 (by kernel_rfl) rfl, hB, ?_⟩
    unfold walked
    rw [if_pos rfl, Int.toNat_natCast]
    exact seq_ok hn (by omega) h1 h2 h3 h4 hR
  · refine (walk_no k a0 A1 c1 l1 w r hr1 hc1 h (beq_eq_false_iff_ne.mpr hr)).mono ?_
    rintro e w' ⟨rfl, hB⟩
    refine ⟨61, #[], rfl, enters_of Try.func61 (by kernel_rfl) rfl, hB, ?_⟩
    unfold walked
    rw [if_neg hr]
    exact seq_no _ _ _
end Go.Proofs.Ytoohpdamndgdlaa.P

/- bitset.Ones, a loop over Walk that collects: the places the walk yields, and Check's answer. Condition: at most 65536 places. -/
set_option linter.unusedVariables false
namespace Go.Proofs.Ytoohpdamndgdlaa.P
open Go.RowKit Go.Proofs.YtoohpdamndgdlaaW.PrintWords Go.Proofs.YtoohpdamndgdlaaW.PrintLast Go.Proofs.YtoohpdamndgdlaaW.PrintMore Go.Proofs.Ytoohpdamndgdlaa.B
attribute [local go_sem] Oper.semAt_some

/-- 'list = append(list, ..)' in a loop over a walk: what the round owes, the list's box ahead of the walk's blocks, its row behind them. -/
theorem appended2 {w W w1 : World} {lo hi B : Nat} {t e : TypeId} {size : Nat} {v v' : Value} {k m : Nat} {xs ys : List Value} {tmp : Obj}
    (hv : Boxed W B t v) (hte : t ≠ e) (hrow : W.ownsRow hi e size v k xs) (hb1 : w.heap.size ≤ B) (hb2 : B < lo) (hb3 : w.heap.size ≤ hi) (hhi : hi ≤ W.heap.size) (hw : w.heap.size ≤ W.heap.size)
    (hown' : w1.ownsRow hi e size v' m ys) (hgrow : (W.alloc tmp).grownBy w1 v.ownBlock) :
    Boxed w1 B t v ∧ Boxed (w1.setCell ⟨B, 0, none⟩ v') B t v' ∧ (w1.setCell ⟨B, 0, none⟩ v').ownsRow hi e size v' m ys ∧ KeepsOthers W (w1.setCell ⟨B, 0, none⟩ v') ∧ Below w.heap.size W (w1.setCell ⟨B, 0, none⟩ v') ∧ Keeps lo hi W (w1.setCell ⟨B, 0, none⟩ v') := by
  have hv1 : Boxed w1 B t v := (hv.alloc tmp).kept hgrow (hv.not_row hte hrow)
  have hrb : ∀ j, v.ownBlock = some j → hi ≤ j := fun j ej => own_base hrow j ej
  refine ⟨hv1, hv1.set v', hown'.kept (grownBy_setCell' w1 B v') (.inr (hv1.not_row hte hown').symm), ?_, ?_, ?_⟩
  · refine ((KeepsOthers.alloc W tmp).trans (KeepsOthers.of_grownBy hgrow fun j o ej hj => ?_)).trans (KeepsOthers.setCell _ _ _)
    rcases (hrow.alloc tmp).2 with ⟨rfl, _⟩ | ⟨g, cap, cur, rfl, _, hgb, _⟩
    · simp [Value.ownBlock] at ej
    · obtain rfl : g = j := by simpa [Value.ownBlock] using ej
      rw [hgb] at hj; cases hj; rfl
  · exact (((Below.refl w.heap.size W).alloc hw tmp).grown hgrow (by simp; omega) fun j ej => Nat.le_trans hb3 (hrb j ej)).setCell (p := ⟨B, 0, none⟩) hb1 v'
  · intro b h1 h2
    rw [Below.heap_setCell _ _ _ _ (by simp; omega), hgrow.block b (by simp; omega) (fun e => by have := hrb b e.symm; omega)]
    exact (Below.heap_alloc W tmp b (by omega))
theorem int_row {W : World} {base hi : Nat} {e : TypeId} {v : Value} {xs : List Int} (h : W.ownsRow hi e 1 v xs.length (xs.map (Value.int .i64))) (hb : base ≤ hi) : Kd.R (Kd.int .i64) e W base (fun _ => True) v xs := by
  refine ⟨fun _ _ => trivial, xs.map (Value.int .i64), own_weaken h hb, (by rw [List.length_map]; exact (Nat.mul_one _).symm), fun j p hp => ?_⟩
  show ((xs.map (Value.int .i64)).drop (j * 1)).take 1 = [Value.int .i64 p]
  have hj := (List.getElem?_eq_some_iff.1 hp).1
  rw [Nat.mul_one, List.drop_eq_getElem_cons (by simpa using hj)]
  simp only [List.take_succ_cons, List.take_zero, List.getElem_map]
  rw [(List.getElem?_eq_some_iff.1 hp).2]

theorem info3' : (Try.prog.info? 3).map (fun i => (i.zero, i.size, i.bytes)) = some (some (.int .i64 0), 1, 8) := by kernel_rfl

def OnesSay (L : List Int) (r : Int) (w : World) (e : Ending) (w' : World) : Prop :=
  ∃ v, e = .returned (.tuple #[v, .int .i64 r]) ∧ Kd.R (Kd.int .i64) 3 w' w.heap.size (fun _ => True) v L ∧ Below w.heap.size w w'

set_option maxRecDepth 100000 in
set_option maxHeartbeats 4000000 in
theorem ones_in (k : Nat) (a0 : Int) (A1 : Option Addr) (c1 : Nat) (l1 : List Int) (w : World) (r : Int) (hr1 : Kd.C (Kd.int .u8) w A1 l1.length l1) (hc1 : l1.length ≤ c1) (h : bitset_Check.f k a0 l1 = some r) (hL : (walked r a0 l1).length ≤ 65536) :
    CallsIn Fence.wide 3 Try.prog 37 #[.int .i64 a0, .slice A1 l1.length c1] w (OnesSay (walked r a0 l1) r w) := by
  have HR1 := Aside0.mk hr1
  have HC1 := Aside0.mk hc1
  have HK := Aside0.mk h
  have HL := Aside0.mk hL
  clear hr1 hc1 h hL
  obtain ⟨i0, hi, hz0, hz1, hz2⟩ := info_parts info3'
  have HI := Aside0.mk hi
  have HZ0 := Aside0.mk hz0
  have HZ1 := Aside0.mk hz1
  have HZ2 := Aside0.mk hz2
  clear hi hz0 hz1 hz2
  refine callsIn_of_wp_marks Try.func37 rfl trivial ?_ rfl
  simp only [Try.ntmps37, List.size_toArray, List.length_cons, List.length_nil, Nat.reduceAdd, Nat.reduceSub, Array.replicate_succ, Array.replicate_zero, List.push_toArray, List.append_toArray, List.nil_append, List.cons_append]
  gi_wp2_with (refine ⟨trivial, ?_⟩; gi_at_call 25; refine (callsIn_wide.2 (walk_says k a0 A1 c1 l1 _ r (Kd.C_alloc HR1.out _) HC1.out HK.out)).mono ?_; rintro e w1 ⟨gf, lb, rfl, heg, hB1, hseq⟩; have HEG := Aside0.mk heg; have HB1 := Aside0.mk hB1; have HSQ := Aside0.mk hseq; clear heg hB1 hseq)
  have hlo : (w.alloc (.cells #[.slice none 0 0] 28)).heap.size = w.heap.size + 1 := by simp
  rw [hlo] at HSQ
  have hB0 := below_step ((Below.refl w.heap.size w).alloc (Nat.le_refl _) _) HB1.out
  have hv0 : Boxed w1 w.heap.size 28 (.slice none 0 0) := (HB1.out.block w.heap.size (by simp)).trans (Boxed.new w 28 _)
  have hlt1 : w.heap.size < w1.heap.size := hv0.lt
  refine wpIn_rangeFunc_ownG rfl (by decide) (gf := gf) (lb := lb) rfl trivial HEG.out (HSQ.out (3 - 1) (by decide)) (fun h k => h.trans k) (fun W l o o' hl _ _ _ => Keeps.putObj _ _ W l o' hl) (Below.refl _ _) (fun _ => rfl)
    (fun pre W => (∃ v, Boxed W w.heap.size 28 v ∧ W.ownsRow w1.heap.size 3 1 v pre.length (pre.map (Value.int .i64)) ∧ True) ∧ (Below w.heap.size w W ∧ w1.heap.size ≤ W.heap.size))
    (fun _ _ _ => False)
    (OwnFrom.and (Own.from (holdsRow_own w1.heap.size w.heap.size 28 3 1 (fun pre : List Int => pre.length) (fun pre => pre.map (Value.int .i64)) (fun _ _ => True)) _) (OwnFrom.and (ownFrom_below (Nat.le_refl _) (by omega)) (fun s A B row hs hg hr => Nat.le_trans hs hg.size)))
    (fun _ _ _ _ _ hs _ _ => hs)
    ⟨⟨_, hv0, World.ownsRow_nil _ _ _ _, trivial⟩, hB0, Nat.le_refl _⟩
    (fun x => { tmps := #[.int .i64 a0, .slice A1 l1.length c1, undef, undef, .slice none 0 0, .int .i64 0, .pointer (some ⟨w.heap.size, 0, none⟩), .int .i64 x, .int .i64 a0, .slice A1 l1.length c1, .func (.func gf) #[] lb, .int .i64 x, undef, undef, undef, undef, undef, undef, undef, undef], defers := [] }) ?assign ?body ?done ?stop
  case assign =>
    intro l x W K hK
    gi_wp2
    first | exact hK | simpa using hK
  case body =>
    rintro l pre x W ⟨⟨v, hv, hrow, _⟩, hB, hsz⟩ hlt
    have hc := hv.cell
    have HP := Aside0.mk (show pre.length < 65536 by have := HL.out; omega)
    have HV := Aside0.mk hv
    have HROW := Aside0.mk hrow
    have HBB := Aside0.mk hB
    have HSZ := Aside0.mk hsz
    have HLT := Aside0.mk hlt1
    clear hv hrow hB hsz hlt
    gi_wp2_with (gi_at_builtin; refine wpListIn_append_own _ rfl _ _ 28 rfl w1.heap.size 3 i0 (.int .i64 0) 1 8 Try.underlying28 HI.out HZ0.out HZ1.out HZ2.out rfl (by decide) _ _ _ rfl (HROW.out.alloc _) ⟨W.heap.size, 0, none⟩ 1 1 [.int .i64 x] rfl rfl (cell_one_new _ _ _) (by simp [Value.oneCell']) (by have := HP.out; simp only [maxLen]; omega) (by have := HP.out; omega) (by have := HSZ.out; simp; omega) ?_; intro v' w2 hown' hgrow _; obtain ⟨g', cap', rfl⟩ := ownsRow_succ hown'; obtain ⟨hv1, hv2, hr2, hk2, hb2, hk3⟩ := appended2 (lo := w.heap.size + 1) HV.out (by decide) HROW.out (Nat.le_refl _) (by omega) (by have := HLT.out; omega) HSZ.out (by have := HSZ.out; have := HLT.out; omega) hown' hgrow; have hc1 := hv1.cell; have hf1 := hv1.frozen; have HH := Aside0.mk (And.intro hv2 (And.intro hr2 (And.intro hk2 (And.intro hb2 hk3)))); clear hv2 hr2 hk2 hb2 hk3 hown' hgrow)
    obtain ⟨hv2, hr2, hk2, hb2, hk3⟩ := HH.out
    exact ⟨hk2.from _, hk3, ⟨_, hv2, by simpa using hr2, trivial⟩, HBB.out.trans hb2, Nat.le_trans HSZ.out (hk2.size)⟩
  case done =>
    rintro D ys W hD rfl ⟨⟨v, hv, hrow, _⟩, hB, hsz⟩ hK
    have hc := hv.cell
    have hmo : Try.prog.follows .mixedOrders = true := by kernel_rfl
    have HBW := Aside0.mk hB
    have HKD := Aside0.mk hK
    have HROW := Aside0.mk hrow
    clear hK hB hrow
    gi_wp2
    first | (gi_region_with_o (refine ⟨trivial, ?_⟩; gi_at_call 48; refine (callsIn_wide.2 (bitset_Check.calls k a0 _ _ l1 r _ (Kd.C_drew (Kd.C_below HR1.out HBW.out)) HC1.out HK.out)).mono ?_; rintro e w2 ⟨rfl, ⟨nd, rfl⟩⟩)) | (fail "no")
    all_goals
      have hb9 : Below w.heap.size w (W.drewN (1 + nd)) := pw_below_drewN HBW.out _
      have hk9 : (W.drewN (1 + nd)).heap[D]? = some (.deferred (some [])) := HKD.out
      have hr9 : (W.drewN (1 + nd)).ownsRow w1.heap.size 3 1 v (walked r a0 l1).length ((walked r a0 l1).map (Value.int .i64)) := HROW.out
      gi_wp2
      refine ⟨by simp, .inl ⟨_, _, rfl, run_takeDeferred hk9, ?_⟩⟩
      exact ⟨_, results_tmp2 (show Try.f37.results = #[.tmp 4, .tmp 5] from rfl) _ _ _, v, rfl, int_row (ownsRow_putObj hr9 _ hk9 rfl) (by omega), hb9.trans (belowK_b (w := w) (Nat.le_refl _) _ D _ _ (by omega) hk9 rfl rfl)⟩
  case stop =>
    rintro D c pre W _ _ h _
    exact h.elim
end Go.Proofs.Ytoohpdamndgdlaa.P

/- A region that draws its order and only reads, in a round of a range over a function (the fence has a round; no operation is a defer statement): one walk of the text's order serves every order. Over the kit's Derived.Sort.QuietThIn, whose own law asks that the fence has no round. -/
namespace Go.Proofs.Ytoohpdamndgdlaa.P
section
variable {F : Fence} {n : Nat} {P : Program} {ops : Array Oper} {md : Region.Mode} {C : World → Prop}
theorem wpIn_of_quiet_round {o : Oper} {a : Act} {K : Act → Prop} {K' : Act → World → Prop} {Q' : Exit → Act → World → Prop} {w : World} (hnd : ∀ c, o.op ≠ .defer c) (hw : C w) (h : ∀ a w', C w' → K a → K' a w')
    (ha : o.askedIn F P a C) (hh : o.quietIn F n P a C K) : o.wpIn F n P a w K' Q' := by
  obtain ⟨v, h1, h2⟩ := hh
  have h3 := h1 w hw
  unfold Oper.quietAtIn at h3
  unfold Oper.wpIn
  refine ⟨ha w hw, ?_⟩
  rw [Oper.semAt_eq _ _ _ hnd]
  generalize (execOp a.eval o).run P w = r at *
  cases r with
  | halt x w' => exact absurd h3 (by simp [Oper.quietUponIn])
  | ok x w' =>
    cases x with
    | value u =>
      obtain ⟨rfl, rfl⟩ := h3
      exact h _ _ hw h2
    | skip =>
      obtain ⟨rfl, rfl⟩ := h3
      exact h _ _ hw h2
    | enter f args =>
      obtain ⟨rfl, hd, hc⟩ := h3
      refine ⟨hd, hc.mono fun e w'' he => ?_⟩
      obtain ⟨rfl, hw''⟩ := he
      exact h _ _ hw'' h2
    | _ => exact absurd h3 (by simp [Oper.quietUponIn])
theorem wpAnyIn_of_quiet_round {Q : Act → Prop} {Q' : Exit → Act → World → Prop} (hnd : ∀ (j : Nat) (o : Oper) c, ops[j]? = some o → o.op ≠ .defer c) (hQ : ∀ a w, C w → Q a → Q' .normal a w) : ∀ (fuel : Nat) (listed : Array Bool) (a : Act) (w : World), C w →
    wpAnyQIn F n P md ops C Q fuel listed a → wpAnyIn F n P md ops Q' fuel listed a w
  | 0, _, _, _, hw, h => ⟨h.1, hQ _ _ hw h.2⟩
  | fuel + 1, listed, a, w, hw, h => ⟨fun h0 => hQ _ _ hw (h.1 h0), fun i hi => by
      have h1 := h.2 i hi
      unfold qOpIn at h1
      unfold wpOpIn
      split
      · rename_i ho
        simp only [ho] at h1
        exact wpAnyIn_of_quiet_round hnd hQ fuel _ _ _ hw h1
      · rename_i o ho
        simp only [ho] at h1
        obtain ⟨ha, h2⟩ := h1
        split
        · rename_i hwd
          simp only [hwd, if_true] at h2
          exact wpIn_of_quiet_round (fun c => hnd i o c ho) hw (fun a' w' hw' => wpAnyIn_of_quiet_round hnd hQ fuel _ a' w' hw') ha h2
        · rename_i hwd
          simp only [hwd] at h2
          exact ⟨ha w hw, wpAnyIn_of_quiet_round hnd hQ fuel _ _ _ hw h2⟩⟩
theorem wpIn_region_quiet_round {id : Nat} {Q : Exit → Act → World → Prop} {a : Act} {w : World} {l : List Oper} (hnd : ∀ o ∈ l, ∀ c, o.op ≠ .defer c) (hm : P.follows .mixedOrders = true) (hB : Region.lexB .any l.toArray = true)
    (h : wpQuietIn F n P l.toArray (fun w' => ∃ n, w' = w.drewN n) (fun a' => ∀ w', (∃ n, w' = w.drewN n) → Q .normal a' w') l a) : (Code.region id l.toArray true).wpIn F n P Q a w := by
  simp only [Region.lexB, Bool.and_eq_true] at hB
  refine wpIn_region_any hm (wpAnyIn_of_quiet_round (C := fun w' => ∃ n, w' = w.drewN n) (Q := fun a' => ∀ w', (∃ n, w' = w.drewN n) → Q .normal a' w') (fun j o c hj => hnd o (List.mem_of_getElem? (by simpa using hj)) c) (fun _ w' hw' h => h w' hw') _ _ _ _ ⟨1, rfl⟩ ?_)
  have := wpAnyQIn_lex (F := F) (n := n) (C := fun w' => ∃ n, w' = w.drewN n) (md := .any) hB.1 l 0 (Array.replicate l.length false) a (by simp) (by simpa using hB.2) h
  simpa using this
end
end Go.Proofs.Ytoohpdamndgdlaa.P

/- bitset.Runs, a loop over Walk that collects runs: the runs of what the walk yields, and Check's answer. Condition: at most 65536 places. -/
set_option linter.unusedVariables false
namespace Go.Proofs.Ytoohpdamndgdlaa.P
open Go.RowKit Go.Proofs.YtoohpdamndgdlaaW.PrintWords Go.Proofs.YtoohpdamndgdlaaW.PrintLast Go.Proofs.YtoohpdamndgdlaaW.PrintMore Go.Proofs.Ytoohpdamndgdlaa.B
attribute [local go_sem] Oper.semAt_some

/-- One place more. -/
def rstep (rs : List S59) (i : Int) : List S59 :=
  if rs.length = 0 then rs ++ [⟨i, 1⟩] else if wrap64 ((rs.getD (rs.length - 1) z59).f0 + (rs.getD (rs.length - 1) z59).f1) = i then rs.set (rs.length - 1) ⟨(rs.getD (rs.length - 1) z59).f0, wrap64 ((rs.getD (rs.length - 1) z59).f1 + 1)⟩ else rs ++ [⟨i, 1⟩]
def runsOf (l : List Int) : List S59 := l.foldl rstep []
theorem runsOf_snoc (l : List Int) (x : Int) : runsOf (l ++ [x]) = rstep (runsOf l) x := by simp [runsOf, List.foldl_append]
theorem rstep_length (rs : List S59) (i : Int) : (rstep rs i).length ≤ rs.length + 1 := by
  unfold rstep
  split
  · simp
  · split
    · simp
    · simp
theorem runsOf_length (l : List Int) : (runsOf l).length ≤ l.length := by
  have key : ∀ (l : List Int) (rs : List S59), (l.foldl rstep rs).length ≤ rs.length + l.length := by
    intro l
    induction l with
    | nil => intro rs; simp
    | cons x l ih =>
      intro rs
      have h1 := ih (rstep rs x)
      have h2 := rstep_length rs x
      simp only [List.foldl_cons, List.length_cons]
      omega
  have := key l []
  simpa [runsOf] using this
def cells59 (rs : List S59) : List Value := rs.flatMap fun x => [.int .i64 x.f0, .int .i64 x.f1]
theorem cells59_snoc (rs : List S59) (x : S59) : cells59 (rs ++ [x]) = cells59 rs ++ [.int .i64 x.f0, .int .i64 x.f1] := by simp [cells59]
theorem cells59_length (rs : List S59) : (cells59 rs).length = rs.length * 2 := by
  induction rs with
  | nil => rfl
  | cons x rs ih =>
    have e : cells59 (x :: rs) = [.int .i64 x.f0, .int .i64 x.f1] ++ cells59 rs := by simp [cells59]
    rw [e, List.length_append, ih, List.length_cons]
    simp
    omega
theorem cells59_at (rs : List S59) (m : Nat) (h : m < rs.length) : (cells59 rs)[m * 2]? = some (.int .i64 (rs.getD m z59).f0) ∧ (cells59 rs)[m * 2 + 1]? = some (.int .i64 (rs.getD m z59).f1) := by
  induction rs generalizing m with
  | nil => simp at h
  | cons x rs ih =>
    have e : cells59 (x :: rs) = .int .i64 x.f0 :: .int .i64 x.f1 :: cells59 rs := by simp [cells59]
    rw [e]
    cases m with
    | zero => exact ⟨rfl, rfl⟩
    | succ m =>
      have := ih m (by simpa using h)
      rw [show (m + 1) * 2 = m * 2 + 1 + 1 by omega, show m * 2 + 1 + 1 + 1 = m * 2 + 1 + 1 + 1 from rfl]
      simpa using this
theorem cells59_set (rs : List S59) (m : Nat) (h : m < rs.length) (y : Int) : (cells59 rs).set (m * 2 + 1) (.int .i64 y) = cells59 (rs.set m ⟨(rs.getD m z59).f0, y⟩) := by
  induction rs generalizing m with
  | nil => simp at h
  | cons x rs ih =>
    have e : ∀ x rs, cells59 (x :: rs) = .int .i64 x.f0 :: .int .i64 x.f1 :: cells59 rs := fun x rs => by simp [cells59]
    rw [e]
    cases m with
    | zero =>
      rw [List.set_cons_zero, e]
      rfl
    | succ m =>
      rw [show (m + 1) * 2 + 1 = m * 2 + 1 + 1 + 1 by omega, List.set_cons_succ, List.set_cons_succ, List.set_cons_succ, e, ih m (by simpa using h)]
      rfl
theorem row59 {W : World} {base hi : Nat} {v : Value} {rs : List S59} (h : W.ownsRow hi 59 2 v rs.length (cells59 rs)) (hb : base ≤ hi) : Kd.R k59 59 W base (fun _ => True) v rs := by
  refine ⟨fun _ _ => trivial, cells59 rs, own_weaken h hb, cells59_length rs, fun j p hp => ?_⟩
  have hj := (List.getElem?_eq_some_iff.1 hp).1
  obtain ⟨e1, e2⟩ := cells59_at rs j hj
  have ep : rs.getD j z59 = p := by rw [List.getD_eq_getElem?_getD, hp]; rfl
  rw [ep] at e1 e2
  show k59.M W base _ p (((cells59 rs).drop (j * 2)).take 2)
  have hd : ((cells59 rs).drop (j * 2)).take 2 = [.int .i64 p.f0, .int .i64 p.f1] := by
    have h1 := (List.getElem?_eq_some_iff.1 e1)
    have h2 := (List.getElem?_eq_some_iff.1 e2)
    obtain ⟨l1, q1⟩ := h1
    obtain ⟨l2, q2⟩ := h2
    rw [List.drop_eq_getElem_cons l1, List.drop_eq_getElem_cons l2, q1, q2]
    rfl
  rw [hd]
  exact k59_mkM W base _ p
theorem info59' : (Try.prog.info? 59).map (fun i => (i.zero, i.size, i.bytes)) = some (some (.agg #[.int .i64 0, .int .i64 0]), 2, 16) := by kernel_rfl

theorem rstep_nil {rs : List S59} (h : rs.length = 0) (x : Int) : rstep rs x = rs ++ [⟨x, 1⟩] := by
  unfold rstep
  rw [if_pos h]
theorem rstep_hit {rs : List S59} {m : Nat} {q : S59} {x : Int} (h : rs.length = m + 1) (hq : rs.getD m z59 = q) (hs : wrap64 (q.f0 + q.f1) = x) : rstep rs x = rs.set m ⟨q.f0, wrap64 (q.f1 + 1)⟩ := by
  unfold rstep
  rw [if_neg (by omega), show rs.length - 1 = m by omega, hq, if_pos hs]
theorem rstep_miss {rs : List S59} {m : Nat} {q : S59} {x : Int} (h : rs.length = m + 1) (hq : rs.getD m z59 = q) (hs : ¬ wrap64 (q.f0 + q.f1) = x) : rstep rs x = rs ++ [⟨x, 1⟩] := by
  unfold rstep
  rw [if_neg (by omega), show rs.length - 1 = m by omega, hq, if_neg hs]
theorem keeps_drewN (W : World) (n : Nat) : KeepsOthers W (W.drewN n) := KeepsOthers.of_grownBy (row := none) ⟨rfl, rfl, rfl, Nat.le_refl _, fun _ _ _ => rfl⟩ (fun j o ej _ => by cases ej)

def RunsSay (L : List Int) (r : Int) (w : World) (e : Ending) (w' : World) : Prop :=
  ∃ v, e = .returned (.tuple #[v, .int .i64 r]) ∧ Kd.R k59 59 w' w.heap.size (fun _ => True) v (runsOf L) ∧ Below w.heap.size w w'

set_option maxRecDepth 100000 in
set_option maxHeartbeats 4000000 in
theorem runs_in (k : Nat) (a0 : Int) (A1 : Option Addr) (c1 : Nat) (l1 : List Int) (w : World) (r : Int) (hr1 : Kd.C (Kd.int .u8) w A1 l1.length l1) (hc1 : l1.length ≤ c1) (h : bitset_Check.f k a0 l1 = some r) (hL : (walked r a0 l1).length ≤ 65536) :
    CallsIn Fence.wide 3 Try.prog 28 #[.int .i64 a0, .slice A1 l1.length c1] w (RunsSay (walked r a0 l1) r w) := by
  have HR1 := Aside0.mk hr1
  have HC1 := Aside0.mk hc1
  have HK := Aside0.mk h
  have HL := Aside0.mk hL
  clear hr1 hc1 h hL
  obtain ⟨i0, hi, hz0, hz1, hz2⟩ := info_parts info59'
  have HI := Aside0.mk hi
  have HZ0 := Aside0.mk hz0
  have HZ1 := Aside0.mk hz1
  have HZ2 := Aside0.mk hz2
  clear hi hz0 hz1 hz2
  refine callsIn_of_wp_marks Try.func28 rfl trivial ?_ rfl
  simp only [Try.ntmps28, List.size_toArray, List.length_cons, List.length_nil, Nat.reduceAdd, Nat.reduceSub, Array.replicate_succ, Array.replicate_zero, List.push_toArray, List.append_toArray, List.nil_append, List.cons_append]
  gi_wp2_with (refine ⟨trivial, ?_⟩; gi_at_call 25; refine (callsIn_wide.2 (walk_says k a0 A1 c1 l1 _ r (Kd.C_alloc HR1.out _) HC1.out HK.out)).mono ?_; rintro e w1 ⟨gf, lb, rfl, heg, hB1, hseq⟩; have HEG := Aside0.mk heg; have HB1 := Aside0.mk hB1; have HSQ := Aside0.mk hseq; clear heg hB1 hseq)
  have hlo : (w.alloc (.cells #[.slice none 0 0] 42)).heap.size = w.heap.size + 1 := by simp
  rw [hlo] at HSQ
  have hB0 := below_step ((Below.refl w.heap.size w).alloc (Nat.le_refl _) _) HB1.out
  have hv0 : Boxed w1 w.heap.size 42 (.slice none 0 0) := (HB1.out.block w.heap.size (by simp)).trans (Boxed.new w 42 _)
  have hlt1 : w.heap.size < w1.heap.size := hv0.lt
  refine wpIn_rangeFunc_ownG rfl (by decide) (gf := gf) (lb := lb) rfl trivial HEG.out (HSQ.out (3 - 1) (by decide)) (fun h k => h.trans k) (fun W l o o' hl _ _ _ => Keeps.putObj _ _ W l o' hl) (Below.refl _ _) (fun _ => rfl)
    (fun pre W => (∃ v, Boxed W w.heap.size 42 v ∧ W.ownsRow w1.heap.size 59 2 v (runsOf pre).length (cells59 (runsOf pre)) ∧ True) ∧ (Below w.heap.size w W ∧ w1.heap.size ≤ W.heap.size))
    (fun _ _ _ => False)
    (OwnFrom.and (Own.from (holdsRow_own w1.heap.size w.heap.size 42 59 2 (fun pre : List Int => (runsOf pre).length) (fun pre => cells59 (runsOf pre)) (fun _ _ => True)) _) (OwnFrom.and (ownFrom_below (Nat.le_refl _) (by omega)) (fun s A B row hs hg hr => Nat.le_trans hs hg.size)))
    (fun _ _ _ _ _ hs _ _ => hs)
    ⟨⟨_, hv0, World.ownsRow_nil _ _ _ _, trivial⟩, hB0, Nat.le_refl _⟩
    (fun x => { tmps := #[.int .i64 a0, .slice A1 l1.length c1, undef, undef, .slice none 0 0, .int .i64 0, .pointer (some ⟨w.heap.size, 0, none⟩), .int .i64 x, undef, .int .i64 a0, .slice A1 l1.length c1, .func (.func gf) #[] lb, .int .i64 x, undef, undef, undef, undef, undef, undef, undef, undef, undef, undef, undef, undef, undef, undef, undef, undef, undef, undef, undef, undef, undef, undef, undef, undef, undef, undef, undef, undef, undef, undef, undef, undef, undef, undef, undef, undef, undef], defers := [] }) ?assign ?body ?done ?stop
  case assign =>
    intro l x W K hK
    gi_wp2
    first | exact hK | simpa using hK
  case body =>
    rintro l pre x W ⟨⟨v, hv, hrow, _⟩, hB, hsz⟩ hlt
    have hc := hv.cell
    have hmo : Try.prog.follows .mixedOrders = true := by kernel_rfl
    have HP := Aside0.mk (show pre.length < 65536 by have := HL.out; omega)
    have HPR := Aside0.mk (runsOf_length pre)
    have HBB := Aside0.mk hB
    have HSZ := Aside0.mk hsz
    have HLT := Aside0.mk hlt1
    clear hB hsz hlt hlt1 hB0 hv0 hlo
    obtain ⟨rs, hrs⟩ : ∃ rs, runsOf pre = rs := ⟨_, rfl⟩
    rw [hrs] at hrow HPR
    have HRS := Aside0.mk hrs
    clear hrs
    by_cases hz : rs.length = 0
    · rw [hz] at hrow
      obtain ⟨Av, cv, rfl⟩ := own_slice hrow
      have HM := Aside0.mk hz
      have HST := Aside0.mk (rstep_nil hz x)
      have HV := Aside0.mk hv
      have HROW := Aside0.mk hrow
      clear hz hv hrow
      gi_wp2
      refine wpIn_region_quiet_round (by simp) hmo (by kernel_rfl) ?_
      repeat (gi_big_quiet_step (fail))
      refine wpQuietIn_nil ?_
      intro _ hw'
      obtain ⟨nq, hw''⟩ := hw'
      subst hw''
      have HV2 : Aside0 (Boxed (W.drewN nq) w.heap.size 42 (.slice Av 0 cv)) := ⟨HV.out⟩
      have HROW2 : Aside0 ((W.drewN nq).ownsRow w1.heap.size 59 2 (.slice Av 0 cv) _ (cells59 rs)) := ⟨HROW.out⟩
      have HBB2 : Aside0 (Below w.heap.size w (W.drewN nq)) := ⟨pw_below_drewN HBB.out _⟩
      have HSZ2 : Aside0 (w1.heap.size ≤ (W.drewN nq).heap.size) := ⟨HSZ.out⟩
      have HKO := Aside0.mk (keeps_drewN W nq)
      have HKP : Aside0 (Keeps (w.heap.size + 1) w1.heap.size W (W.drewN nq)) := ⟨fun _ _ _ => rfl⟩
      have hc2 : (W.drewN nq).cell? ⟨w.heap.size, 0, none⟩ = some (.slice Av 0 cv) := HV2.out.cell
      generalize W.drewN nq = W2 at HV2 HROW2 HBB2 HSZ2 HKO HKP hc2 ⊢
      gi_wp2_with (gi_at_builtin; refine wpListIn_append_own _ rfl _ _ 42 rfl w1.heap.size 59 i0 (.agg #[.int .i64 0, .int .i64 0]) 2 16 Try.underlying42 HI.out HZ0.out HZ1.out HZ2.out rfl (by decide) _ _ _ rfl (HROW2.out.alloc _) ⟨W2.heap.size, 0, none⟩ 1 1 [.int .i64 x, .int .i64 1] rfl rfl (Go.cell_two_new _ _ _ _) (by simp [Value.oneCell']) (by have := HP.out; have := HPR.out; have := HM.out; simp only [maxLen]; omega) (by have := HP.out; have := HPR.out; have := HM.out; omega) (by have := HSZ2.out; simp; omega) ?_; intro v' w2 hown' hgrow _; obtain ⟨g', cap', rfl⟩ := ownsRow_succ hown'; obtain ⟨hv1, hv2, hr2, hk2, hb2, hk3⟩ := appended2 (lo := w.heap.size + 1) HV2.out (by decide) HROW2.out (Nat.le_refl _) (by omega) (by have := HLT.out; omega) HSZ2.out (by have := HSZ2.out; have := HLT.out; omega) hown' hgrow; have hc1 := hv1.cell; have hf1 := hv1.frozen; have HH := Aside0.mk (And.intro hv2 (And.intro hr2 (And.intro hk2 (And.intro hb2 hk3)))); clear hv2 hr2 hk2 hb2 hk3 hown' hgrow)
      obtain ⟨hv2, hr2, hk2, hb2, hk3⟩ := HH.out
      refine ⟨(HKO.out.trans hk2).from _, HKP.out.trans hk3, ⟨_, hv2, ?_, trivial⟩, HBB2.out.trans hb2, Nat.le_trans HSZ2.out hk2.size⟩
      rw [runsOf_snoc, HRS.out, HST.out, cells59_snoc, List.length_append, HM.out]
      exact hr2
    · obtain ⟨m, hm⟩ : ∃ m, rs.length = m + 1 := ⟨rs.length - 1, by omega⟩
      rw [hm] at hrow
      obtain ⟨g, cap, rfl⟩ := ownsRow_succ hrow
      obtain ⟨q, hq⟩ : ∃ q, rs.getD m z59 = q := ⟨_, rfl⟩
      obtain ⟨e1, e2⟩ := cells59_at rs m (by omega)
      rw [hq] at e1 e2
      have hx0 := (hrow.cellAt (m * 2) (by omega)).trans e1
      have hx1 := (hrow.cellAt (m * 2 + 1) (by omega)).trans e2
      have HM := Aside0.mk hm
      have HQ := Aside0.mk hq
      have HV := Aside0.mk hv
      have HROW := Aside0.mk hrow
      have hm2 : m < 65536 := by have := HP.out; have := HPR.out; omega
      clear hm hq hv hrow e1 e2 hz
      obtain ⟨s, hs⟩ : ∃ s, IntKind.i64.wrap (q.f0 + q.f1) = s := ⟨_, rfl⟩
      have HS := Aside0.mk (show wrap64 (q.f0 + q.f1) = s from (IntWalk.i64_left _).symm.trans hs)
      by_cases hsx : s = x
      · have hsb : (s == x) = true := beq_iff_eq.mpr hsx
        have HSX := Aside0.mk hsx
        clear hsx
        gi_wp2
        refine wpIn_region_quiet_round (by simp) hmo (by kernel_rfl) ?_
        repeat (gi_big_quiet_step (fail))
        refine wpQuietIn_nil ?_
        intro _ hw'
        obtain ⟨nq, hw''⟩ := hw'
        subst hw''
        have hfz : (W.drewN nq).frozen? ⟨g, m * 2 + 1, none⟩ = false := HROW.out.frozenAt (m * 2 + 1)
        gi_wp2
        obtain ⟨hr2, hg2⟩ := World.ownsRow.stored (w := W.drewN nq) HROW.out (m * 2 + 1) (.int .i64 (wrap64 (q.f1 + 1)))
        obtain ⟨hg1, hg3⟩ := HROW.out.lt g rfl
        have hne : w.heap.size ≠ g := by have := HLT.out; omega
        refine ⟨((keeps_drewN W nq).trans (KeepsOthers.setCell _ _ _)).from _, fun b h1 h2 => (Below.heap_setCell _ _ _ _ (by simp; omega)).trans rfl, ⟨_, (show Boxed (W.drewN nq) w.heap.size 42 _ from HV.out).kept hg2 (by simp; omega), ?_, trivial⟩, (pw_below_drewN HBB.out nq).setCell (by show w.heap.size ≤ g; have := HLT.out; omega) _, by simp; exact HSZ.out⟩
        have HST := rstep_hit HM.out HQ.out (HS.out.trans HSX.out)
        rw [runsOf_snoc, HRS.out, HST, ← HQ.out, ← cells59_set rs m (by have := HM.out; omega) _, HQ.out, List.length_set, HM.out]
        exact hr2
      · have hsb : (s == x) = false := beq_eq_false_iff_ne.mpr hsx
        have HST := Aside0.mk (rstep_miss HM.out HQ.out (fun e => hsx (HS.out.symm.trans e)))
        clear hsx
        gi_wp2
        refine wpIn_region_quiet_round (by simp) hmo (by kernel_rfl) ?_
        repeat (gi_big_quiet_step (fail))
        refine wpQuietIn_nil ?_
        intro _ hw'
        obtain ⟨nq, hw''⟩ := hw'
        subst hw''
        have HV2 : Aside0 (Boxed (W.drewN nq) w.heap.size 42 (.slice (some ⟨g, 0, none⟩) (m + 1) cap)) := ⟨HV.out⟩
        have HROW2 : Aside0 ((W.drewN nq).ownsRow w1.heap.size 59 2 (.slice (some ⟨g, 0, none⟩) (m + 1) cap) _ (cells59 rs)) := ⟨HROW.out⟩
        have HBB2 : Aside0 (Below w.heap.size w (W.drewN nq)) := ⟨pw_below_drewN HBB.out _⟩
        have HSZ2 : Aside0 (w1.heap.size ≤ (W.drewN nq).heap.size) := ⟨HSZ.out⟩
        have HKO := Aside0.mk (keeps_drewN W nq)
        have HKP : Aside0 (Keeps (w.heap.size + 1) w1.heap.size W (W.drewN nq)) := ⟨fun _ _ _ => rfl⟩
        have hc2 : (W.drewN nq).cell? ⟨w.heap.size, 0, none⟩ = some (.slice (some ⟨g, 0, none⟩) (m + 1) cap) := HV2.out.cell
        generalize W.drewN nq = W2 at HV2 HROW2 HBB2 HSZ2 HKO HKP hc2 ⊢
        gi_wp2_with (gi_at_builtin; refine wpListIn_append_own _ rfl _ _ 42 rfl w1.heap.size 59 i0 (.agg #[.int .i64 0, .int .i64 0]) 2 16 Try.underlying42 HI.out HZ0.out HZ1.out HZ2.out rfl (by decide) _ _ _ rfl (HROW2.out.alloc _) ⟨W2.heap.size, 0, none⟩ 1 1 [.int .i64 x, .int .i64 1] rfl rfl (Go.cell_two_new _ _ _ _) (by simp [Value.oneCell']) (by have := HP.out; have := HPR.out; have := HM.out; simp only [maxLen]; omega) (by have := HP.out; have := HPR.out; have := HM.out; omega) (by have := HSZ2.out; simp; omega) ?_; intro v' w2 hown' hgrow _; obtain ⟨g', cap', rfl⟩ := ownsRow_succ hown'; obtain ⟨hv1, hv2, hr2, hk2, hb2, hk3⟩ := appended2 (lo := w.heap.size + 1) HV2.out (by decide) HROW2.out (Nat.le_refl _) (by omega) (by have := HLT.out; omega) HSZ2.out (by have := HSZ2.out; have := HLT.out; omega) hown' hgrow; have hc1 := hv1.cell; have hf1 := hv1.frozen; have HH := Aside0.mk (And.intro hv2 (And.intro hr2 (And.intro hk2 (And.intro hb2 hk3)))); clear hv2 hr2 hk2 hb2 hk3 hown' hgrow)
        obtain ⟨hv2, hr2, hk2, hb2, hk3⟩ := HH.out
        refine ⟨(HKO.out.trans hk2).from _, HKP.out.trans hk3, ⟨_, hv2, ?_, trivial⟩, HBB2.out.trans hb2, Nat.le_trans HSZ2.out hk2.size⟩
        rw [runsOf_snoc, HRS.out, HST.out, cells59_snoc, List.length_append, HM.out]
        exact hr2
  case done =>
    rintro D ys W hD rfl ⟨⟨v, hv, hrow, _⟩, hB, hsz⟩ hK
    have hc := hv.cell
    have hmo : Try.prog.follows .mixedOrders = true := by kernel_rfl
    have HBW := Aside0.mk hB
    have HKD := Aside0.mk hK
    have HROW := Aside0.mk hrow
    clear hK hB hrow
    gi_wp2
    first | (gi_region_with_o (refine ⟨trivial, ?_⟩; gi_at_call 48; refine (callsIn_wide.2 (bitset_Check.calls k a0 _ _ l1 r _ (Kd.C_drew (Kd.C_below HR1.out HBW.out)) HC1.out HK.out)).mono ?_; rintro e w2 ⟨rfl, ⟨nd, rfl⟩⟩)) | (fail "no")
    all_goals
      have hb9 : Below w.heap.size w (W.drewN (1 + nd)) := pw_below_drewN HBW.out _
      have hk9 : (W.drewN (1 + nd)).heap[D]? = some (.deferred (some [])) := HKD.out
      have hr9 : (W.drewN (1 + nd)).ownsRow w1.heap.size 59 2 v (runsOf (walked r a0 l1)).length (cells59 (runsOf (walked r a0 l1))) := HROW.out
      gi_wp2
      refine ⟨by simp, .inl ⟨_, _, rfl, run_takeDeferred hk9, ?_⟩⟩
      exact ⟨_, results_tmp2 (show Try.f28.results = #[.tmp 4, .tmp 5] from rfl) _ _ _, v, rfl, row59 (ownsRow_putObj hr9 _ hk9 rfl) (by omega), hb9.trans (belowK_b (w := w) (Nat.le_refl _) _ D _ _ (by omega) hk9 rfl rfl)⟩
  case stop =>
    rintro D c pre W _ _ h _
    exact h.elim
end Go.Proofs.Ytoohpdamndgdlaa.P

-- Made by a program of this session (the print of the kit over a neighbour), for this claim.
namespace Go.Proofs.Ytoohpdamndgdlaa.P
open Go.RowKit Go.Proofs.YtoohpdamndgdlaaW.PrintWords Go.Proofs.YtoohpdamndgdlaaW.PrintLast Go.Proofs.YtoohpdamndgdlaaW.PrintMore
attribute [local go_sem] max2_int min2_int max_two min_two max_three min_three max_four min_four   -- for this text's walks alone
set_option linter.unusedVariables false
set_option linter.unusedSimpArgs false

/-! ### bitset_Runs: function 28 -/
def bitset_Runs.l0 : Nat → Int → List Int → List (S59) → Int → Option ((List (S59)) × Int)
  | 0, _, _, _, _ => none
  | k + 1, x0, x1, x7, x8 => if x8 < x0 then (if 0 ≤ (wrap64 (Int.tdiv x8 8)) then (if (wrap64 (Int.tdiv x8 8)) < (x1.length : Int) then (if 0 ≤ (Int.tmod x8 8) then (if (Go.bits .and .u8 (rd x1 (wrap64 (Int.tdiv x8 8))) (shr .u8 128 (Int.tmod x8 8))) = 0 then (bitset_Runs.l0 k x0 x1 x7 (wrap64 (x8 + 1))) else (if (wrap64 ((x7.length : Int) - 1)) ≥ 0 then (if 0 ≤ (wrap64 ((x7.length : Int) - 1)) then (if (wrap64 ((x7.length : Int) - 1)) < (x7.length : Int) then (if (wrap64 (((rd_T59 x7 (wrap64 ((x7.length : Int) - 1))).f0) + ((rd_T59 x7 (wrap64 ((x7.length : Int) - 1))).f1))) = x8 then (bitset_Runs.l0 k x0 x1 (x7.set ((wrap64 ((x7.length : Int) - 1)) : Int).toNat (⟨(rd_T59 x7 (wrap64 ((x7.length : Int) - 1))).f0, wrap64 (((rd_T59 x7 (wrap64 ((x7.length : Int) - 1))).f1) + 1)⟩ : S59)) (wrap64 (x8 + 1))) else (if x7.length < 8796093022208 then (bitset_Runs.l0 k x0 x1 (x7 ++ [(⟨x8, 1⟩ : S59)]) (wrap64 (x8 + 1))) else (none))) else (none)) else (none)) else (if x7.length < 8796093022208 then (bitset_Runs.l0 k x0 x1 (x7 ++ [(⟨x8, 1⟩ : S59)]) (wrap64 (x8 + 1))) else (none)))) else (none)) else (none)) else (none)) else (some (x7, 0))
def bitset_Runs.f (k : Nat) (a0 : Int) (l1 : List Int) : Option ((List (S59)) × Int) := (bitset_Check.f k a0 l1).bind fun t215 => (if t215 = 0 then (bitset_Runs.l0 k a0 l1 ([] : List (S59)) 0) else (some (([] : List (S59)), t215)))
theorem bitset_Runs.mono_l : ∀ k, (∀ y0 y1 y2 y3, LeO (bitset_Runs.l0 k y0 y1 y2 y3) (bitset_Runs.l0 (k + 1) y0 y1 y2 y3))
  | 0 => fun _ _ _ _ r h => by simp [bitset_Runs.l0] at h
  | k + 1 => by
    have ih0 := bitset_Runs.mono_l k
    · intro y0 y1 y2 y3
      unfold bitset_Runs.l0
      repeat' first
      | (with_reducible exact ih0 _ _ _ _)
      | (with_reducible exact bitset_Check.mono _ _ _)
      | (with_reducible exact LeO.refl _)
      | (with_reducible exact LeO.none _)
      | (with_reducible refine LeO.ite ?_ ?_)
      | (with_reducible refine LeO.bind ?_ (fun _ => ?_))
      | exact ih0 _ _ _ _
      | exact bitset_Check.mono _ _ _
      | exact LeO.none _
      | refine LeO.ite ?_ ?_
      | refine LeO.bind ?_ (fun _ => ?_)
theorem bitset_Runs.mono : ∀ a0 a1 k, LeO (bitset_Runs.f k a0 a1) (bitset_Runs.f (k + 1) a0 a1) := by
  intro a0 a1 k
  have ih0 := bitset_Runs.mono_l k
  unfold bitset_Runs.f
  repeat' first
      | (with_reducible exact ih0 _ _ _ _)
      | (with_reducible exact bitset_Check.mono _ _ _)
      | (with_reducible exact LeO.refl _)
      | (with_reducible exact LeO.none _)
      | (with_reducible refine LeO.ite ?_ ?_)
      | (with_reducible refine LeO.bind ?_ (fun _ => ?_))
      | exact ih0 _ _ _ _
      | exact bitset_Check.mono _ _ _
      | exact LeO.none _
      | refine LeO.ite ?_ ?_
      | refine LeO.bind ?_ (fun _ => ?_)
open Go.Proofs.Ytoohpdamndgdlaa.B in
theorem bitset_Runs.told_l (n : Nat) (hn : n ≤ 65536) (l : List Int) (hl : n ≤ 8 * l.length) : ∀ (k i : Nat) (r1 : List S59) (r2 : Int), i ≤ n → bitset_Runs.l0 k (n : Int) l (runsOf (onesTo l i)) (i : Int) = some (r1, r2) → r1 = runsOf (onesTo l n) ∧ r2 = 0
  | 0, _, _, _, _, h => by simp [bitset_Runs.l0] at h
  | k + 1, i, r1, r2, hi, h => by
    simp only [bitset_Runs.l0] at h
    by_cases hlt : i < n
    · obtain ⟨g1, g2, g3⟩ := tests_in l i (by omega) (by omega)
      have hin := onesTo_length l i
      have hrl := runsOf_length (onesTo l i)
      rw [if_pos (by omega), if_pos g1, if_pos g2, if_pos g3, inc i (by omega)] at h
      cases hb : hit l i with
      | false =>
        rw [if_pos ((hit_is l i (by omega)).2 hb), ← onesTo_miss hb] at h
        exact bitset_Runs.told_l n hn l hl k (i + 1) r1 r2 (by omega) h
      | true =>
        rw [if_neg (fun h0 => by rw [(hit_is l i (by omega)).1 h0] at hb; cases hb)] at h
        have key : ∀ rs : List S59, rs.length ≤ 65536 →
            (if wrap64 ((rs.length : Int) - 1) ≥ 0 then if 0 ≤ wrap64 ((rs.length : Int) - 1) then if wrap64 ((rs.length : Int) - 1) < (rs.length : Int) then if wrap64 ((rd_T59 rs (wrap64 ((rs.length : Int) - 1))).f0 + (rd_T59 rs (wrap64 ((rs.length : Int) - 1))).f1) = (i : Int) then bitset_Runs.l0 k (n : Int) l (rs.set (wrap64 ((rs.length : Int) - 1)).toNat ⟨(rd_T59 rs (wrap64 ((rs.length : Int) - 1))).f0, wrap64 ((rd_T59 rs (wrap64 ((rs.length : Int) - 1))).f1 + 1)⟩) ((i + 1 : Nat) : Int) else if rs.length < 8796093022208 then bitset_Runs.l0 k (n : Int) l (rs ++ [⟨(i : Int), 1⟩]) ((i + 1 : Nat) : Int) else none else none else none else if rs.length < 8796093022208 then bitset_Runs.l0 k (n : Int) l (rs ++ [⟨(i : Int), 1⟩]) ((i + 1 : Nat) : Int) else none) = bitset_Runs.l0 k (n : Int) l (rstep rs (i : Int)) ((i + 1 : Nat) : Int) := by
          intro rs hrs
          have e1 : wrap64 ((rs.length : Int) - 1) = (rs.length : Int) - 1 := w64 _ (by omega) (by omega)
          rw [e1]
          by_cases hz : rs.length = 0
          · rw [if_neg (by omega), if_pos (by omega), rstep_nil hz]
          · obtain ⟨m, hm⟩ : ∃ m, rs.length = m + 1 := ⟨rs.length - 1, by omega⟩
            have e2 : (rs.length : Int) - 1 = (m : Int) := by omega
            rw [e2, if_pos (by omega), if_pos (by omega), if_pos (by omega)]
            have e3 : rd_T59 rs (m : Int) = rs.getD m z59 := by unfold rd_T59; rw [Int.toNat_natCast]
            rw [e3, Int.toNat_natCast]
            by_cases hs : wrap64 ((rs.getD m z59).f0 + (rs.getD m z59).f1) = (i : Int)
            · rw [if_pos hs, rstep_hit hm rfl hs]
            · rw [if_neg hs, if_pos (by omega), rstep_miss hm rfl hs]
        rw [key _ (by omega), ← runsOf_snoc, ← onesTo_hit hb] at h
        exact bitset_Runs.told_l n hn l hl k (i + 1) r1 r2 (by omega) h
    · obtain rfl : i = n := by omega
      rw [if_neg (by omega)] at h
      simp only [Option.some.injEq, Prod.mk.injEq] at h
      exact ⟨h.1.symm, h.2.symm⟩
open Go.Proofs.Ytoohpdamndgdlaa.B in
theorem bitset_Runs.told {k : Nat} {a0 : Int} {l : List Int} {r1 : List S59} {r2 : Int} (h : bitset_Runs.f k a0 l = some (r1, r2)) : bitset_Check.f k a0 l = some r2 ∧ r1 = runsOf (walked r2 a0 l) ∧ (walked r2 a0 l).length ≤ 65536 := by
  unfold bitset_Runs.f at h
  obtain ⟨t, ht, h⟩ := Option.bind_eq_some_iff.mp h
  by_cases h0 : t = 0
  · subst h0
    rw [if_pos rfl] at h
    obtain ⟨n, rfl, hn, hl⟩ := check_zero ht
    obtain ⟨rfl, rfl⟩ := bitset_Runs.told_l n hn l (by omega) k 0 r1 r2 (by omega) h
    refine ⟨ht, ?_, ?_⟩
    · unfold walked
      rw [if_pos rfl, Int.toNat_natCast]
    · unfold walked
      rw [if_pos rfl, Int.toNat_natCast]
      exact Nat.le_trans (onesTo_length l n) hn
  · rw [if_neg h0] at h
    simp only [Option.some.injEq, Prod.mk.injEq] at h
    obtain ⟨rfl, rfl⟩ := h
    refine ⟨ht, ?_, ?_⟩
    · unfold walked
      rw [if_neg h0]
      rfl
    · unfold walked
      rw [if_neg h0]
      simp
set_option maxHeartbeats 4000000 in
set_option maxRecDepth 100000 in
theorem bitset_Runs.calls (k : Nat) (a0 : Int) (A1 : Option Addr) (c1 : Nat) (l1 : List Int) (r1 : List (S59)) (r2 : Int) (w : World) (hr1 : Kd.C (Kd.int .u8) w A1 l1.length l1) (hc1 : l1.length ≤ c1) (h : bitset_Runs.f k a0 l1 = some (r1, r2)) :
    Calls Try.prog 28 #[.int .i64 a0, .slice A1 l1.length c1] w fun e w' => ∃ v0_ : Value, e = .returned (.tuple #[v0_, .int .i64 r2]) ∧ Kd.R k59 59 w' w.heap.size (fun _ => True) v0_ r1 ∧ Below w.heap.size w w' := by
  obtain ⟨h1, rfl, h3⟩ := bitset_Runs.told h
  exact callsIn_wide.1 (runs_in k a0 A1 c1 l1 w r2 hr1 hc1 h1 h3)

end Go.Proofs.Ytoohpdamndgdlaa.P

/- bitset.Count, a loop over Walk: how many places the walk yields, and Check's answer. No condition. -/
set_option linter.unusedVariables false
namespace Go.Proofs.Ytoohpdamndgdlaa.P
open Go.RowKit Go.Proofs.YtoohpdamndgdlaaW.PrintWords Go.Proofs.YtoohpdamndgdlaaW.PrintLast Go.Proofs.YtoohpdamndgdlaaW.PrintMore Go.Proofs.Ytoohpdamndgdlaa.B
attribute [local go_sem] Oper.semAt_some
theorem world_grown_drew (W : World) : W.grownBy W.drew none := ⟨rfl, rfl, rfl, Nat.le_refl _, fun _ _ _ => rfl⟩

set_option maxRecDepth 100000 in
set_option maxHeartbeats 4000000 in
theorem count_in (k : Nat) (a0 : Int) (A1 : Option Addr) (c1 : Nat) (l1 : List Int) (w : World) (r : Int) (hr1 : Kd.C (Kd.int .u8) w A1 l1.length l1) (hc1 : l1.length ≤ c1) (h : bitset_Check.f k a0 l1 = some r) (hL : (walked r a0 l1).length ≤ 65536) :
    CallsIn Fence.wide 3 Try.prog 35 #[.int .i64 a0, .slice A1 l1.length c1] w fun e w' => e = .returned (.tuple #[.int .i64 ((walked r a0 l1).length : Int), .int .i64 r]) ∧ Below w.heap.size w w' := by
  have HR1 := Aside0.mk hr1
  have HC1 := Aside0.mk hc1
  have HK := Aside0.mk h
  have HL := Aside0.mk hL
  clear hr1 hc1 h hL
  refine callsIn_of_wp_marks Try.func35 rfl trivial ?_ rfl
  simp only [Try.ntmps35, List.size_toArray, List.length_cons, List.length_nil, Nat.reduceAdd, Nat.reduceSub, Array.replicate_succ, Array.replicate_zero, List.push_toArray, List.append_toArray, List.nil_append, List.cons_append]
  gi_wp2_with (refine ⟨trivial, ?_⟩; gi_at_call 25; refine (callsIn_wide.2 (walk_says k a0 A1 c1 l1 _ r (Kd.C_alloc HR1.out _) HC1.out HK.out)).mono ?_; rintro e w1 ⟨gf, lb, rfl, heg, hB1, hseq⟩; have HEG := Aside0.mk heg; have HB1 := Aside0.mk hB1; have HSQ := Aside0.mk hseq; clear heg hB1 hseq)
  have hlo : (w.alloc (.cells #[.int .i64 0] 3)).heap.size = w.heap.size + 1 := by simp
  rw [hlo] at HSQ
  have hB0 := below_step ((Below.refl w.heap.size w).alloc (Nat.le_refl _) _) HB1.out
  have hv0 : Boxed w1 w.heap.size 3 (.int .i64 0) := (HB1.out.block w.heap.size (by simp)).trans (Boxed.new w 3 _)
  have hlt1 : w.heap.size < w1.heap.size := hv0.lt
  refine wpIn_rangeFunc_ownG rfl (by decide) (gf := gf) (lb := lb) rfl trivial HEG.out (HSQ.out (3 - 1) (by decide)) (fun h k => h.trans k) (fun W l o o' hl _ _ _ => Keeps.putObj _ _ W l o' hl) (Below.refl _ _) (fun _ => rfl)
    (fun pre W => Boxed W w.heap.size 3 (.int .i64 (pre.length : Int)) ∧ Below w.heap.size w W)
    (fun _ _ _ => False)
    (OwnFrom.and (fun s A B row hs hg hr => hs.kept hg (fun e => by have := (hr _ e.symm).1; omega)) (ownFrom_below (Nat.le_refl _) (by omega)))
    (fun _ _ _ _ _ hs _ _ => hs)
    ⟨hv0, hB0⟩
    (fun x => { tmps := #[.int .i64 a0, .slice A1 l1.length c1, undef, undef, .int .i64 0, .int .i64 0, .pointer (some ⟨w.heap.size, 0, none⟩), .int .i64 a0, .slice A1 l1.length c1, .func (.func gf) #[] lb, .int .i64 x, undef, undef, undef, undef, undef, undef], defers := [] }) ?assign ?body ?done ?stop
  case assign =>
    intro l x W K hK
    gi_wp2
    first | exact hK | simpa using hK
  case body =>
    rintro l pre x W ⟨hv, hB⟩ hlt
    have hc := hv.cell
    have hf := hv.frozen
    have hp : pre.length < 65536 := by have := HL.out; omega
    gi_wp2
    have hset := hv.set (.int .i64 ((pre.length : Int) + 1))
    refine ⟨(KeepsOthers.setCell _ _ _).from _, fun b h1 h2 => Below.heap_setCell _ _ _ _ (by simp; omega), ?_, hB.setCell (Nat.le_refl _) _⟩
    rw [List.length_append]
    exact hset
  case done =>
    rintro D ys W hD rfl ⟨hv, hB⟩ hK
    have hc := hv.cell
    have hmo : Try.prog.follows .mixedOrders = true := by kernel_rfl
    have HBW := Aside0.mk hB
    have HKD := Aside0.mk hK
    clear hK hB
    gi_wp2
    first | (gi_region_with_o (refine ⟨trivial, ?_⟩; gi_at_call 48; refine (callsIn_wide.2 (bitset_Check.calls k a0 _ _ l1 r _ (Kd.C_drew (Kd.C_below HR1.out HBW.out)) HC1.out HK.out)).mono ?_; rintro e w2 ⟨rfl, ⟨nd, rfl⟩⟩)) | (fail "no")
    all_goals
      have hb9 : Below w.heap.size w (W.drewN (1 + nd)) := pw_below_drewN HBW.out _
      have hk9 : (W.drewN (1 + nd)).heap[D]? = some (.deferred (some [])) := HKD.out
      gi_wp2
      refine ⟨by simp, .inl ⟨_, _, rfl, run_takeDeferred hk9, ?_⟩⟩
      exact ⟨_, results_tmp2 (show Try.f35.results = #[.tmp 4, .tmp 5] from rfl) _ _ _, rfl, hb9.trans (belowK_b (w := w) (Nat.le_refl _) _ D _ _ (by omega) hk9 rfl rfl)⟩
  case stop =>
    rintro D c pre W _ _ h _
    exact h.elim
end Go.Proofs.Ytoohpdamndgdlaa.P

-- Made by a program of this session (the print of the kit over a neighbour), for this claim.
namespace Go.Proofs.Ytoohpdamndgdlaa.P
open Go.RowKit Go.Proofs.YtoohpdamndgdlaaW.PrintWords Go.Proofs.YtoohpdamndgdlaaW.PrintLast Go.Proofs.YtoohpdamndgdlaaW.PrintMore
attribute [local go_sem] max2_int min2_int max_two min_two max_three min_three max_four min_four   -- for this text's walks alone
set_option linter.unusedVariables false
set_option linter.unusedSimpArgs false

/-! ### bitset_Count: function 35 -/
def bitset_Count.l0 : Nat → Int → List Int → Int → Int → Option (Int × Int)
  | 0, _, _, _, _ => none
  | k + 1, x0, x1, x7, x8 => if x8 < x0 then (if 0 ≤ (wrap64 (Int.tdiv x8 8)) then (if (wrap64 (Int.tdiv x8 8)) < (x1.length : Int) then (if 0 ≤ (Int.tmod x8 8) then (if (Go.bits .and .u8 (rd x1 (wrap64 (Int.tdiv x8 8))) (shr .u8 128 (Int.tmod x8 8))) = 0 then (bitset_Count.l0 k x0 x1 x7 (wrap64 (x8 + 1))) else (bitset_Count.l0 k x0 x1 (wrap64 (x7 + 1)) (wrap64 (x8 + 1)))) else (none)) else (none)) else (none)) else (some (x7, 0))
def bitset_Count.f (k : Nat) (a0 : Int) (l1 : List Int) : Option (Int × Int) := (bitset_Check.f k a0 l1).bind fun t309 => (if t309 = 0 then (bitset_Count.l0 k a0 l1 0 0) else (some (0, t309)))
theorem bitset_Count.mono_l : ∀ k, (∀ y0 y1 y2 y3, LeO (bitset_Count.l0 k y0 y1 y2 y3) (bitset_Count.l0 (k + 1) y0 y1 y2 y3))
  | 0 => fun _ _ _ _ r h => by simp [bitset_Count.l0] at h
  | k + 1 => by
    have ih0 := bitset_Count.mono_l k
    · intro y0 y1 y2 y3
      unfold bitset_Count.l0
      repeat' first
      | (with_reducible exact ih0 _ _ _ _)
      | (with_reducible exact bitset_Check.mono _ _ _)
      | (with_reducible exact LeO.refl _)
      | (with_reducible exact LeO.none _)
      | (with_reducible refine LeO.ite ?_ ?_)
      | (with_reducible refine LeO.bind ?_ (fun _ => ?_))
      | exact ih0 _ _ _ _
      | exact bitset_Check.mono _ _ _
      | exact LeO.none _
      | refine LeO.ite ?_ ?_
      | refine LeO.bind ?_ (fun _ => ?_)
theorem bitset_Count.mono : ∀ a0 a1 k, LeO (bitset_Count.f k a0 a1) (bitset_Count.f (k + 1) a0 a1) := by
  intro a0 a1 k
  have ih0 := bitset_Count.mono_l k
  unfold bitset_Count.f
  repeat' first
      | (with_reducible exact ih0 _ _ _ _)
      | (with_reducible exact bitset_Check.mono _ _ _)
      | (with_reducible exact LeO.refl _)
      | (with_reducible exact LeO.none _)
      | (with_reducible refine LeO.ite ?_ ?_)
      | (with_reducible refine LeO.bind ?_ (fun _ => ?_))
      | exact ih0 _ _ _ _
      | exact bitset_Check.mono _ _ _
      | exact LeO.none _
      | refine LeO.ite ?_ ?_
      | refine LeO.bind ?_ (fun _ => ?_)
open Go.Proofs.Ytoohpdamndgdlaa.B in
theorem bitset_Count.told_l (n : Nat) (hn : n ≤ 65536) (l : List Int) (hl : n ≤ 8 * l.length) : ∀ (k i : Nat) (r1 r2 : Int), i ≤ n → bitset_Count.l0 k (n : Int) l ((onesTo l i).length : Int) (i : Int) = some (r1, r2) → r1 = ((onesTo l n).length : Int) ∧ r2 = 0
  | 0, _, _, _, _, h => by simp [bitset_Count.l0] at h
  | k + 1, i, r1, r2, hi, h => by
    simp only [bitset_Count.l0] at h
    by_cases hlt : i < n
    · obtain ⟨g1, g2, g3⟩ := tests_in l i (by omega) (by omega)
      have hin := onesTo_length l i
      rw [if_pos (by omega), if_pos g1, if_pos g2, if_pos g3, inc i (by omega)] at h
      cases hb : hit l i with
      | false =>
        rw [if_pos ((hit_is l i (by omega)).2 hb), ← onesTo_miss hb] at h
        exact bitset_Count.told_l n hn l hl k (i + 1) r1 r2 (by omega) h
      | true =>
        rw [if_neg (fun h0 => by rw [(hit_is l i (by omega)).1 h0] at hb; cases hb), inc _ (by omega)] at h
        have e : (onesTo l (i + 1)).length = (onesTo l i).length + 1 := by rw [onesTo_hit hb, List.length_append]; rfl
        rw [← e] at h
        exact bitset_Count.told_l n hn l hl k (i + 1) r1 r2 (by omega) h
    · obtain rfl : i = n := by omega
      rw [if_neg (by omega)] at h
      simp only [Option.some.injEq, Prod.mk.injEq] at h
      exact ⟨h.1.symm, h.2.symm⟩
open Go.Proofs.Ytoohpdamndgdlaa.B in
theorem bitset_Count.told {k : Nat} {a0 : Int} {l : List Int} {r1 r2 : Int} (h : bitset_Count.f k a0 l = some (r1, r2)) : bitset_Check.f k a0 l = some r2 ∧ r1 = ((walked r2 a0 l).length : Int) ∧ (walked r2 a0 l).length ≤ 65536 := by
  unfold bitset_Count.f at h
  obtain ⟨t, ht, h⟩ := Option.bind_eq_some_iff.mp h
  by_cases h0 : t = 0
  · subst h0
    rw [if_pos rfl] at h
    obtain ⟨n, rfl, hn, hl⟩ := check_zero ht
    obtain ⟨rfl, rfl⟩ := bitset_Count.told_l n hn l (by omega) k 0 r1 r2 (by omega) h
    refine ⟨ht, ?_, ?_⟩
    · unfold walked
      rw [if_pos rfl, Int.toNat_natCast]
    · unfold walked
      rw [if_pos rfl, Int.toNat_natCast]
      exact Nat.le_trans (onesTo_length l n) hn
  · rw [if_neg h0] at h
    simp only [Option.some.injEq, Prod.mk.injEq] at h
    obtain ⟨rfl, rfl⟩ := h
    refine ⟨ht, ?_, ?_⟩
    · unfold walked
      rw [if_neg h0]
      rfl
    · unfold walked
      rw [if_neg h0]
      simp
set_option maxHeartbeats 4000000 in
set_option maxRecDepth 100000 in
theorem bitset_Count.calls (k : Nat) (a0 : Int) (A1 : Option Addr) (c1 : Nat) (l1 : List Int) (r1 : Int) (r2 : Int) (w : World) (hr1 : Kd.C (Kd.int .u8) w A1 l1.length l1) (hc1 : l1.length ≤ c1) (h : bitset_Count.f k a0 l1 = some (r1, r2)) :
    Calls Try.prog 35 #[.int .i64 a0, .slice A1 l1.length c1] w fun e w' => e = .returned (.tuple #[.int .i64 r1, .int .i64 r2]) ∧ Below w.heap.size w w' := by
  obtain ⟨h1, rfl, h3⟩ := bitset_Count.told h
  exact callsIn_wide.1 (count_in k a0 A1 c1 l1 w r2 hr1 hc1 h1 h3)

end Go.Proofs.Ytoohpdamndgdlaa.P

-- Made by a program of this session (the print of the kit over a neighbour), for this claim.
namespace Go.Proofs.Ytoohpdamndgdlaa.P
open Go.RowKit Go.Proofs.YtoohpdamndgdlaaW.PrintWords Go.Proofs.YtoohpdamndgdlaaW.PrintLast Go.Proofs.YtoohpdamndgdlaaW.PrintMore
attribute [local go_sem] max2_int min2_int max_two min_two max_three min_three max_four min_four   -- for this text's walks alone
set_option linter.unusedVariables false
set_option linter.unusedSimpArgs false

/-! ### torrentlaw4_has: function 49 -/
def torrentlaw4_has.l0 : Nat → List Int → Int → Int → Option (Bool)
  | 0, _, _, _ => none
  | k + 1, x0, x1, x5 => if x5 < (x0.length : Int) then (if 0 ≤ x5 then (if (rd x0 x5) = x1 then (some true) else (torrentlaw4_has.l0 k x0 x1 (wrap64 (x5 + 1)))) else (none)) else (some false)
def torrentlaw4_has.f (k : Nat) (l0 : List Int) (a1 : Int) : Option (Bool) := torrentlaw4_has.l0 k l0 a1 0
theorem torrentlaw4_has.mono_l : ∀ k, (∀ y0 y1 y2, LeO (torrentlaw4_has.l0 k y0 y1 y2) (torrentlaw4_has.l0 (k + 1) y0 y1 y2))
  | 0 => fun _ _ _ r h => by simp [torrentlaw4_has.l0] at h
  | k + 1 => by
    have ih0 := torrentlaw4_has.mono_l k
    · intro y0 y1 y2
      unfold torrentlaw4_has.l0
      repeat' first
      | (with_reducible exact ih0 _ _ _)
      | (with_reducible exact LeO.refl _)
      | (with_reducible exact LeO.none _)
      | (with_reducible refine LeO.ite ?_ ?_)
      | (with_reducible refine LeO.bind ?_ (fun _ => ?_))
      | exact ih0 _ _ _
      | exact LeO.none _
      | refine LeO.ite ?_ ?_
      | refine LeO.bind ?_ (fun _ => ?_)
theorem torrentlaw4_has.mono : ∀ a0 a1 k, LeO (torrentlaw4_has.f k a0 a1) (torrentlaw4_has.f (k + 1) a0 a1) := by
  intro a0 a1 k
  have ih0 := torrentlaw4_has.mono_l k
  unfold torrentlaw4_has.f
  repeat' first
      | (with_reducible exact ih0 _ _ _)
      | (with_reducible exact LeO.refl _)
      | (with_reducible exact LeO.none _)
      | (with_reducible refine LeO.ite ?_ ?_)
      | (with_reducible refine LeO.bind ?_ (fun _ => ?_))
      | exact ih0 _ _ _
      | exact LeO.none _
      | refine LeO.ite ?_ ?_
      | refine LeO.bind ?_ (fun _ => ?_)
set_option maxHeartbeats 8000000 in
set_option maxRecDepth 100000 in
theorem torrentlaw4_has.calls (k : Nat) (A0 : Option Addr) (c0 : Nat) (l0 : List Int) (a1 : Int) (r : Bool) (w : World) (hr0 : Kd.C (Kd.int .i64) w A0 l0.length l0) (hc0 : l0.length ≤ c0) (h : torrentlaw4_has.f k l0 a1 = some r) :
    Calls Try.prog 49 #[.slice A0 l0.length c0, .int .i64 a1] w fun e w' => e = .returned (.bool r) ∧ Drawn0 w w' := by
  have HR0 := Aside0.mk hr0
  have HC0 := Aside0.mk hc0
  clear hr0 hc0
  have H : (torrentlaw4_has.l0 k l0 a1 0) = some r := h
  clear h
  have H' := Aside0.mk H
  clear H
  go_enter Try.func49, Try.ntmps49
  go_wp2
  go_loopg [5] k (fun kq v5 w' => ∃ (x5_1 : Int), v5 = .int .i64 x5_1 ∧ Aside0 (torrentlaw4_has.l0 kq l0 a1 x5_1 = some r) ∧ Aside0 (kq ≤ k) ∧ Drawn0 w w')
  case atStart => exact ⟨(0), (by first | rfl | (simp; done) | (simp [*]; done)), H', ⟨Nat.le_refl _⟩, by repeat (first | exact Drawn0.refl _ | apply Drawn0.step)⟩
  case round =>
    clear H'
    try clear p2
    obtain ⟨x5_1, rfl, HA, HK1, ⟨m1, rfl⟩⟩ := hrel
    cases gk with
    | zero => exact absurd HA.out (by simp [torrentlaw4_has.l0])
    | succ k1 =>
      have H := HA.out
      clear HA
      simp only [torrentlaw4_has.l0] at H
      by_cases c3 : x5_1 < (l0.length : Int)
      · rw [if_pos c3] at H
        have c3b0 : decide (x5_1 < (l0.length : Int)) = true := decide_eq_true c3
        clear c3
        by_cases c4 : 0 ≤ x5_1
        · rw [if_pos c4] at H
          have c4b0 : decide (0 ≤ x5_1) = true := decide_eq_true c4
          clear c4
          by_cases c5 : (rd l0 x5_1) = a1
          · rw [if_pos c5] at H
            have c5b0 : ((rd l0 x5_1) == a1) = true := beq_iff_eq.mpr c5
            have c5b1 : ((rd l0 x5_1) != a1) = false := bne_eq_false_iff_eq.mpr c5
            clear c5
            obtain rfl := Option.some.inj H
            have p489 : 0 ≤ (x5_1 : Int) := of_decide_eq_true (by first | (with_reducible assumption) | assumption)
            have q489 : x5_1 < (l0.length : Int) := of_decide_eq_true (by first | (with_reducible assumption) | assumption)
            obtain ⟨ad489, e489, hx489_0⟩ := Kd.at_int HR0.out x5_1 p489 q489
            cases e489
            replace p489 := eq_true p489
            replace q489 := eq_true q489
            go_wp2
            go_ret
            exact ⟨by first | rfl | (simp; done) | (simp [*]; done), by repeat (first | exact Drawn0.refl _ | apply Drawn0.step)⟩
          · rw [if_neg c5] at H
            have c5b0 : ((rd l0 x5_1) == a1) = false := beq_eq_false_iff_ne.mpr c5
            have c5b1 : ((rd l0 x5_1) != a1) = true := bne_iff_ne.mpr c5
            have H' := Aside0.mk H
            clear H
            have p489 : 0 ≤ (x5_1 : Int) := of_decide_eq_true (by first | (with_reducible assumption) | assumption)
            have q489 : x5_1 < (l0.length : Int) := of_decide_eq_true (by first | (with_reducible assumption) | assumption)
            obtain ⟨ad489, e489, hx489_0⟩ := Kd.at_int HR0.out x5_1 p489 q489
            cases e489
            replace p489 := eq_true p489
            replace q489 := eq_true q489
            go_wp2
            go_roundg k1
            case measure => have := HK1.out; omega
            case rel => exact ⟨(wrap64 (x5_1 + 1)), (by first | rfl | (simp; done) | (simp [*]; done)), H', ⟨by have := HK1.out; omega⟩, by repeat (first | exact Drawn0.refl _ | apply Drawn0.step)⟩
        · rw [if_neg c4] at H
          exact absurd H (by simp)
      · rw [if_neg c3] at H
        have c3b0 : decide (x5_1 < (l0.length : Int)) = false := decide_eq_false c3
        clear c3
        obtain rfl := Option.some.inj H
        go_wp2
        go_ret
        exact ⟨by first | rfl | (simp; done) | (simp [*]; done), by repeat (first | exact Drawn0.refl _ | apply Drawn0.step)⟩

end Go.Proofs.Ytoohpdamndgdlaa.P

-- Made by a program of this session (the print of the kit over a neighbour), for this claim.
namespace Go.Proofs.Ytoohpdamndgdlaa.P
open Go.RowKit Go.Proofs.YtoohpdamndgdlaaW.PrintWords Go.Proofs.YtoohpdamndgdlaaW.PrintLast Go.Proofs.YtoohpdamndgdlaaW.PrintMore
attribute [local go_sem] max2_int min2_int max_two min_two max_three min_three max_four min_four   -- for this text's walks alone
set_option linter.unusedVariables false
set_option linter.unusedSimpArgs false

/-! ### torrentlaw4_BitsetRunsBack: function 12 -/
mutual
def torrentlaw4_BitsetRunsBack.j0 : Nat → Int → List Int → Bool → Option (Bool)
  | 0, _, _, _ => none
  | k + 1, x0, x1, x29 => if x29 = true then ((bitset_Of.f k x0 x1).bind fun bt532 => (some (bt532.2 != 0))) else (torrentlaw4_BitsetRunsBack.l0 k x0 x1 ([] : List Int) 0)
def torrentlaw4_BitsetRunsBack.l0 : Nat → Int → List Int → List Int → Int → Option (Bool)
  | 0, _, _, _, _ => none
  | k + 1, x0, x1, x7, x8 => if x8 < (x1.length : Int) then (if 0 ≤ x8 then (if (rd x1 x8) ≥ 0 then (if (rd x1 x8) < x0 then (if x7.length < 17592186044416 then (torrentlaw4_BitsetRunsBack.l0 k x0 x1 (x7 ++ [rd x1 x8]) (wrap64 (x8 + 1))) else (none)) else (torrentlaw4_BitsetRunsBack.l0 k x0 x1 x7 (wrap64 (x8 + 1)))) else (torrentlaw4_BitsetRunsBack.l0 k x0 x1 x7 (wrap64 (x8 + 1)))) else (none)) else ((bitset_Of.f k x0 x7).bind fun bt542 => (if bt542.2 = 0 then ((bitset_Runs.f k x0 bt542.1).bind fun bt546 => (if bt546.2 = 0 then (torrentlaw4_BitsetRunsBack.l1 k x0 x7 bt542.1 bt546.1 0 0 0) else (some false))) else (some false)))
def torrentlaw4_BitsetRunsBack.l1 : Nat → Int → List Int → List Int → List (S59) → Int → Int → Int → Option (Bool)
  | 0, _, _, _, _, _, _, _ => none
  | k + 1, x0, x7, x9, x11, x12, x13, x14 => if x14 < (x11.length : Int) then (if 0 ≤ x14 then (if ((rd_T59 x11 x14).f1) < 1 then (torrentlaw4_BitsetRunsBack.j3 k x0 x7 x9 x11 x12 x13 x14 true ((rd_T59 x11 x14).f0) ((rd_T59 x11 x14).f1)) else (if ((rd_T59 x11 x14).f0) < x12 then (torrentlaw4_BitsetRunsBack.j3 k x0 x7 x9 x11 x12 x13 x14 true ((rd_T59 x11 x14).f0) ((rd_T59 x11 x14).f1)) else (if x14 > 0 then (if ((rd_T59 x11 x14).f0) = x12 then (torrentlaw4_BitsetRunsBack.j3 k x0 x7 x9 x11 x12 x13 x14 true ((rd_T59 x11 x14).f0) ((rd_T59 x11 x14).f1)) else (torrentlaw4_BitsetRunsBack.j3 k x0 x7 x9 x11 x12 x13 x14 (decide (((rd_T59 x11 x14).f0) > (wrap64 (x0 - ((rd_T59 x11 x14).f1))))) ((rd_T59 x11 x14).f0) ((rd_T59 x11 x14).f1))) else (torrentlaw4_BitsetRunsBack.j3 k x0 x7 x9 x11 x12 x13 x14 (decide (((rd_T59 x11 x14).f0) > (wrap64 (x0 - ((rd_T59 x11 x14).f1))))) ((rd_T59 x11 x14).f0) ((rd_T59 x11 x14).f1))))) else (none)) else ((bitset_Next.f k x0 x9 x12 true).bind fun bt550 => ((bitset_Count.f k x0 x9).bind fun bt552 => (if bt550.2 = 0 then (if bt552.2 = 0 then (if bt550.1 = x0 then (some (bt552.1 == x13)) else (some false)) else (some false)) else (some false))))
def torrentlaw4_BitsetRunsBack.j3 : Nat → Int → List Int → List Int → List (S59) → Int → Int → Int → Bool → Int → Int → Option (Bool)
  | 0, _, _, _, _, _, _, _, _, _, _ => none
  | k + 1, x0, x7, x9, x11, x12, x13, x14, x117, x556000, x556001 => if x117 = true then (some false) else ((bitset_Next.f k x0 x9 x12 true).bind fun bt556 => ((bitset_Next.f k x0 x9 x556000 false).bind fun bt558 => (if bt556.2 = 0 then (if bt558.2 = 0 then (if bt556.1 = x556000 then (torrentlaw4_BitsetRunsBack.j4 k x0 x7 x9 x11 x13 x14 bt558.1 (bt558.1 != (wrap64 (x556000 + x556001))) x556000 x556001) else (torrentlaw4_BitsetRunsBack.j4 k x0 x7 x9 x11 x13 x14 bt558.1 true x556000 x556001)) else (torrentlaw4_BitsetRunsBack.j4 k x0 x7 x9 x11 x13 x14 bt558.1 true x556000 x556001)) else (torrentlaw4_BitsetRunsBack.j4 k x0 x7 x9 x11 x13 x14 bt558.1 true x556000 x556001))))
def torrentlaw4_BitsetRunsBack.j4 : Nat → Int → List Int → List Int → List (S59) → Int → Int → Int → Bool → Int → Int → Option (Bool)
  | 0, _, _, _, _, _, _, _, _, _, _ => none
  | k + 1, x0, x7, x9, x11, x13, x14, x18, x153, x556000, x556001 => if x153 = true then (some false) else (torrentlaw4_BitsetRunsBack.l2 k x0 x7 x9 x11 x13 x14 x18 x556000 x556000 x556001)
def torrentlaw4_BitsetRunsBack.l2 : Nat → Int → List Int → List Int → List (S59) → Int → Int → Int → Int → Int → Int → Option (Bool)
  | 0, _, _, _, _, _, _, _, _, _, _ => none
  | k + 1, x0, x7, x9, x11, x13, x14, x18, x20, x556000, x556001 => if x20 < x18 then ((torrentlaw4_has.f k x7 x20).bind fun t560 => (if t560 = true then (torrentlaw4_BitsetRunsBack.l2 k x0 x7 x9 x11 x13 x14 x18 (wrap64 (x20 + 1)) x556000 x556001) else (some false))) else (torrentlaw4_BitsetRunsBack.l1 k x0 x7 x9 x11 x18 (wrap64 (x13 + x556001)) (wrap64 (x14 + 1)))
end
def torrentlaw4_BitsetRunsBack.f (k : Nat) (a0 : Int) (l1 : List Int) : Option (Bool) := if a0 < 0 then (torrentlaw4_BitsetRunsBack.j0 k a0 l1 true) else (torrentlaw4_BitsetRunsBack.j0 k a0 l1 (decide (a0 > 65536)))
theorem torrentlaw4_BitsetRunsBack.mono_l : ∀ k, (∀ y0 y1 y2, LeO (torrentlaw4_BitsetRunsBack.j0 k y0 y1 y2) (torrentlaw4_BitsetRunsBack.j0 (k + 1) y0 y1 y2)) ∧ (∀ y0 y1 y2 y3, LeO (torrentlaw4_BitsetRunsBack.l0 k y0 y1 y2 y3) (torrentlaw4_BitsetRunsBack.l0 (k + 1) y0 y1 y2 y3)) ∧ (∀ y0 y1 y2 y3 y4 y5 y6, LeO (torrentlaw4_BitsetRunsBack.l1 k y0 y1 y2 y3 y4 y5 y6) (torrentlaw4_BitsetRunsBack.l1 (k + 1) y0 y1 y2 y3 y4 y5 y6)) ∧ (∀ y0 y1 y2 y3 y4 y5 y6 y7 y8 y9, LeO (torrentlaw4_BitsetRunsBack.j3 k y0 y1 y2 y3 y4 y5 y6 y7 y8 y9) (torrentlaw4_BitsetRunsBack.j3 (k + 1) y0 y1 y2 y3 y4 y5 y6 y7 y8 y9)) ∧ (∀ y0 y1 y2 y3 y4 y5 y6 y7 y8 y9, LeO (torrentlaw4_BitsetRunsBack.j4 k y0 y1 y2 y3 y4 y5 y6 y7 y8 y9) (torrentlaw4_BitsetRunsBack.j4 (k + 1) y0 y1 y2 y3 y4 y5 y6 y7 y8 y9)) ∧ (∀ y0 y1 y2 y3 y4 y5 y6 y7 y8 y9, LeO (torrentlaw4_BitsetRunsBack.l2 k y0 y1 y2 y3 y4 y5 y6 y7 y8 y9) (torrentlaw4_BitsetRunsBack.l2 (k + 1) y0 y1 y2 y3 y4 y5 y6 y7 y8 y9))
  | 0 => ⟨fun _ _ _ r h => by simp [torrentlaw4_BitsetRunsBack.j0] at h, fun _ _ _ _ r h => by simp [torrentlaw4_BitsetRunsBack.l0] at h, fun _ _ _ _ _ _ _ r h => by simp [torrentlaw4_BitsetRunsBack.l1] at h, fun _ _ _ _ _ _ _ _ _ _ r h => by simp [torrentlaw4_BitsetRunsBack.j3] at h, fun _ _ _ _ _ _ _ _ _ _ r h => by simp [torrentlaw4_BitsetRunsBack.j4] at h, fun _ _ _ _ _ _ _ _ _ _ r h => by simp [torrentlaw4_BitsetRunsBack.l2] at h⟩
  | k + 1 => by
    obtain ⟨ih0, ih1, ih2, ih3, ih4, ih5⟩ := torrentlaw4_BitsetRunsBack.mono_l k
    refine ⟨?_, ?_, ?_, ?_, ?_, ?_⟩
    · intro y0 y1 y2
      unfold torrentlaw4_BitsetRunsBack.j0
      repeat' first
      | (with_reducible exact ih0 _ _ _)
      | (with_reducible exact ih1 _ _ _ _)
      | (with_reducible exact ih2 _ _ _ _ _ _ _)
      | (with_reducible exact ih3 _ _ _ _ _ _ _ _ _ _)
      | (with_reducible exact ih4 _ _ _ _ _ _ _ _ _ _)
      | (with_reducible exact ih5 _ _ _ _ _ _ _ _ _ _)
      | (with_reducible exact bitset_Count.mono _ _ _)
      | (with_reducible exact bitset_Next.mono _ _ _ _ _)
      | (with_reducible exact bitset_Of.mono _ _ _)
      | (with_reducible exact bitset_Runs.mono _ _ _)
      | (with_reducible exact torrentlaw4_has.mono _ _ _)
      | (with_reducible exact LeO.refl _)
      | (with_reducible exact LeO.none _)
      | (with_reducible refine LeO.ite ?_ ?_)
      | (with_reducible refine LeO.bind ?_ (fun _ => ?_))
      | exact ih0 _ _ _
      | exact ih1 _ _ _ _
      | exact ih2 _ _ _ _ _ _ _
      | exact ih3 _ _ _ _ _ _ _ _ _ _
      | exact ih4 _ _ _ _ _ _ _ _ _ _
      | exact ih5 _ _ _ _ _ _ _ _ _ _
      | exact bitset_Count.mono _ _ _
      | exact bitset_Next.mono _ _ _ _ _
      | exact bitset_Of.mono _ _ _
      | exact bitset_Runs.mono _ _ _
      | exact torrentlaw4_has.mono _ _ _
      | exact LeO.none _
      | refine LeO.ite ?_ ?_
      | refine LeO.bind ?_ (fun _ => ?_)
    · intro y0 y1 y2 y3
      unfold torrentlaw4_BitsetRunsBack.l0
      repeat' first
      | (with_reducible exact ih0 _ _ _)
      | (with_reducible exact ih1 _ _ _ _)
      | (with_reducible exact ih2 _ _ _ _ _ _ _)
      | (with_reducible exact ih3 _ _ _ _ _ _ _ _ _ _)
      | (with_reducible exact ih4 _ _ _ _ _ _ _ _ _ _)
      | (with_reducible exact ih5 _ _ _ _ _ _ _ _ _ _)
      | (with_reducible exact bitset_Count.mono _ _ _)
      | (with_reducible exact bitset_Next.mono _ _ _ _ _)
      | (with_reducible exact bitset_Of.mono _ _ _)
      | (with_reducible exact bitset_Runs.mono _ _ _)
      | (with_reducible exact torrentlaw4_has.mono _ _ _)
      | (with_reducible exact LeO.refl _)
      | (with_reducible exact LeO.none _)
      | (with_reducible refine LeO.ite ?_ ?_)
      | (with_reducible refine LeO.bind ?_ (fun _ => ?_))
      | exact ih0 _ _ _
      | exact ih1 _ _ _ _
      | exact ih2 _ _ _ _ _ _ _
      | exact ih3 _ _ _ _ _ _ _ _ _ _
      | exact ih4 _ _ _ _ _ _ _ _ _ _
      | exact ih5 _ _ _ _ _ _ _ _ _ _
      | exact bitset_Count.mono _ _ _
      | exact bitset_Next.mono _ _ _ _ _
      | exact bitset_Of.mono _ _ _
      | exact bitset_Runs.mono _ _ _
      | exact torrentlaw4_has.mono _ _ _
      | exact LeO.none _
      | refine LeO.ite ?_ ?_
      | refine LeO.bind ?_ (fun _ => ?_)
    · intro y0 y1 y2 y3 y4 y5 y6
      unfold torrentlaw4_BitsetRunsBack.l1
      repeat' first
      | (with_reducible exact ih0 _ _ _)
      | (with_reducible exact ih1 _ _ _ _)
      | (with_reducible exact ih2 _ _ _ _ _ _ _)
      | (with_reducible exact ih3 _ _ _ _ _ _ _ _ _ _)
      | (with_reducible exact ih4 _ _ _ _ _ _ _ _ _ _)
      | (with_reducible exact ih5 _ _ _ _ _ _ _ _ _ _)
      | (with_reducible exact bitset_Count.mono _ _ _)
      | (with_reducible exact bitset_Next.mono _ _ _ _ _)
      | (with_reducible exact bitset_Of.mono _ _ _)
      | (with_reducible exact bitset_Runs.mono _ _ _)
      | (with_reducible exact torrentlaw4_has.mono _ _ _)
      | (with_reducible exact LeO.refl _)
      | (with_reducible exact LeO.none _)
      | (with_reducible refine LeO.ite ?_ ?_)
      | (with_reducible refine LeO.bind ?_ (fun _ => ?_))
      | exact ih0 _ _ _
      | exact ih1 _ _ _ _
      | exact ih2 _ _ _ _ _ _ _
      | exact ih3 _ _ _ _ _ _ _ _ _ _
      | exact ih4 _ _ _ _ _ _ _ _ _ _
      | exact ih5 _ _ _ _ _ _ _ _ _ _
      | exact bitset_Count.mono _ _ _
      | exact bitset_Next.mono _ _ _ _ _
      | exact bitset_Of.mono _ _ _
      | exact bitset_Runs.mono _ _ _
      | exact torrentlaw4_has.mono _ _ _
      | exact LeO.none _
      | refine LeO.ite ?_ ?_
      | refine LeO.bind ?_ (fun _ => ?_)
    · intro y0 y1 y2 y3 y4 y5 y6 y7 y8 y9
      unfold torrentlaw4_BitsetRunsBack.j3
      repeat' first
      | (with_reducible exact ih0 _ _ _)
      | (with_reducible exact ih1 _ _ _ _)
      | (with_reducible exact ih2 _ _ _ _ _ _ _)
      | (with_reducible exact ih3 _ _ _ _ _ _ _ _ _ _)
      | (with_reducible exact ih4 _ _ _ _ _ _ _ _ _ _)
      | (with_reducible exact ih5 _ _ _ _ _ _ _ _ _ _)
      | (with_reducible exact bitset_Count.mono _ _ _)
      | (with_reducible exact bitset_Next.mono _ _ _ _ _)
      | (with_reducible exact bitset_Of.mono _ _ _)
      | (with_reducible exact bitset_Runs.mono _ _ _)
      | (with_reducible exact torrentlaw4_has.mono _ _ _)
      | (with_reducible exact LeO.refl _)
      | (with_reducible exact LeO.none _)
      | (with_reducible refine LeO.ite ?_ ?_)
      | (with_reducible refine LeO.bind ?_ (fun _ => ?_))
      | exact ih0 _ _ _
      | exact ih1 _ _ _ _
      | exact ih2 _ _ _ _ _ _ _
      | exact ih3 _ _ _ _ _ _ _ _ _ _
      | exact ih4 _ _ _ _ _ _ _ _ _ _
      | exact ih5 _ _ _ _ _ _ _ _ _ _
      | exact bitset_Count.mono _ _ _
      | exact bitset_Next.mono _ _ _ _ _
      | exact bitset_Of.mono _ _ _
      | exact bitset_Runs.mono _ _ _
      | exact torrentlaw4_has.mono _ _ _
      | exact LeO.none _
      | refine LeO.ite ?_ ?_
      | refine LeO.bind ?_ (fun _ => ?_)
    · intro y0 y1 y2 y3 y4 y5 y6 y7 y8 y9
      unfold torrentlaw4_BitsetRunsBack.j4
      repeat' first
      | (with_reducible exact ih0 _ _ _)
      | (with_reducible exact ih1 _ _ _ _)
      | (with_reducible exact ih2 _ _ _ _ _ _ _)
      | (with_reducible exact ih3 _ _ _ _ _ _ _ _ _ _)
      | (with_reducible exact ih4 _ _ _ _ _ _ _ _ _ _)
      | (with_reducible exact ih5 _ _ _ _ _ _ _ _ _ _)
      | (with_reducible exact bitset_Count.mono _ _ _)
      | (with_reducible exact bitset_Next.mono _ _ _ _ _)
      | (with_reducible exact bitset_Of.mono _ _ _)
      | (with_reducible exact bitset_Runs.mono _ _ _)
      | (with_reducible exact torrentlaw4_has.mono _ _ _)
      | (with_reducible exact LeO.refl _)
      | (with_reducible exact LeO.none _)
      | (with_reducible refine LeO.ite ?_ ?_)
      | (with_reducible refine LeO.bind ?_ (fun _ => ?_))
      | exact ih0 _ _ _
      | exact ih1 _ _ _ _
      | exact ih2 _ _ _ _ _ _ _
      | exact ih3 _ _ _ _ _ _ _ _ _ _
      | exact ih4 _ _ _ _ _ _ _ _ _ _
      | exact ih5 _ _ _ _ _ _ _ _ _ _
      | exact bitset_Count.mono _ _ _
      | exact bitset_Next.mono _ _ _ _ _
      | exact bitset_Of.mono _ _ _
      | exact bitset_Runs.mono _ _ _
      | exact torrentlaw4_has.mono _ _ _
      | exact LeO.none _
      | refine LeO.ite ?_ ?_
      | refine LeO.bind ?_ (fun _ => ?_)
    · intro y0 y1 y2 y3 y4 y5 y6 y7 y8 y9
      unfold torrentlaw4_BitsetRunsBack.l2
      repeat' first
      | (with_reducible exact ih0 _ _ _)
      | (with_reducible exact ih1 _ _ _ _)
      | (with_reducible exact ih2 _ _ _ _ _ _ _)
      | (with_reducible exact ih3 _ _ _ _ _ _ _ _ _ _)
      | (with_reducible exact ih4 _ _ _ _ _ _ _ _ _ _)
      | (with_reducible exact ih5 _ _ _ _ _ _ _ _ _ _)
      | (with_reducible exact bitset_Count.mono _ _ _)
      | (with_reducible exact bitset_Next.mono _ _ _ _ _)
      | (with_reducible exact bitset_Of.mono _ _ _)
      | (with_reducible exact bitset_Runs.mono _ _ _)
      | (with_reducible exact torrentlaw4_has.mono _ _ _)
      | (with_reducible exact LeO.refl _)
      | (with_reducible exact LeO.none _)
      | (with_reducible refine LeO.ite ?_ ?_)
      | (with_reducible refine LeO.bind ?_ (fun _ => ?_))
      | exact ih0 _ _ _
      | exact ih1 _ _ _ _
      | exact ih2 _ _ _ _ _ _ _
      | exact ih3 _ _ _ _ _ _ _ _ _ _
      | exact ih4 _ _ _ _ _ _ _ _ _ _
      | exact ih5 _ _ _ _ _ _ _ _ _ _
      | exact bitset_Count.mono _ _ _
      | exact bitset_Next.mono _ _ _ _ _
      | exact bitset_Of.mono _ _ _
      | exact bitset_Runs.mono _ _ _
      | exact torrentlaw4_has.mono _ _ _
      | exact LeO.none _
      | refine LeO.ite ?_ ?_
      | refine LeO.bind ?_ (fun _ => ?_)
theorem torrentlaw4_BitsetRunsBack.mono : ∀ a0 a1 k, LeO (torrentlaw4_BitsetRunsBack.f k a0 a1) (torrentlaw4_BitsetRunsBack.f (k + 1) a0 a1) := by
  intro a0 a1 k
  obtain ⟨ih0, ih1, ih2, ih3, ih4, ih5⟩ := torrentlaw4_BitsetRunsBack.mono_l k
  unfold torrentlaw4_BitsetRunsBack.f
  repeat' first
      | (with_reducible exact ih0 _ _ _)
      | (with_reducible exact ih1 _ _ _ _)
      | (with_reducible exact ih2 _ _ _ _ _ _ _)
      | (with_reducible exact ih3 _ _ _ _ _ _ _ _ _ _)
      | (with_reducible exact ih4 _ _ _ _ _ _ _ _ _ _)
      | (with_reducible exact ih5 _ _ _ _ _ _ _ _ _ _)
      | (with_reducible exact bitset_Count.mono _ _ _)
      | (with_reducible exact bitset_Next.mono _ _ _ _ _)
      | (with_reducible exact bitset_Of.mono _ _ _)
      | (with_reducible exact bitset_Runs.mono _ _ _)
      | (with_reducible exact torrentlaw4_has.mono _ _ _)
      | (with_reducible exact LeO.refl _)
      | (with_reducible exact LeO.none _)
      | (with_reducible refine LeO.ite ?_ ?_)
      | (with_reducible refine LeO.bind ?_ (fun _ => ?_))
      | exact ih0 _ _ _
      | exact ih1 _ _ _ _
      | exact ih2 _ _ _ _ _ _ _
      | exact ih3 _ _ _ _ _ _ _ _ _ _
      | exact ih4 _ _ _ _ _ _ _ _ _ _
      | exact ih5 _ _ _ _ _ _ _ _ _ _
      | exact bitset_Count.mono _ _ _
      | exact bitset_Next.mono _ _ _ _ _
      | exact bitset_Of.mono _ _ _
      | exact bitset_Runs.mono _ _ _
      | exact torrentlaw4_has.mono _ _ _
      | exact LeO.none _
      | refine LeO.ite ?_ ?_
      | refine LeO.bind ?_ (fun _ => ?_)
set_option maxHeartbeats 8000000 in
set_option maxRecDepth 100000 in
theorem torrentlaw4_BitsetRunsBack.calls (k : Nat) (a0 : Int) (A1 : Option Addr) (c1 : Nat) (l1 : List Int) (r : Bool) (w : World) (hr1 : Kd.C (Kd.int .i64) w A1 l1.length l1) (hc1 : l1.length ≤ c1) (h : torrentlaw4_BitsetRunsBack.f k a0 l1 = some r) :
    Calls Try.prog 12 #[.int .i64 a0, .slice A1 l1.length c1] w fun e w' => e = .returned (.bool r) ∧ Below w.heap.size w w' := by
  have hu59 := Try.underlying59
  have HR1 := Aside0.mk hr1
  have HC1 := Aside0.mk hc1
  clear hr1 hc1
  have HB := Aside0.mk (Below.refl w.heap.size w)
  have H : (if a0 < 0 then (torrentlaw4_BitsetRunsBack.j0 k a0 l1 true) else (torrentlaw4_BitsetRunsBack.j0 k a0 l1 (decide (a0 > 65536)))) = some r := h
  clear h
  have HC3 := Aside0.mk H
  clear H
  go_enter Try.func12, Try.ntmps12
  go_upto_region 1 with (fail)
  go_cut [29] (fun v29 wc => ∃ (kq : Nat) (x29_2 : Bool), v29 = .bool x29_2 ∧ Aside0 (torrentlaw4_BitsetRunsBack.j0 kq a0 l1 x29_2 = some r) ∧ Aside0 (kq ≤ k) ∧ Aside0 (Below w.heap.size w wc))
  case first =>
    have H := HC3.out
    clear HC3
    by_cases c4 : a0 < 0
    · rw [if_pos c4] at H
      have c4b0 : decide (a0 < 0) = true := decide_eq_true c4
      clear c4
      (first | rw [c4b0] | (simp only [i64_w, i32_w]; rw [c4b0]) | skip)
      have H' := Aside0.mk H
      clear H
      go_wp2
      go_meet
      case rel => exact ⟨_, (true), (by first | rfl | (simp; done) | (simp [*]; done)), H', ⟨by first | omega | exact Nat.le_refl _⟩, ⟨by repeat (first | (with_reducible first | exact HB.out | apply below_alloc | apply pw_below_drewN | apply below_drew1) | exact HB.out)⟩⟩
    · rw [if_neg c4] at H
      have c4b0 : decide (a0 < 0) = false := decide_eq_false c4
      clear c4
      (first | rw [c4b0] | (simp only [i64_w, i32_w]; rw [c4b0]) | skip)
      have H' := Aside0.mk H
      clear H
      go_wp2
      go_meet
      case rel => exact ⟨_, (decide (a0 > 65536)), (by first | rfl | (simp; done) | (simp [*]; done)), H', ⟨by first | omega | exact Nat.le_refl _⟩, ⟨by repeat (first | (with_reducible first | exact HB.out | apply below_alloc | apply pw_below_drewN | apply below_drew1) | exact HB.out)⟩⟩
  case rest =>
    clear HC3
    try clear c1
    try clear p2
    try clear c4
    try clear c4b0
    obtain ⟨kq, x29_2, rfl, HA, HJ2, HB⟩ := hcut
    cases kq with
    | zero => exact absurd HA.out (by simp [torrentlaw4_BitsetRunsBack.j0])
    | succ kj2 =>
      have H := HA.out
      clear HA
      simp only [torrentlaw4_BitsetRunsBack.j0] at H
      by_cases c5 : x29_2 = true
      · subst c5
        have H1 : ((bitset_Of.f kj2 a0 l1).bind fun bt532 => (some (bt532.2 != 0))) = some r := by rw [if_pos rfl] at H; exact H
        clear H
        have H := H1
        clear H1
        replace H := Option.bind_eq_some_iff.mp H
        obtain ⟨⟨t532, t533⟩, A60, H⟩ := H
        replace H : (some (t533 != 0)) = some r := H
        have A6 := Aside0.mk A60
        clear A60
        obtain rfl := Option.some.inj H
        go_wp2_with (first | ((with_reducible refine gate_callee (f := 20) rfl ?_); refine goesL_ (some 33) rfl rfl Try.func20 (by kernel_rfl) rfl #[.int .i64 a0, .slice A1 l1.length c1] rfl (by (try simp only [List.map_toArray, List.map_cons, List.map_nil]); first | done | rfl | (simp only [List.length_drop, List.length_take]; rfl)) ?_; (with_reducible refine (bitset_Of.calls kj2 a0 _ _ l1 t532 t533 _ ?side1 ?side2 A6.out).mono ?_); (case side1 => repeat (first | exact (Kd.C_below HR1.out HB.out) | (with_reducible refine Kd.C_alloc ?_ _) | (with_reducible refine Kd.C_drewN ?_ _) | (with_reducible refine Kd.C_drew ?_))); (case side2 => exact HC1.out); rintro e w7 ⟨v534, rfl, ho0, hb⟩; refine ⟨_, rfl, ?_⟩; have n0_ := Aside0.mk (Kd.R_lower ho0 (below_size (by repeat (first | (with_reducible first | exact HB.out | apply below_alloc | apply pw_below_drewN | apply below_drew1) | exact HB.out)))); have n1_ := Aside0.mk (below_step (by repeat (first | (with_reducible first | exact HB.out | apply below_alloc | apply pw_below_drewN | apply below_drew1) | exact HB.out)) hb); clear HB; have HO535 := n0_; have HB := n1_; clear n0_ n1_; (try clear hb); (try clear hb2); (try clear hk); (try clear hi); (try clear ho0)))
        go_ret
        exact ⟨by first | rfl | (simp [errW_none, errW_some] <;> rfl) | (simp [*, errW_none, errW_some] <;> rfl), by repeat (first | (with_reducible first | exact HB.out | apply below_alloc | apply pw_below_drewN | apply below_drew1) | exact HB.out)⟩
      · replace c5 := Bool.eq_false_iff.mpr c5
        subst c5
        have H1 : (torrentlaw4_BitsetRunsBack.l0 kj2 a0 l1 ([] : List Int) 0) = some r := by rw [if_neg (show ¬ (false = true) by decide)] at H; exact H
        clear H
        have H := H1
        clear H1
        have H' := Aside0.mk H
        clear H
        go_wp2
        go_loopg [7, 8] kj2 (fun kq v7 v8 w' => ∃ (x7_2 : List Int) (x8_2 : Int), v8 = .int .i64 x8_2 ∧ Aside0 (torrentlaw4_BitsetRunsBack.l0 kq a0 l1 x7_2 x8_2 = some r) ∧ Aside0 (kq ≤ kj2) ∧ Aside0 (Kd.R (Kd.int .i64) 3 w' w.heap.size (fun _ => True) v7 x7_2) ∧ Aside0 (Below w.heap.size w w'))
        case atStart => exact ⟨(([] : List Int)), (0), (by first | rfl | (simp; done) | (simp [*]; done)), H', ⟨Nat.le_refl _⟩, ⟨by first | exact Kd.R_nil _ _ _ _ _ | exact Kd.N_nil _ _ _ _ _ | exact Kd.V_nil _ _ _ _ _ | exact Kd.Q_nil _ _ _ _ _ | exact Kd.S_nil _ _ _ _ _⟩, ⟨by repeat (first | (with_reducible first | exact HB.out | apply below_alloc | apply pw_below_drewN | apply below_drew1) | exact HB.out)⟩⟩
        case round =>
          clear H'
          try clear c1
          try clear c2
          try clear p2
          try clear c4
          try clear c4b0
          try clear c5
          try clear p2
          obtain ⟨x7_2, x8_2, rfl, HA, HK2, HO_7, HB⟩ := hrel
          cases gk with
          | zero => exact absurd HA.out (by simp [torrentlaw4_BitsetRunsBack.l0])
          | succ k2 =>
            have H := HA.out
            clear HA
            simp only [torrentlaw4_BitsetRunsBack.l0] at H
            by_cases c8 : x8_2 < (l1.length : Int)
            · rw [if_pos c8] at H
              have c8b0 : decide (x8_2 < (l1.length : Int)) = true := decide_eq_true c8
              clear c8
              by_cases c9 : 0 ≤ x8_2
              · rw [if_pos c9] at H
                have c9b0 : decide (0 ≤ x8_2) = true := decide_eq_true c9
                clear c9
                by_cases c10 : (rd l1 x8_2) ≥ 0
                · rw [if_pos c10] at H
                  have c10b0 : decide (0 ≤ (rd l1 x8_2)) = true := decide_eq_true c10
                  clear c10
                  by_cases c11 : (rd l1 x8_2) < a0
                  · rw [if_pos c11] at H
                    have c11b0 : decide ((rd l1 x8_2) < a0) = true := decide_eq_true c11
                    clear c11
                    by_cases c12 : x7_2.length < 17592186044416
                    · rw [if_pos c12] at H
                      have LMc12 := Aside0.mk c12
                      clear c12
                      obtain ⟨y539, hy539⟩ : ∃ y_ : List Int, y_ = (x7_2 ++ [rd l1 x8_2]) := ⟨_, rfl⟩
                      replace H : (torrentlaw4_BitsetRunsBack.l0 k2 a0 l1 y539 (wrap64 (x8_2 + 1))) = some r := by first | (rw [hy539]; with_reducible exact H) | (have H2_ := (Option.bind_some _ _).symm.trans H; rw [hy539]; with_reducible exact H2_) | (have H2_ := (Option.bind_some _ _).symm.trans H; with_reducible exact H2_) | with_reducible exact H | (rw [hy539]; exact H) | exact H
                      have Ny539 := Aside0.mk hy539
                      clear hy539
                      have H' := Aside0.mk H
                      clear H
                      have p536 : 0 ≤ (x8_2 : Int) := of_decide_eq_true (by first | (with_reducible assumption) | assumption)
                      have q536 : x8_2 < (l1.length : Int) := of_decide_eq_true (by first | (with_reducible assumption) | assumption)
                      obtain ⟨ad536, e536, hx536_0⟩ := Kd.at_int HR1.out x8_2 p536 q536
                      cases e536
                      replace hx536_0 := (HB.out.cell (World.block_lt_of_cell? w _ hx536_0)).trans hx536_0
                      replace p536 := eq_true p536
                      replace q536 := eq_true q536
                      have p537 : 0 ≤ (x8_2 : Int) := of_decide_eq_true (by first | (with_reducible assumption) | assumption)
                      have q537 : x8_2 < (l1.length : Int) := of_decide_eq_true (by first | (with_reducible assumption) | assumption)
                      obtain ⟨ad537, e537, hx537_0⟩ := Kd.at_int HR1.out x8_2 p537 q537
                      obtain rfl : ad536 = ad537 := (by injection e537)
                      replace hx537_0 := (HB.out.cell (World.block_lt_of_cell? w _ hx537_0)).trans hx537_0
                      replace p537 := eq_true p537
                      replace q537 := eq_true q537
                      have p538 : 0 ≤ (x8_2 : Int) := of_decide_eq_true (by first | (with_reducible assumption) | assumption)
                      have q538 : x8_2 < (l1.length : Int) := of_decide_eq_true (by first | (with_reducible assumption) | assumption)
                      obtain ⟨ad538, e538, hx538_0⟩ := Kd.at_int HR1.out x8_2 p538 q538
                      obtain rfl : ad536 = ad538 := (by injection e538)
                      replace hx538_0 := (HB.out.cell (World.block_lt_of_cell? w _ hx538_0)).trans hx538_0
                      replace p538 := eq_true p538
                      replace q538 := eq_true q538
                      go_wp2_with (first | ((with_reducible refine gate_builtin (b := .append) (xs := #[.tmp 57, .tmp 62]) rfl ?_); at_builtin; refine Kd.R_append (Kd.int .i64) (w0 := w) w.heap.size rfl (.tmp 57) (.tmp 62) 28 3 (.int .i64 0) 8 rfl Try.underlying28 info3 rfl (by decide) (by omega) u7 x7_2 (rd l1 x8_2) [.int .i64 (rd l1 x8_2)] (fun _ => True) (fun _ => False) rfl rfl ?aP (fun _ hk => hk.elim) ?aF ?aO ?aB ?aS ?aL ?_; (case aP => exact rfl); (case aB => exact (by repeat (first | (with_reducible first | exact HB.out | apply below_alloc | apply pw_below_drewN | apply below_drew1) | exact HB.out))); (case aF => exact (fun _ _ => trivial)); (case aO => exact (by (with_reducible repeat (first | apply Kd.R_alloc | apply Kd.R_drewN | apply Kd.R_drew)); exact HO_7.out)); (case aS => exact (below_size (by repeat (first | (with_reducible first | exact HB.out | apply below_alloc | apply pw_below_drewN | apply below_drew1) | exact HB.out)))); (case aL => have := LMc12.out; omega); intro v540 w13 ho hb hg hat; rw [← Ny539.out] at ho; have n0_ := Aside0.mk (hb); have n1_ := Aside0.mk (ho); clear HB; clear HO_7; have HB := n0_; have HO541 := n1_; clear n0_ n1_; clear ho hb hg hat))
                      go_roundg k2
                      case measure => have := HJ2.out; have := HK2.out; omega
                      case rel => exact ⟨(y539), (wrap64 (x8_2 + 1)), (by first | rfl | (simp; done) | (simp [*]; done)), H', ⟨by have := HJ2.out; have := HK2.out; omega⟩, ⟨by (with_reducible repeat (first | apply Kd.R_alloc | apply Kd.R_drewN | apply Kd.R_drew)); exact HO541.out⟩, ⟨by repeat (first | (with_reducible first | exact HB.out | apply below_alloc | apply pw_below_drewN | apply below_drew1) | exact HB.out)⟩⟩
                    · rw [if_neg c12] at H
                      exact absurd H (by simp)
                  · rw [if_neg c11] at H
                    have c11b0 : decide ((rd l1 x8_2) < a0) = false := decide_eq_false c11
                    clear c11
                    have H' := Aside0.mk H
                    clear H
                    have p536 : 0 ≤ (x8_2 : Int) := of_decide_eq_true (by first | (with_reducible assumption) | assumption)
                    have q536 : x8_2 < (l1.length : Int) := of_decide_eq_true (by first | (with_reducible assumption) | assumption)
                    obtain ⟨ad536, e536, hx536_0⟩ := Kd.at_int HR1.out x8_2 p536 q536
                    cases e536
                    replace hx536_0 := (HB.out.cell (World.block_lt_of_cell? w _ hx536_0)).trans hx536_0
                    replace p536 := eq_true p536
                    replace q536 := eq_true q536
                    have p537 : 0 ≤ (x8_2 : Int) := of_decide_eq_true (by first | (with_reducible assumption) | assumption)
                    have q537 : x8_2 < (l1.length : Int) := of_decide_eq_true (by first | (with_reducible assumption) | assumption)
                    obtain ⟨ad537, e537, hx537_0⟩ := Kd.at_int HR1.out x8_2 p537 q537
                    obtain rfl : ad536 = ad537 := (by injection e537)
                    replace hx537_0 := (HB.out.cell (World.block_lt_of_cell? w _ hx537_0)).trans hx537_0
                    replace p537 := eq_true p537
                    replace q537 := eq_true q537
                    go_wp2
                    go_roundg k2
                    case measure => have := HJ2.out; have := HK2.out; omega
                    case rel => exact ⟨(x7_2), (wrap64 (x8_2 + 1)), (by first | rfl | (simp; done) | (simp [*]; done)), H', ⟨by have := HJ2.out; have := HK2.out; omega⟩, ⟨by (with_reducible repeat (first | apply Kd.R_alloc | apply Kd.R_drewN | apply Kd.R_drew)); exact HO_7.out⟩, ⟨by repeat (first | (with_reducible first | exact HB.out | apply below_alloc | apply pw_below_drewN | apply below_drew1) | exact HB.out)⟩⟩
                · rw [if_neg c10] at H
                  have c10b0 : decide (0 ≤ (rd l1 x8_2)) = false := decide_eq_false c10
                  clear c10
                  have H' := Aside0.mk H
                  clear H
                  have p536 : 0 ≤ (x8_2 : Int) := of_decide_eq_true (by first | (with_reducible assumption) | assumption)
                  have q536 : x8_2 < (l1.length : Int) := of_decide_eq_true (by first | (with_reducible assumption) | assumption)
                  obtain ⟨ad536, e536, hx536_0⟩ := Kd.at_int HR1.out x8_2 p536 q536
                  cases e536
                  replace hx536_0 := (HB.out.cell (World.block_lt_of_cell? w _ hx536_0)).trans hx536_0
                  replace p536 := eq_true p536
                  replace q536 := eq_true q536
                  go_wp2
                  go_roundg k2
                  case measure => have := HJ2.out; have := HK2.out; omega
                  case rel => exact ⟨(x7_2), (wrap64 (x8_2 + 1)), (by first | rfl | (simp; done) | (simp [*]; done)), H', ⟨by have := HJ2.out; have := HK2.out; omega⟩, ⟨by (with_reducible repeat (first | apply Kd.R_alloc | apply Kd.R_drewN | apply Kd.R_drew)); exact HO_7.out⟩, ⟨by repeat (first | (with_reducible first | exact HB.out | apply below_alloc | apply pw_below_drewN | apply below_drew1) | exact HB.out)⟩⟩
              · rw [if_neg c9] at H
                exact absurd H (by simp)
            · rw [if_neg c8] at H
              have c8b0 : decide (x8_2 < (l1.length : Int)) = false := decide_eq_false c8
              clear c8
              replace H := Option.bind_eq_some_iff.mp H
              obtain ⟨⟨t542, t543⟩, A140, H⟩ := H
              replace H : (if t543 = 0 then ((bitset_Runs.f k2 a0 t542).bind fun bt546 => (if bt546.2 = 0 then (torrentlaw4_BitsetRunsBack.l1 k2 a0 x7_2 t542 bt546.1 0 0 0) else (some false))) else (some false)) = some r := H
              have A14 := Aside0.mk A140
              clear A140
              by_cases c15 : t543 = 0
              · rw [if_pos c15] at H
                have c15b0 : (t543 == 0) = true := beq_iff_eq.mpr c15
                have c15b1 : (t543 != 0) = false := bne_eq_false_iff_eq.mpr c15
                clear c15
                replace H := Option.bind_eq_some_iff.mp H
                obtain ⟨⟨t546, t547⟩, A160, H⟩ := H
                replace H : (if t547 = 0 then (torrentlaw4_BitsetRunsBack.l1 k2 a0 x7_2 t542 t546 0 0 0) else (some false)) = some r := H
                have A16 := Aside0.mk A160
                clear A160
                by_cases c17 : t547 = 0
                · rw [if_pos c17] at H
                  have c17b0 : (t547 == 0) = true := beq_iff_eq.mpr c17
                  have c17b1 : (t547 != 0) = false := bne_eq_false_iff_eq.mpr c17
                  clear c17
                  have H' := Aside0.mk H
                  clear H
                  obtain ⟨Ao18, co18, eo18⟩ := Kd.R_slice HO_7.out
                  subst eo18
                  go_wp2_with (first | ((with_reducible refine gate_callee (f := 20) rfl ?_); refine goesL_ (some 67) rfl rfl Try.func20 (by kernel_rfl) rfl #[.int .i64 a0, .slice Ao18 x7_2.length co18] rfl (by (try simp only [List.map_toArray, List.map_cons, List.map_nil]); first | done | rfl | (simp only [List.length_drop, List.length_take]; rfl)) ?_; (with_reducible refine (bitset_Of.calls k2 a0 _ _ x7_2 t542 t543 _ ?side1 ?side2 A14.out).mono ?_); (case side1 => repeat (first | exact (Kd.R_reads' HO_7.out).2.2 | (with_reducible refine Kd.C_alloc ?_ _) | (with_reducible refine Kd.C_drewN ?_ _) | (with_reducible refine Kd.C_drew ?_))); (case side2 => exact (Kd.R_reads' HO_7.out).2.1); rintro e w19 ⟨v544, rfl, ho0, hb⟩; refine ⟨_, rfl, ?_⟩; have n0_ := Aside0.mk (Kd.R_below (by (with_reducible repeat (first | apply Kd.R_alloc | apply Kd.R_drewN | apply Kd.R_drew)); exact HO_7.out) hb); have n1_ := Aside0.mk (Kd.R_lower ho0 (below_size (by repeat (first | (with_reducible first | exact HB.out | apply below_alloc | apply pw_below_drewN | apply below_drew1) | exact HB.out)))); have n2_ := Aside0.mk (below_step (by repeat (first | (with_reducible first | exact HB.out | apply below_alloc | apply pw_below_drewN | apply below_drew1) | exact HB.out)) hb); clear HO_7; clear HB; have HO_7 := n0_; have HO545 := n1_; have HB := n2_; clear n0_ n1_ n2_; (try clear hb); (try clear hb2); (try clear hk); (try clear hi); (try clear ho0); obtain ⟨Ao20, co20, eo20⟩ := Kd.R_slice HO545.out; subst eo20) | ((with_reducible refine gate_callee (f := 28) rfl ?_); refine goesL_ (some 75) rfl rfl Try.func28 (by kernel_rfl) rfl #[.int .i64 a0, .slice Ao20 t542.length co20] rfl (by (try simp only [List.map_toArray, List.map_cons, List.map_nil]); first | done | rfl | (simp only [List.length_drop, List.length_take]; rfl)) ?_; (with_reducible refine (bitset_Runs.calls k2 a0 _ _ t542 t546 t547 _ ?side1 ?side2 A16.out).mono ?_); (case side1 => repeat (first | exact (Kd.R_reads' HO545.out).2.2 | (with_reducible refine Kd.C_alloc ?_ _) | (with_reducible refine Kd.C_drewN ?_ _) | (with_reducible refine Kd.C_drew ?_))); (case side2 => exact (Kd.R_reads' HO545.out).2.1); rintro e w21 ⟨v548, rfl, ho0, hb⟩; refine ⟨_, rfl, ?_⟩; have n0_ := Aside0.mk (Kd.R_below (by (with_reducible repeat (first | apply Kd.R_alloc | apply Kd.R_drewN | apply Kd.R_drew)); exact HO_7.out) hb); have n1_ := Aside0.mk (Kd.R_below (by (with_reducible repeat (first | apply Kd.R_alloc | apply Kd.R_drewN | apply Kd.R_drew)); exact HO545.out) hb); have n2_ := Aside0.mk (Kd.R_lower ho0 (below_size (by repeat (first | (with_reducible first | exact HB.out | apply below_alloc | apply pw_below_drewN | apply below_drew1) | exact HB.out)))); have n3_ := Aside0.mk (below_step (by repeat (first | (with_reducible first | exact HB.out | apply below_alloc | apply pw_below_drewN | apply below_drew1) | exact HB.out)) hb); clear HO_7; clear HO545; clear HB; have HO_7 := n0_; have HO545 := n1_; have HO549 := n2_; have HB := n3_; clear n0_ n1_ n2_ n3_; (try clear hb); (try clear hb2); (try clear hk); (try clear hi); (try clear ho0)))
                  go_loopg [12, 13, 14] k2 (fun kq v12 v13 v14 w' => ∃ (x12_3 : Int) (x13_3 : Int) (x14_3 : Int), v12 = .int .i64 x12_3 ∧ v13 = .int .i64 x13_3 ∧ v14 = .int .i64 x14_3 ∧ Aside0 (torrentlaw4_BitsetRunsBack.l1 kq a0 x7_2 t542 t546 x12_3 x13_3 x14_3 = some r) ∧ Aside0 (kq ≤ k2) ∧ Aside0 (Kd.R (Kd.int .i64) 3 w' w.heap.size (fun _ => True) (.slice Ao18 x7_2.length co18) x7_2) ∧ Aside0 (Kd.R (Kd.int .u8) 5 w' w.heap.size (fun _ => True) (.slice Ao20 t542.length co20) t542) ∧ Aside0 (Kd.R k59 59 w' w.heap.size (fun _ => True) v548 t546) ∧ Aside0 (Below w.heap.size w w'))
                  case atStart => exact ⟨(0), (0), (0), (by first | rfl | (simp; done) | (simp [*]; done)), (by first | rfl | (simp; done) | (simp [*]; done)), (by first | rfl | (simp; done) | (simp [*]; done)), H', ⟨Nat.le_refl _⟩, ⟨by (with_reducible repeat (first | apply Kd.R_alloc | apply Kd.R_drewN | apply Kd.R_drew)); exact HO_7.out⟩, ⟨by (with_reducible repeat (first | apply Kd.R_alloc | apply Kd.R_drewN | apply Kd.R_drew)); exact HO545.out⟩, ⟨by (with_reducible repeat (first | apply Kd.R_alloc | apply Kd.R_drewN | apply Kd.R_drew)); exact HO549.out⟩, ⟨by repeat (first | (with_reducible first | exact HB.out | apply below_alloc | apply pw_below_drewN | apply below_drew1) | exact HB.out)⟩⟩
                  case round =>
                    clear H'
                    try clear c1
                    try clear c2
                    try clear p2
                    try clear c4
                    try clear c4b0
                    try clear c5
                    try clear p5
                    try clear q5
                    try clear hx5
                    try clear p6
                    try clear c8
                    try clear c8b0
                    try clear c9
                    try clear c9b0
                    try clear c10
                    try clear c10b0
                    try clear c11
                    try clear c11b0
                    try clear c12
                    try clear c15
                    try clear c15b0
                    try clear c15b1
                    try clear c17
                    try clear c17b0
                    try clear c17b1
                    try clear c20
                    try clear hx536_0
                    try clear hx537_0
                    try clear hx538_0
                    try clear p2
                    try clear p536
                    try clear p537
                    try clear p538
                    try clear q536
                    try clear q537
                    try clear q538
                    obtain ⟨x12_3, x13_3, x14_3, rfl, rfl, rfl, HA, HK3, HO_7, HO_9, HO_11, HB⟩ := hrel
                    cases gk with
                    | zero => exact absurd HA.out (by simp [torrentlaw4_BitsetRunsBack.l1])
                    | succ k3 =>
                      have H := HA.out
                      clear HA
                      simp only [torrentlaw4_BitsetRunsBack.l1] at H
                      by_cases c22 : x14_3 < (t546.length : Int)
                      · rw [if_pos c22] at H
                        have c22b0 : decide (x14_3 < (t546.length : Int)) = true := decide_eq_true c22
                        clear c22
                        by_cases c23 : 0 ≤ x14_3
                        · rw [if_pos c23] at H
                          have c23b0 : decide (0 ≤ x14_3) = true := decide_eq_true c23
                          clear c23
                          have HC24 := Aside0.mk H
                          clear H
                          obtain ⟨Ao25, co25, eo25⟩ := Kd.R_slice HO_11.out
                          subst eo25
                          have p554 : 0 ≤ (x14_3 : Int) := of_decide_eq_true (by first | (with_reducible assumption) | assumption)
                          have q554 : x14_3 < (t546.length : Int) := of_decide_eq_true (by first | (with_reducible assumption) | assumption)
                          obtain ⟨ad554, e554, hx554_0, hx554_1⟩ := at_T59 (Kd.R_reads' HO_11.out).2.2 x14_3 p554 q554
                          cases e554
                          replace p554 := eq_true p554
                          replace q554 := eq_true q554
                          go_upto_region 22 with (first | ((with_reducible refine gate_dst (N := 15) rfl ?_); refine box_event ?hg (N := 15) ?hd (cs := #[.int .i64 0, .int .i64 0]) (t := 59) ?hr ?_; (case hd => rfl); (case hg => rfl); (case hr => first | (go_simp; done) | (go_simp; rfl)); intro gb555 hg w26 hbox hb; have n0_ := Aside0.mk (Kd.R_below (by (with_reducible repeat (first | apply Kd.R_alloc | apply Kd.R_drewN | apply Kd.R_drew)); exact HO_7.out) hb); have n1_ := Aside0.mk (Kd.R_below (by (with_reducible repeat (first | apply Kd.R_alloc | apply Kd.R_drewN | apply Kd.R_drew)); exact HO_9.out) hb); have n2_ := Aside0.mk (Kd.R_below (Kd.R_elderB (by (with_reducible repeat (first | apply Kd.R_alloc | apply Kd.R_drewN | apply Kd.R_drew)); exact HO_11.out) gb555 (Nat.le_of_eq hg.symm)) hb); have n3_ := Aside0.mk (below_step (by repeat (first | (with_reducible first | exact HB.out | apply below_alloc | apply pw_below_drewN | apply below_drew1) | exact HB.out)) hb); have n4_ := Aside0.mk (hbox); have n5_ := Aside0.mk ((by rw [hg]; exact (below_size (by repeat (first | (with_reducible first | exact HB.out | apply below_alloc | apply pw_below_drewN | apply below_drew1) | exact HB.out))) : w.heap.size ≤ gb555)); have n6_ := Aside0.mk ((by rw [hg]; exact (below_size (by repeat (first | (with_reducible first | exact HB.out | apply below_alloc | apply pw_below_drewN | apply below_drew1) | exact HB.out))) : w.heap.size ≤ gb555)); clear HO_7; clear HO_9; clear HO_11; clear HB; have HO_7 := n0_; have HO_9 := n1_; have HO_11 := n2_; have HB := n3_; have BK555 := n4_; have GW555 := n5_; have GE555 := n6_; clear n0_ n1_ n2_ n3_ n4_ n5_ n6_; clear hb hbox hg; have hcz27_0 : w26.cell? ⟨gb555, 0, none⟩ = some (.int .i64 0) := (blk_cell BK555.out 0).trans rfl; have hcz27_1 : w26.cell? ⟨gb555, 1, none⟩ = some (.int .i64 0) := (blk_cell BK555.out 1).trans rfl; have hfz27_0 := blk_frozen BK555.out 0; have hfz27_1 := blk_frozen BK555.out 1))
                          (try simp only [Act.put, List.setIfInBounds_toArray, List.set_cons_zero, List.set_cons_succ])
                          go_cut [117] (fun v117 wc => ∃ (kq : Nat) (x117_23 : Bool), v117 = .bool x117_23 ∧ Aside0 (torrentlaw4_BitsetRunsBack.j3 kq a0 x7_2 t542 t546 x12_3 x13_3 x14_3 x117_23 ((rd_T59 t546 x14_3).f0) ((rd_T59 t546 x14_3).f1) = some r) ∧ Aside0 (kq ≤ k3) ∧ Aside0 (Kd.R (Kd.int .i64) 3 wc w.heap.size (fun _ => True) (.slice Ao18 x7_2.length co18) x7_2) ∧ Aside0 (Kd.R (Kd.int .u8) 5 wc w.heap.size (fun _ => True) (.slice Ao20 t542.length co20) t542) ∧ Aside0 (Kd.R k59 59 wc w.heap.size (fun k_ => k_ ≠ gb555) (.slice (some ad554) t546.length co25) t546) ∧ Aside0 (wc.heap[gb555]? = some (.cells #[.int .i64 ((rd_T59 t546 x14_3).f0), .int .i64 ((rd_T59 t546 x14_3).f1)] 59 (0, 0))) ∧ Aside0 (Below w.heap.size w wc))
                          case first =>
                            have H := HC24.out
                            clear HC24
                            by_cases c28 : ((rd_T59 t546 x14_3).f1) < 1
                            · rw [if_pos c28] at H
                              have c28b0 : decide (((rd_T59 t546 x14_3).f1) < 1) = true := decide_eq_true c28
                              clear c28
                              (first | rw [c28b0] | (simp only [i64_w, i32_w]; rw [c28b0]) | skip)
                              have H' := Aside0.mk H
                              clear H
                              have hcz29_0 : w26.cell? ⟨gb555, 0, none⟩ = some (.int .i64 0) := (blk_cell BK555.out 0).trans rfl
                              have hcz29_1 : w26.cell? ⟨gb555, 1, none⟩ = some (.int .i64 0) := (blk_cell BK555.out 1).trans rfl
                              have hfz29_0 := blk_frozen BK555.out 0
                              have hfz29_1 := blk_frozen BK555.out 1
                              go_wp2
                              go_meet
                              case rel => exact ⟨_, (true), (by first | rfl | (simp; done) | (simp [*]; done)), H', ⟨by have := HJ2.out; have := HK2.out; have := HK3.out; first | omega | exact Nat.le_refl _⟩, ⟨by (with_reducible repeat (first | apply Kd.R_alloc | apply Kd.R_drewN | apply Kd.R_drew)); exact Kd.R_mono (Kd.R_far (p := ⟨gb555, 1, none⟩) (Kd.R_far (p := ⟨gb555, 0, none⟩) (Kd.R_types HO_7.out BK555.out (by decide)) (fun _ hk => hk.2) (.int .i64 ((rd_T59 t546 x14_3).f0))) (fun _ hk => hk.2) (.int .i64 ((rd_T59 t546 x14_3).f1))) (fun _ hk => trivial)⟩, ⟨by (with_reducible repeat (first | apply Kd.R_alloc | apply Kd.R_drewN | apply Kd.R_drew)); exact Kd.R_mono (Kd.R_far (p := ⟨gb555, 1, none⟩) (Kd.R_far (p := ⟨gb555, 0, none⟩) (Kd.R_types HO_9.out BK555.out (by decide)) (fun _ hk => hk.2) (.int .i64 ((rd_T59 t546 x14_3).f0))) (fun _ hk => hk.2) (.int .i64 ((rd_T59 t546 x14_3).f1))) (fun _ hk => trivial)⟩, ⟨by (with_reducible repeat (first | apply Kd.R_alloc | apply Kd.R_drewN | apply Kd.R_drew)); exact Kd.R_mono (Kd.R_far (p := ⟨gb555, 1, none⟩) (Kd.R_far (p := ⟨gb555, 0, none⟩) (Kd.R_mono HO_11.out (fun k_ hk => (⟨hk, hk.2⟩ : _ ∧ k_ ≠ gb555))) (fun _ hk => hk.2) (.int .i64 ((rd_T59 t546 x14_3).f0))) (fun _ hk => hk.2) (.int .i64 ((rd_T59 t546 x14_3).f1))) (fun _ hk => hk.1.2)⟩, ⟨by (with_reducible repeat (first | refine blk_drewN ?_ _ | refine blk_drew ?_ | refine blk_alloc ?_ _)); refine blk_put (cs := #[.int .i64 ((rd_T59 t546 x14_3).f0), .int .i64 0]) ?_ 1 _ rfl; (with_reducible repeat (first | refine blk_drewN ?_ _ | refine blk_drew ?_ | refine blk_alloc ?_ _)); refine blk_put (cs := #[.int .i64 0, .int .i64 0]) ?_ 0 _ rfl; (with_reducible repeat (first | refine blk_drewN ?_ _ | refine blk_drew ?_ | refine blk_alloc ?_ _)); exact BK555.out⟩, ⟨by repeat (first | (with_reducible first | exact HB.out | apply below_alloc | apply pw_below_drewN | apply below_drew1 | refine below_set ?_ GE555.out) | exact HB.out)⟩⟩
                            · rw [if_neg c28] at H
                              have c28b0 : decide (((rd_T59 t546 x14_3).f1) < 1) = false := decide_eq_false c28
                              clear c28
                              (first | rw [c28b0] | (simp only [i64_w, i32_w]; rw [c28b0]) | skip)
                              by_cases c30 : ((rd_T59 t546 x14_3).f0) < x12_3
                              · rw [if_pos c30] at H
                                have c30b0 : decide (((rd_T59 t546 x14_3).f0) < x12_3) = true := decide_eq_true c30
                                clear c30
                                have H' := Aside0.mk H
                                clear H
                                have hcz31_0 : w26.cell? ⟨gb555, 0, none⟩ = some (.int .i64 0) := (blk_cell BK555.out 0).trans rfl
                                have hcz31_1 : w26.cell? ⟨gb555, 1, none⟩ = some (.int .i64 0) := (blk_cell BK555.out 1).trans rfl
                                have hfz31_0 := blk_frozen BK555.out 0
                                have hfz31_1 := blk_frozen BK555.out 1
                                go_wp2
                                go_meet
                                case rel => exact ⟨_, (true), (by first | rfl | (simp; done) | (simp [*]; done)), H', ⟨by have := HJ2.out; have := HK2.out; have := HK3.out; first | omega | exact Nat.le_refl _⟩, ⟨by (with_reducible repeat (first | apply Kd.R_alloc | apply Kd.R_drewN | apply Kd.R_drew)); exact Kd.R_mono (Kd.R_far (p := ⟨gb555, 1, none⟩) (Kd.R_far (p := ⟨gb555, 0, none⟩) (Kd.R_types HO_7.out BK555.out (by decide)) (fun _ hk => hk.2) (.int .i64 ((rd_T59 t546 x14_3).f0))) (fun _ hk => hk.2) (.int .i64 ((rd_T59 t546 x14_3).f1))) (fun _ hk => trivial)⟩, ⟨by (with_reducible repeat (first | apply Kd.R_alloc | apply Kd.R_drewN | apply Kd.R_drew)); exact Kd.R_mono (Kd.R_far (p := ⟨gb555, 1, none⟩) (Kd.R_far (p := ⟨gb555, 0, none⟩) (Kd.R_types HO_9.out BK555.out (by decide)) (fun _ hk => hk.2) (.int .i64 ((rd_T59 t546 x14_3).f0))) (fun _ hk => hk.2) (.int .i64 ((rd_T59 t546 x14_3).f1))) (fun _ hk => trivial)⟩, ⟨by (with_reducible repeat (first | apply Kd.R_alloc | apply Kd.R_drewN | apply Kd.R_drew)); exact Kd.R_mono (Kd.R_far (p := ⟨gb555, 1, none⟩) (Kd.R_far (p := ⟨gb555, 0, none⟩) (Kd.R_mono HO_11.out (fun k_ hk => (⟨hk, hk.2⟩ : _ ∧ k_ ≠ gb555))) (fun _ hk => hk.2) (.int .i64 ((rd_T59 t546 x14_3).f0))) (fun _ hk => hk.2) (.int .i64 ((rd_T59 t546 x14_3).f1))) (fun _ hk => hk.1.2)⟩, ⟨by (with_reducible repeat (first | refine blk_drewN ?_ _ | refine blk_drew ?_ | refine blk_alloc ?_ _)); refine blk_put (cs := #[.int .i64 ((rd_T59 t546 x14_3).f0), .int .i64 0]) ?_ 1 _ rfl; (with_reducible repeat (first | refine blk_drewN ?_ _ | refine blk_drew ?_ | refine blk_alloc ?_ _)); refine blk_put (cs := #[.int .i64 0, .int .i64 0]) ?_ 0 _ rfl; (with_reducible repeat (first | refine blk_drewN ?_ _ | refine blk_drew ?_ | refine blk_alloc ?_ _)); exact BK555.out⟩, ⟨by repeat (first | (with_reducible first | exact HB.out | apply below_alloc | apply pw_below_drewN | apply below_drew1 | refine below_set ?_ GE555.out) | exact HB.out)⟩⟩
                              · rw [if_neg c30] at H
                                have c30b0 : decide (((rd_T59 t546 x14_3).f0) < x12_3) = false := decide_eq_false c30
                                clear c30
                                by_cases c32 : x14_3 > 0
                                · rw [if_pos c32] at H
                                  have c32b0 : decide (0 < x14_3) = true := decide_eq_true c32
                                  clear c32
                                  by_cases c33 : ((rd_T59 t546 x14_3).f0) = x12_3
                                  · rw [if_pos c33] at H
                                    have c33b0 : (((rd_T59 t546 x14_3).f0) == x12_3) = true := beq_iff_eq.mpr c33
                                    have c33b1 : (((rd_T59 t546 x14_3).f0) != x12_3) = false := bne_eq_false_iff_eq.mpr c33
                                    clear c33
                                    have H' := Aside0.mk H
                                    clear H
                                    have hcz34_0 : w26.cell? ⟨gb555, 0, none⟩ = some (.int .i64 0) := (blk_cell BK555.out 0).trans rfl
                                    have hcz34_1 : w26.cell? ⟨gb555, 1, none⟩ = some (.int .i64 0) := (blk_cell BK555.out 1).trans rfl
                                    have hfz34_0 := blk_frozen BK555.out 0
                                    have hfz34_1 := blk_frozen BK555.out 1
                                    go_wp2
                                    go_meet
                                    case rel => exact ⟨_, (true), (by first | rfl | (simp; done) | (simp [*]; done)), H', ⟨by have := HJ2.out; have := HK2.out; have := HK3.out; first | omega | exact Nat.le_refl _⟩, ⟨by (with_reducible repeat (first | apply Kd.R_alloc | apply Kd.R_drewN | apply Kd.R_drew)); exact Kd.R_mono (Kd.R_far (p := ⟨gb555, 1, none⟩) (Kd.R_far (p := ⟨gb555, 0, none⟩) (Kd.R_types HO_7.out BK555.out (by decide)) (fun _ hk => hk.2) (.int .i64 ((rd_T59 t546 x14_3).f0))) (fun _ hk => hk.2) (.int .i64 ((rd_T59 t546 x14_3).f1))) (fun _ hk => trivial)⟩, ⟨by (with_reducible repeat (first | apply Kd.R_alloc | apply Kd.R_drewN | apply Kd.R_drew)); exact Kd.R_mono (Kd.R_far (p := ⟨gb555, 1, none⟩) (Kd.R_far (p := ⟨gb555, 0, none⟩) (Kd.R_types HO_9.out BK555.out (by decide)) (fun _ hk => hk.2) (.int .i64 ((rd_T59 t546 x14_3).f0))) (fun _ hk => hk.2) (.int .i64 ((rd_T59 t546 x14_3).f1))) (fun _ hk => trivial)⟩, ⟨by (with_reducible repeat (first | apply Kd.R_alloc | apply Kd.R_drewN | apply Kd.R_drew)); exact Kd.R_mono (Kd.R_far (p := ⟨gb555, 1, none⟩) (Kd.R_far (p := ⟨gb555, 0, none⟩) (Kd.R_mono HO_11.out (fun k_ hk => (⟨hk, hk.2⟩ : _ ∧ k_ ≠ gb555))) (fun _ hk => hk.2) (.int .i64 ((rd_T59 t546 x14_3).f0))) (fun _ hk => hk.2) (.int .i64 ((rd_T59 t546 x14_3).f1))) (fun _ hk => hk.1.2)⟩, ⟨by (with_reducible repeat (first | refine blk_drewN ?_ _ | refine blk_drew ?_ | refine blk_alloc ?_ _)); refine blk_put (cs := #[.int .i64 ((rd_T59 t546 x14_3).f0), .int .i64 0]) ?_ 1 _ rfl; (with_reducible repeat (first | refine blk_drewN ?_ _ | refine blk_drew ?_ | refine blk_alloc ?_ _)); refine blk_put (cs := #[.int .i64 0, .int .i64 0]) ?_ 0 _ rfl; (with_reducible repeat (first | refine blk_drewN ?_ _ | refine blk_drew ?_ | refine blk_alloc ?_ _)); exact BK555.out⟩, ⟨by repeat (first | (with_reducible first | exact HB.out | apply below_alloc | apply pw_below_drewN | apply below_drew1 | refine below_set ?_ GE555.out) | exact HB.out)⟩⟩
                                  · rw [if_neg c33] at H
                                    have c33b0 : (((rd_T59 t546 x14_3).f0) == x12_3) = false := beq_eq_false_iff_ne.mpr c33
                                    have c33b1 : (((rd_T59 t546 x14_3).f0) != x12_3) = true := bne_iff_ne.mpr c33
                                    have H' := Aside0.mk H
                                    clear H
                                    have hcz35_0 : w26.cell? ⟨gb555, 0, none⟩ = some (.int .i64 0) := (blk_cell BK555.out 0).trans rfl
                                    have hcz35_1 : w26.cell? ⟨gb555, 1, none⟩ = some (.int .i64 0) := (blk_cell BK555.out 1).trans rfl
                                    have hfz35_0 := blk_frozen BK555.out 0
                                    have hfz35_1 := blk_frozen BK555.out 1
                                    go_wp2
                                    go_meet
                                    case rel => exact ⟨_, (decide (((rd_T59 t546 x14_3).f0) > (wrap64 (a0 - ((rd_T59 t546 x14_3).f1))))), (by first | rfl | (simp; done) | (simp [*]; done)), H', ⟨by have := HJ2.out; have := HK2.out; have := HK3.out; first | omega | exact Nat.le_refl _⟩, ⟨by (with_reducible repeat (first | apply Kd.R_alloc | apply Kd.R_drewN | apply Kd.R_drew)); exact Kd.R_mono (Kd.R_far (p := ⟨gb555, 1, none⟩) (Kd.R_far (p := ⟨gb555, 0, none⟩) (Kd.R_types HO_7.out BK555.out (by decide)) (fun _ hk => hk.2) (.int .i64 ((rd_T59 t546 x14_3).f0))) (fun _ hk => hk.2) (.int .i64 ((rd_T59 t546 x14_3).f1))) (fun _ hk => trivial)⟩, ⟨by (with_reducible repeat (first | apply Kd.R_alloc | apply Kd.R_drewN | apply Kd.R_drew)); exact Kd.R_mono (Kd.R_far (p := ⟨gb555, 1, none⟩) (Kd.R_far (p := ⟨gb555, 0, none⟩) (Kd.R_types HO_9.out BK555.out (by decide)) (fun _ hk => hk.2) (.int .i64 ((rd_T59 t546 x14_3).f0))) (fun _ hk => hk.2) (.int .i64 ((rd_T59 t546 x14_3).f1))) (fun _ hk => trivial)⟩, ⟨by (with_reducible repeat (first | apply Kd.R_alloc | apply Kd.R_drewN | apply Kd.R_drew)); exact Kd.R_mono (Kd.R_far (p := ⟨gb555, 1, none⟩) (Kd.R_far (p := ⟨gb555, 0, none⟩) (Kd.R_mono HO_11.out (fun k_ hk => (⟨hk, hk.2⟩ : _ ∧ k_ ≠ gb555))) (fun _ hk => hk.2) (.int .i64 ((rd_T59 t546 x14_3).f0))) (fun _ hk => hk.2) (.int .i64 ((rd_T59 t546 x14_3).f1))) (fun _ hk => hk.1.2)⟩, ⟨by (with_reducible repeat (first | refine blk_drewN ?_ _ | refine blk_drew ?_ | refine blk_alloc ?_ _)); refine blk_put (cs := #[.int .i64 ((rd_T59 t546 x14_3).f0), .int .i64 0]) ?_ 1 _ rfl; (with_reducible repeat (first | refine blk_drewN ?_ _ | refine blk_drew ?_ | refine blk_alloc ?_ _)); refine blk_put (cs := #[.int .i64 0, .int .i64 0]) ?_ 0 _ rfl; (with_reducible repeat (first | refine blk_drewN ?_ _ | refine blk_drew ?_ | refine blk_alloc ?_ _)); exact BK555.out⟩, ⟨by repeat (first | (with_reducible first | exact HB.out | apply below_alloc | apply pw_below_drewN | apply below_drew1 | refine below_set ?_ GE555.out) | exact HB.out)⟩⟩
                                · rw [if_neg c32] at H
                                  have c32b0 : decide (0 < x14_3) = false := decide_eq_false c32
                                  clear c32
                                  have H' := Aside0.mk H
                                  clear H
                                  have hcz36_0 : w26.cell? ⟨gb555, 0, none⟩ = some (.int .i64 0) := (blk_cell BK555.out 0).trans rfl
                                  have hcz36_1 : w26.cell? ⟨gb555, 1, none⟩ = some (.int .i64 0) := (blk_cell BK555.out 1).trans rfl
                                  have hfz36_0 := blk_frozen BK555.out 0
                                  have hfz36_1 := blk_frozen BK555.out 1
                                  go_wp2
                                  go_meet
                                  case rel => exact ⟨_, (decide (((rd_T59 t546 x14_3).f0) > (wrap64 (a0 - ((rd_T59 t546 x14_3).f1))))), (by first | rfl | (simp; done) | (simp [*]; done)), H', ⟨by have := HJ2.out; have := HK2.out; have := HK3.out; first | omega | exact Nat.le_refl _⟩, ⟨by (with_reducible repeat (first | apply Kd.R_alloc | apply Kd.R_drewN | apply Kd.R_drew)); exact Kd.R_mono (Kd.R_far (p := ⟨gb555, 1, none⟩) (Kd.R_far (p := ⟨gb555, 0, none⟩) (Kd.R_types HO_7.out BK555.out (by decide)) (fun _ hk => hk.2) (.int .i64 ((rd_T59 t546 x14_3).f0))) (fun _ hk => hk.2) (.int .i64 ((rd_T59 t546 x14_3).f1))) (fun _ hk => trivial)⟩, ⟨by (with_reducible repeat (first | apply Kd.R_alloc | apply Kd.R_drewN | apply Kd.R_drew)); exact Kd.R_mono (Kd.R_far (p := ⟨gb555, 1, none⟩) (Kd.R_far (p := ⟨gb555, 0, none⟩) (Kd.R_types HO_9.out BK555.out (by decide)) (fun _ hk => hk.2) (.int .i64 ((rd_T59 t546 x14_3).f0))) (fun _ hk => hk.2) (.int .i64 ((rd_T59 t546 x14_3).f1))) (fun _ hk => trivial)⟩, ⟨by (with_reducible repeat (first | apply Kd.R_alloc | apply Kd.R_drewN | apply Kd.R_drew)); exact Kd.R_mono (Kd.R_far (p := ⟨gb555, 1, none⟩) (Kd.R_far (p := ⟨gb555, 0, none⟩) (Kd.R_mono HO_11.out (fun k_ hk => (⟨hk, hk.2⟩ : _ ∧ k_ ≠ gb555))) (fun _ hk => hk.2) (.int .i64 ((rd_T59 t546 x14_3).f0))) (fun _ hk => hk.2) (.int .i64 ((rd_T59 t546 x14_3).f1))) (fun _ hk => hk.1.2)⟩, ⟨by (with_reducible repeat (first | refine blk_drewN ?_ _ | refine blk_drew ?_ | refine blk_alloc ?_ _)); refine blk_put (cs := #[.int .i64 ((rd_T59 t546 x14_3).f0), .int .i64 0]) ?_ 1 _ rfl; (with_reducible repeat (first | refine blk_drewN ?_ _ | refine blk_drew ?_ | refine blk_alloc ?_ _)); refine blk_put (cs := #[.int .i64 0, .int .i64 0]) ?_ 0 _ rfl; (with_reducible repeat (first | refine blk_drewN ?_ _ | refine blk_drew ?_ | refine blk_alloc ?_ _)); exact BK555.out⟩, ⟨by repeat (first | (with_reducible first | exact HB.out | apply below_alloc | apply pw_below_drewN | apply below_drew1 | refine below_set ?_ GE555.out) | exact HB.out)⟩⟩
                          case rest =>
                            clear HC24
                            try clear c1
                            try clear c2
                            try clear p2
                            try clear c3
                            try clear c4
                            try clear c4b0
                            try clear c5
                            try clear p5
                            try clear q5
                            try clear hx5
                            try clear p6
                            try clear c8
                            try clear c8b0
                            try clear c9
                            try clear c9b0
                            try clear c10
                            try clear c10b0
                            try clear c11
                            try clear c11b0
                            try clear c12
                            try clear c15
                            try clear c15b0
                            try clear c15b1
                            try clear c17
                            try clear c17b0
                            try clear c17b1
                            try clear c20
                            try clear c22
                            try clear c22b0
                            try clear c23
                            try clear c23b0
                            try clear c28
                            try clear c28b0
                            try clear c30
                            try clear c30b0
                            try clear c32
                            try clear c32b0
                            try clear c33
                            try clear c33b0
                            try clear c33b1
                            try clear hcz27_0
                            try clear hcz27_1
                            try clear hcz29_0
                            try clear hcz29_1
                            try clear hcz31_0
                            try clear hcz31_1
                            try clear hcz34_0
                            try clear hcz34_1
                            try clear hcz35_0
                            try clear hcz35_1
                            try clear hcz36_0
                            try clear hcz36_1
                            try clear hfz27_0
                            try clear hfz27_1
                            try clear hfz29_0
                            try clear hfz29_1
                            try clear hfz31_0
                            try clear hfz31_1
                            try clear hfz34_0
                            try clear hfz34_1
                            try clear hfz35_0
                            try clear hfz35_1
                            try clear hfz36_0
                            try clear hfz36_1
                            try clear hx536_0
                            try clear hx537_0
                            try clear hx538_0
                            try clear hx554_0
                            try clear hx554_1
                            try clear p2
                            try clear p5
                            try clear p536
                            try clear p537
                            try clear p538
                            try clear p554
                            try clear p6
                            try clear q5
                            try clear q536
                            try clear q537
                            try clear q538
                            try clear q554
                            obtain ⟨kq, x117_23, rfl, HA, HJ23, HO_7, HO_9, HO_11, BK555, HB⟩ := hcut
                            cases kq with
                            | zero => exact absurd HA.out (by simp [torrentlaw4_BitsetRunsBack.j3])
                            | succ kj23 =>
                              have H := HA.out
                              clear HA
                              simp only [torrentlaw4_BitsetRunsBack.j3] at H
                              by_cases c37 : x117_23 = true
                              · subst c37
                                have H1 : (some false) = some r := by rw [if_pos rfl] at H; exact H
                                clear H
                                have H := H1
                                clear H1
                                obtain rfl := Option.some.inj H
                                go_wp2
                                go_ret
                                exact ⟨by first | rfl | (simp [errW_none, errW_some] <;> rfl) | (simp [*, errW_none, errW_some] <;> rfl), by repeat (first | (with_reducible first | exact HB.out | apply below_alloc | apply pw_below_drewN | apply below_drew1 | refine below_set ?_ GE555.out) | exact HB.out)⟩
                              · replace c37 := Bool.eq_false_iff.mpr c37
                                subst c37
                                have H1 : ((bitset_Next.f kj23 a0 t542 x12_3 true).bind fun bt556 => ((bitset_Next.f kj23 a0 t542 ((rd_T59 t546 x14_3).f0) false).bind fun bt558 => (if bt556.2 = 0 then (if bt558.2 = 0 then (if bt556.1 = ((rd_T59 t546 x14_3).f0) then (torrentlaw4_BitsetRunsBack.j4 kj23 a0 x7_2 t542 t546 x13_3 x14_3 bt558.1 (bt558.1 != (wrap64 (((rd_T59 t546 x14_3).f0) + ((rd_T59 t546 x14_3).f1)))) ((rd_T59 t546 x14_3).f0) ((rd_T59 t546 x14_3).f1)) else (torrentlaw4_BitsetRunsBack.j4 kj23 a0 x7_2 t542 t546 x13_3 x14_3 bt558.1 true ((rd_T59 t546 x14_3).f0) ((rd_T59 t546 x14_3).f1))) else (torrentlaw4_BitsetRunsBack.j4 kj23 a0 x7_2 t542 t546 x13_3 x14_3 bt558.1 true ((rd_T59 t546 x14_3).f0) ((rd_T59 t546 x14_3).f1))) else (torrentlaw4_BitsetRunsBack.j4 kj23 a0 x7_2 t542 t546 x13_3 x14_3 bt558.1 true ((rd_T59 t546 x14_3).f0) ((rd_T59 t546 x14_3).f1))))) = some r := by rw [if_neg (show ¬ (false = true) by decide)] at H; exact H
                                clear H
                                have H := H1
                                clear H1
                                replace H := Option.bind_eq_some_iff.mp H
                                obtain ⟨⟨t556, t557⟩, A380, H⟩ := H
                                replace H : ((bitset_Next.f kj23 a0 t542 ((rd_T59 t546 x14_3).f0) false).bind fun bt558 => (if t557 = 0 then (if bt558.2 = 0 then (if t556 = ((rd_T59 t546 x14_3).f0) then (torrentlaw4_BitsetRunsBack.j4 kj23 a0 x7_2 t542 t546 x13_3 x14_3 bt558.1 (bt558.1 != (wrap64 (((rd_T59 t546 x14_3).f0) + ((rd_T59 t546 x14_3).f1)))) ((rd_T59 t546 x14_3).f0) ((rd_T59 t546 x14_3).f1)) else (torrentlaw4_BitsetRunsBack.j4 kj23 a0 x7_2 t542 t546 x13_3 x14_3 bt558.1 true ((rd_T59 t546 x14_3).f0) ((rd_T59 t546 x14_3).f1))) else (torrentlaw4_BitsetRunsBack.j4 kj23 a0 x7_2 t542 t546 x13_3 x14_3 bt558.1 true ((rd_T59 t546 x14_3).f0) ((rd_T59 t546 x14_3).f1))) else (torrentlaw4_BitsetRunsBack.j4 kj23 a0 x7_2 t542 t546 x13_3 x14_3 bt558.1 true ((rd_T59 t546 x14_3).f0) ((rd_T59 t546 x14_3).f1)))) = some r := H
                                have A38 := Aside0.mk A380
                                clear A380
                                replace H := Option.bind_eq_some_iff.mp H
                                obtain ⟨⟨t558, t559⟩, A390, H⟩ := H
                                replace H : (if t557 = 0 then (if t559 = 0 then (if t556 = ((rd_T59 t546 x14_3).f0) then (torrentlaw4_BitsetRunsBack.j4 kj23 a0 x7_2 t542 t546 x13_3 x14_3 t558 (t558 != (wrap64 (((rd_T59 t546 x14_3).f0) + ((rd_T59 t546 x14_3).f1)))) ((rd_T59 t546 x14_3).f0) ((rd_T59 t546 x14_3).f1)) else (torrentlaw4_BitsetRunsBack.j4 kj23 a0 x7_2 t542 t546 x13_3 x14_3 t558 true ((rd_T59 t546 x14_3).f0) ((rd_T59 t546 x14_3).f1))) else (torrentlaw4_BitsetRunsBack.j4 kj23 a0 x7_2 t542 t546 x13_3 x14_3 t558 true ((rd_T59 t546 x14_3).f0) ((rd_T59 t546 x14_3).f1))) else (torrentlaw4_BitsetRunsBack.j4 kj23 a0 x7_2 t542 t546 x13_3 x14_3 t558 true ((rd_T59 t546 x14_3).f0) ((rd_T59 t546 x14_3).f1))) = some r := H
                                have A39 := Aside0.mk A390
                                clear A390
                                have HC40 := Aside0.mk H
                                clear H
                                go_upto_region 26 with (first | ((with_reducible refine gate_callee (f := 26) rfl ?_); refine goesL_ (some 122) rfl rfl Try.func26 (by kernel_rfl) rfl #[.int .i64 a0, .slice Ao20 t542.length co20, .int .i64 x12_3, .bool true] rfl (by (try simp only [List.map_toArray, List.map_cons, List.map_nil]); first | done | rfl | (simp only [List.length_drop, List.length_take]; rfl)) ?_; (with_reducible refine (bitset_Next.calls kj23 a0 _ _ t542 x12_3 true t556 t557 _ ?side1 ?side2 A38.out).mono ?_); (case side1 => repeat (first | exact (Kd.R_reads' HO_9.out).2.2 | (with_reducible refine Kd.C_alloc ?_ _) | (with_reducible refine Kd.C_drewN ?_ _) | (with_reducible refine Kd.C_drew ?_))); (case side2 => exact (Kd.R_reads' HO_9.out).2.1); rintro e w41 ⟨rfl, hb⟩; refine ⟨_, rfl, ?_⟩; have n0_ := Aside0.mk (Kd.R_below (by (with_reducible repeat (first | apply Kd.R_alloc | apply Kd.R_drewN | apply Kd.R_drew)); exact HO_7.out) hb); have n1_ := Aside0.mk (Kd.R_below (by (with_reducible repeat (first | apply Kd.R_alloc | apply Kd.R_drewN | apply Kd.R_drew)); exact HO_9.out) hb); have n2_ := Aside0.mk (Kd.R_below (by (with_reducible repeat (first | apply Kd.R_alloc | apply Kd.R_drewN | apply Kd.R_drew)); exact HO_11.out) hb); have n3_ := Aside0.mk (blk_below (g := gb555) (o := .cells #[.int .i64 ((rd_T59 t546 x14_3).f0), .int .i64 ((rd_T59 t546 x14_3).f1)] 59 (0, 0)) (by (with_reducible repeat (first | refine blk_drewN ?_ _ | refine blk_drew ?_ | refine blk_alloc ?_ _)); exact BK555.out) hb); have n4_ := Aside0.mk (below_step (by repeat (first | (with_reducible first | exact HB.out | apply below_alloc | apply pw_below_drewN | apply below_drew1 | refine below_set ?_ GE555.out) | exact HB.out)) hb); clear HO_7; clear HO_9; clear HO_11; clear BK555; clear HB; have HO_7 := n0_; have HO_9 := n1_; have HO_11 := n2_; have BK555 := n3_; have HB := n4_; clear n0_ n1_ n2_ n3_ n4_; (try clear hb); (try clear hb2); (try clear hk); (try clear hi); have hcz42_0 : w41.cell? ⟨gb555, 0, none⟩ = some (.int .i64 ((rd_T59 t546 x14_3).f0)) := (blk_cell BK555.out 0).trans rfl; have hcz42_1 : w41.cell? ⟨gb555, 1, none⟩ = some (.int .i64 ((rd_T59 t546 x14_3).f1)) := (blk_cell BK555.out 1).trans rfl; have hfz42_0 := blk_frozen BK555.out 0; have hfz42_1 := blk_frozen BK555.out 1) | ((with_reducible refine gate_callee (f := 26) rfl ?_); refine goesL_ (some 130) rfl rfl Try.func26 (by kernel_rfl) rfl #[.int .i64 a0, .slice Ao20 t542.length co20, .int .i64 ((rd_T59 t546 x14_3).f0), .bool false] rfl (by (try simp only [List.map_toArray, List.map_cons, List.map_nil]); first | done | rfl | (simp only [List.length_drop, List.length_take]; rfl)) ?_; (with_reducible refine (bitset_Next.calls kj23 a0 _ _ t542 ((rd_T59 t546 x14_3).f0) false t558 t559 _ ?side1 ?side2 A39.out).mono ?_); (case side1 => repeat (first | exact (Kd.R_reads' HO_9.out).2.2 | (with_reducible refine Kd.C_alloc ?_ _) | (with_reducible refine Kd.C_drewN ?_ _) | (with_reducible refine Kd.C_drew ?_))); (case side2 => exact (Kd.R_reads' HO_9.out).2.1); rintro e w43 ⟨rfl, hb⟩; refine ⟨_, rfl, ?_⟩; have n0_ := Aside0.mk (Kd.R_below (by (with_reducible repeat (first | apply Kd.R_alloc | apply Kd.R_drewN | apply Kd.R_drew)); exact HO_7.out) hb); have n1_ := Aside0.mk (Kd.R_below (by (with_reducible repeat (first | apply Kd.R_alloc | apply Kd.R_drewN | apply Kd.R_drew)); exact HO_9.out) hb); have n2_ := Aside0.mk (Kd.R_below (by (with_reducible repeat (first | apply Kd.R_alloc | apply Kd.R_drewN | apply Kd.R_drew)); exact HO_11.out) hb); have n3_ := Aside0.mk (blk_below (g := gb555) (o := .cells #[.int .i64 ((rd_T59 t546 x14_3).f0), .int .i64 ((rd_T59 t546 x14_3).f1)] 59 (0, 0)) (by (with_reducible repeat (first | refine blk_drewN ?_ _ | refine blk_drew ?_ | refine blk_alloc ?_ _)); exact BK555.out) hb); have n4_ := Aside0.mk (below_step (by repeat (first | (with_reducible first | exact HB.out | apply below_alloc | apply pw_below_drewN | apply below_drew1 | refine below_set ?_ GE555.out) | exact HB.out)) hb); clear HO_7; clear HO_9; clear HO_11; clear BK555; clear HB; have HO_7 := n0_; have HO_9 := n1_; have HO_11 := n2_; have BK555 := n3_; have HB := n4_; clear n0_ n1_ n2_ n3_ n4_; (try clear hb); (try clear hb2); (try clear hk); (try clear hi)))
                                (try simp only [Act.put, List.setIfInBounds_toArray, List.set_cons_zero, List.set_cons_succ])
                                go_cut [153] (fun v153 wc => ∃ (kq : Nat) (x153_39 : Bool), v153 = .bool x153_39 ∧ Aside0 (torrentlaw4_BitsetRunsBack.j4 kq a0 x7_2 t542 t546 x13_3 x14_3 t558 x153_39 ((rd_T59 t546 x14_3).f0) ((rd_T59 t546 x14_3).f1) = some r) ∧ Aside0 (kq ≤ kj23) ∧ Aside0 (Kd.R (Kd.int .i64) 3 wc w.heap.size (fun _ => True) (.slice Ao18 x7_2.length co18) x7_2) ∧ Aside0 (Kd.R (Kd.int .u8) 5 wc w.heap.size (fun _ => True) (.slice Ao20 t542.length co20) t542) ∧ Aside0 (Kd.R k59 59 wc w.heap.size (fun k_ => k_ ≠ gb555) (.slice (some ad554) t546.length co25) t546) ∧ Aside0 (wc.heap[gb555]? = some (.cells #[.int .i64 ((rd_T59 t546 x14_3).f0), .int .i64 ((rd_T59 t546 x14_3).f1)] 59 (0, 0))) ∧ Aside0 (Below w.heap.size w wc))
                                case first =>
                                  have H := HC40.out
                                  clear HC40
                                  by_cases c44 : t557 = 0
                                  · rw [if_pos c44] at H
                                    have c44b0 : (t557 == 0) = true := beq_iff_eq.mpr c44
                                    have c44b1 : (t557 != 0) = false := bne_eq_false_iff_eq.mpr c44
                                    clear c44
                                    (first | rw [c44b0] | (simp only [i64_w, i32_w]; rw [c44b0]) | skip)
                                    by_cases c45 : t559 = 0
                                    · rw [if_pos c45] at H
                                      have c45b0 : (t559 == 0) = true := beq_iff_eq.mpr c45
                                      have c45b1 : (t559 != 0) = false := bne_eq_false_iff_eq.mpr c45
                                      clear c45
                                      by_cases c46 : t556 = ((rd_T59 t546 x14_3).f0)
                                      · rw [if_pos c46] at H
                                        have c46b0 : (t556 == ((rd_T59 t546 x14_3).f0)) = true := beq_iff_eq.mpr c46
                                        have c46b1 : (t556 != ((rd_T59 t546 x14_3).f0)) = false := bne_eq_false_iff_eq.mpr c46
                                        clear c46
                                        have H' := Aside0.mk H
                                        clear H
                                        have hcz47_0 : w43.cell? ⟨gb555, 0, none⟩ = some (.int .i64 ((rd_T59 t546 x14_3).f0)) := (blk_cell BK555.out 0).trans rfl
                                        have hcz47_1 : w43.cell? ⟨gb555, 1, none⟩ = some (.int .i64 ((rd_T59 t546 x14_3).f1)) := (blk_cell BK555.out 1).trans rfl
                                        have hfz47_0 := blk_frozen BK555.out 0
                                        have hfz47_1 := blk_frozen BK555.out 1
                                        go_wp2
                                        go_meet
                                        case rel => exact ⟨_, ((t558 != (wrap64 (((rd_T59 t546 x14_3).f0) + ((rd_T59 t546 x14_3).f1))))), (by first | rfl | (simp; done) | (simp [*]; done)), H', ⟨by have := HJ2.out; have := HK2.out; have := HK3.out; have := HJ23.out; first | omega | exact Nat.le_refl _⟩, ⟨by (with_reducible repeat (first | apply Kd.R_alloc | apply Kd.R_drewN | apply Kd.R_drew)); exact HO_7.out⟩, ⟨by (with_reducible repeat (first | apply Kd.R_alloc | apply Kd.R_drewN | apply Kd.R_drew)); exact HO_9.out⟩, ⟨by (with_reducible repeat (first | apply Kd.R_alloc | apply Kd.R_drewN | apply Kd.R_drew)); exact HO_11.out⟩, ⟨by (with_reducible repeat (first | refine blk_drewN ?_ _ | refine blk_drew ?_ | refine blk_alloc ?_ _)); exact BK555.out⟩, ⟨by repeat (first | (with_reducible first | exact HB.out | apply below_alloc | apply pw_below_drewN | apply below_drew1 | refine below_set ?_ GE555.out) | exact HB.out)⟩⟩
                                      · rw [if_neg c46] at H
                                        have c46b0 : (t556 == ((rd_T59 t546 x14_3).f0)) = false := beq_eq_false_iff_ne.mpr c46
                                        have c46b1 : (t556 != ((rd_T59 t546 x14_3).f0)) = true := bne_iff_ne.mpr c46
                                        have H' := Aside0.mk H
                                        clear H
                                        have hcz48_0 : w43.cell? ⟨gb555, 0, none⟩ = some (.int .i64 ((rd_T59 t546 x14_3).f0)) := (blk_cell BK555.out 0).trans rfl
                                        have hcz48_1 : w43.cell? ⟨gb555, 1, none⟩ = some (.int .i64 ((rd_T59 t546 x14_3).f1)) := (blk_cell BK555.out 1).trans rfl
                                        have hfz48_0 := blk_frozen BK555.out 0
                                        have hfz48_1 := blk_frozen BK555.out 1
                                        go_wp2
                                        go_meet
                                        case rel => exact ⟨_, (true), (by first | rfl | (simp; done) | (simp [*]; done)), H', ⟨by have := HJ2.out; have := HK2.out; have := HK3.out; have := HJ23.out; first | omega | exact Nat.le_refl _⟩, ⟨by (with_reducible repeat (first | apply Kd.R_alloc | apply Kd.R_drewN | apply Kd.R_drew)); exact HO_7.out⟩, ⟨by (with_reducible repeat (first | apply Kd.R_alloc | apply Kd.R_drewN | apply Kd.R_drew)); exact HO_9.out⟩, ⟨by (with_reducible repeat (first | apply Kd.R_alloc | apply Kd.R_drewN | apply Kd.R_drew)); exact HO_11.out⟩, ⟨by (with_reducible repeat (first | refine blk_drewN ?_ _ | refine blk_drew ?_ | refine blk_alloc ?_ _)); exact BK555.out⟩, ⟨by repeat (first | (with_reducible first | exact HB.out | apply below_alloc | apply pw_below_drewN | apply below_drew1 | refine below_set ?_ GE555.out) | exact HB.out)⟩⟩
                                    · rw [if_neg c45] at H
                                      have c45b0 : (t559 == 0) = false := beq_eq_false_iff_ne.mpr c45
                                      have c45b1 : (t559 != 0) = true := bne_iff_ne.mpr c45
                                      have H' := Aside0.mk H
                                      clear H
                                      go_wp2
                                      go_meet
                                      case rel => exact ⟨_, (true), (by first | rfl | (simp; done) | (simp [*]; done)), H', ⟨by have := HJ2.out; have := HK2.out; have := HK3.out; have := HJ23.out; first | omega | exact Nat.le_refl _⟩, ⟨by (with_reducible repeat (first | apply Kd.R_alloc | apply Kd.R_drewN | apply Kd.R_drew)); exact HO_7.out⟩, ⟨by (with_reducible repeat (first | apply Kd.R_alloc | apply Kd.R_drewN | apply Kd.R_drew)); exact HO_9.out⟩, ⟨by (with_reducible repeat (first | apply Kd.R_alloc | apply Kd.R_drewN | apply Kd.R_drew)); exact HO_11.out⟩, ⟨by (with_reducible repeat (first | refine blk_drewN ?_ _ | refine blk_drew ?_ | refine blk_alloc ?_ _)); exact BK555.out⟩, ⟨by repeat (first | (with_reducible first | exact HB.out | apply below_alloc | apply pw_below_drewN | apply below_drew1 | refine below_set ?_ GE555.out) | exact HB.out)⟩⟩
                                  · rw [if_neg c44] at H
                                    have c44b0 : (t557 == 0) = false := beq_eq_false_iff_ne.mpr c44
                                    have c44b1 : (t557 != 0) = true := bne_iff_ne.mpr c44
                                    (first | rw [c44b0] | (simp only [i64_w, i32_w]; rw [c44b0]) | skip)
                                    have H' := Aside0.mk H
                                    clear H
                                    go_wp2
                                    go_meet
                                    case rel => exact ⟨_, (true), (by first | rfl | (simp; done) | (simp [*]; done)), H', ⟨by have := HJ2.out; have := HK2.out; have := HK3.out; have := HJ23.out; first | omega | exact Nat.le_refl _⟩, ⟨by (with_reducible repeat (first | apply Kd.R_alloc | apply Kd.R_drewN | apply Kd.R_drew)); exact HO_7.out⟩, ⟨by (with_reducible repeat (first | apply Kd.R_alloc | apply Kd.R_drewN | apply Kd.R_drew)); exact HO_9.out⟩, ⟨by (with_reducible repeat (first | apply Kd.R_alloc | apply Kd.R_drewN | apply Kd.R_drew)); exact HO_11.out⟩, ⟨by (with_reducible repeat (first | refine blk_drewN ?_ _ | refine blk_drew ?_ | refine blk_alloc ?_ _)); exact BK555.out⟩, ⟨by repeat (first | (with_reducible first | exact HB.out | apply below_alloc | apply pw_below_drewN | apply below_drew1 | refine below_set ?_ GE555.out) | exact HB.out)⟩⟩
                                case rest =>
                                  clear HC40
                                  try clear c1
                                  try clear c2
                                  try clear p2
                                  try clear c3
                                  try clear c4
                                  try clear c4b0
                                  try clear c5
                                  try clear p5
                                  try clear q5
                                  try clear hx5
                                  try clear p6
                                  try clear c8
                                  try clear c8b0
                                  try clear c9
                                  try clear c9b0
                                  try clear c10
                                  try clear c10b0
                                  try clear c11
                                  try clear c11b0
                                  try clear c12
                                  try clear c15
                                  try clear c15b0
                                  try clear c15b1
                                  try clear c17
                                  try clear c17b0
                                  try clear c17b1
                                  try clear c20
                                  try clear c22
                                  try clear c22b0
                                  try clear c23
                                  try clear c23b0
                                  try clear c26
                                  try clear c28
                                  try clear c28b0
                                  try clear c30
                                  try clear c30b0
                                  try clear c32
                                  try clear c32b0
                                  try clear c33
                                  try clear c33b0
                                  try clear c33b1
                                  try clear c37
                                  try clear c44
                                  try clear c44b0
                                  try clear c44b1
                                  try clear c45
                                  try clear c45b0
                                  try clear c45b1
                                  try clear c46
                                  try clear c46b0
                                  try clear c46b1
                                  try clear hcz27_0
                                  try clear hcz27_1
                                  try clear hcz29_0
                                  try clear hcz29_1
                                  try clear hcz31_0
                                  try clear hcz31_1
                                  try clear hcz34_0
                                  try clear hcz34_1
                                  try clear hcz35_0
                                  try clear hcz35_1
                                  try clear hcz36_0
                                  try clear hcz36_1
                                  try clear hcz42_0
                                  try clear hcz42_1
                                  try clear hcz47_0
                                  try clear hcz47_1
                                  try clear hcz48_0
                                  try clear hcz48_1
                                  try clear hfz27_0
                                  try clear hfz27_1
                                  try clear hfz29_0
                                  try clear hfz29_1
                                  try clear hfz31_0
                                  try clear hfz31_1
                                  try clear hfz34_0
                                  try clear hfz34_1
                                  try clear hfz35_0
                                  try clear hfz35_1
                                  try clear hfz36_0
                                  try clear hfz36_1
                                  try clear hfz42_0
                                  try clear hfz42_1
                                  try clear hfz47_0
                                  try clear hfz47_1
                                  try clear hfz48_0
                                  try clear hfz48_1
                                  try clear hx536_0
                                  try clear hx537_0
                                  try clear hx538_0
                                  try clear hx554_0
                                  try clear hx554_1
                                  try clear p2
                                  try clear p5
                                  try clear p536
                                  try clear p537
                                  try clear p538
                                  try clear p554
                                  try clear p6
                                  try clear q5
                                  try clear q536
                                  try clear q537
                                  try clear q538
                                  try clear q554
                                  obtain ⟨kq, x153_39, rfl, HA, HJ39, HO_7, HO_9, HO_11, BK555, HB⟩ := hcut
                                  cases kq with
                                  | zero => exact absurd HA.out (by simp [torrentlaw4_BitsetRunsBack.j4])
                                  | succ kj39 =>
                                    have H := HA.out
                                    clear HA
                                    simp only [torrentlaw4_BitsetRunsBack.j4] at H
                                    by_cases c49 : x153_39 = true
                                    · subst c49
                                      have H1 : (some false) = some r := by rw [if_pos rfl] at H; exact H
                                      clear H
                                      have H := H1
                                      clear H1
                                      obtain rfl := Option.some.inj H
                                      go_wp2
                                      go_ret
                                      exact ⟨by first | rfl | (simp [errW_none, errW_some] <;> rfl) | (simp [*, errW_none, errW_some] <;> rfl), by repeat (first | (with_reducible first | exact HB.out | apply below_alloc | apply pw_below_drewN | apply below_drew1 | refine below_set ?_ GE555.out) | exact HB.out)⟩
                                    · replace c49 := Bool.eq_false_iff.mpr c49
                                      subst c49
                                      have H1 : (torrentlaw4_BitsetRunsBack.l2 kj39 a0 x7_2 t542 t546 x13_3 x14_3 t558 ((rd_T59 t546 x14_3).f0) ((rd_T59 t546 x14_3).f0) ((rd_T59 t546 x14_3).f1)) = some r := by rw [if_neg (show ¬ (false = true) by decide)] at H; exact H
                                      clear H
                                      have H := H1
                                      clear H1
                                      have H' := Aside0.mk H
                                      clear H
                                      have hcz50_0 : wc.cell? ⟨gb555, 0, none⟩ = some (.int .i64 ((rd_T59 t546 x14_3).f0)) := (blk_cell BK555.out 0).trans rfl
                                      have hcz50_1 : wc.cell? ⟨gb555, 1, none⟩ = some (.int .i64 ((rd_T59 t546 x14_3).f1)) := (blk_cell BK555.out 1).trans rfl
                                      have hfz50_0 := blk_frozen BK555.out 0
                                      have hfz50_1 := blk_frozen BK555.out 1
                                      go_wp2
                                      go_loopg [20] kj39 (fun kq v20 w' => ∃ (x20_6 : Int), v20 = .int .i64 x20_6 ∧ Aside0 (torrentlaw4_BitsetRunsBack.l2 kq a0 x7_2 t542 t546 x13_3 x14_3 t558 x20_6 ((rd_T59 t546 x14_3).f0) ((rd_T59 t546 x14_3).f1) = some r) ∧ Aside0 (kq ≤ kj39) ∧ Aside0 (Kd.R (Kd.int .i64) 3 w' w.heap.size (fun _ => True) (.slice Ao18 x7_2.length co18) x7_2) ∧ Aside0 (Kd.R (Kd.int .u8) 5 w' w.heap.size (fun _ => True) (.slice Ao20 t542.length co20) t542) ∧ Aside0 (Kd.R k59 59 w' w.heap.size (fun k_ => k_ ≠ gb555) (.slice (some ad554) t546.length co25) t546) ∧ Aside0 (w'.heap[gb555]? = some (.cells #[.int .i64 ((rd_T59 t546 x14_3).f0), .int .i64 ((rd_T59 t546 x14_3).f1)] 59 (0, 0))) ∧ Aside0 (Below w.heap.size w w'))
                                      case atStart => exact ⟨(((rd_T59 t546 x14_3).f0)), (by first | rfl | (simp; done) | (simp [*]; done)), H', ⟨Nat.le_refl _⟩, ⟨by (with_reducible repeat (first | apply Kd.R_alloc | apply Kd.R_drewN | apply Kd.R_drew)); exact HO_7.out⟩, ⟨by (with_reducible repeat (first | apply Kd.R_alloc | apply Kd.R_drewN | apply Kd.R_drew)); exact HO_9.out⟩, ⟨by (with_reducible repeat (first | apply Kd.R_alloc | apply Kd.R_drewN | apply Kd.R_drew)); exact HO_11.out⟩, ⟨by (with_reducible repeat (first | refine blk_drewN ?_ _ | refine blk_drew ?_ | refine blk_alloc ?_ _)); exact BK555.out⟩, ⟨by repeat (first | (with_reducible first | exact HB.out | apply below_alloc | apply pw_below_drewN | apply below_drew1 | refine below_set ?_ GE555.out) | exact HB.out)⟩⟩
                                      case round =>
                                        clear H'
                                        try clear c1
                                        try clear c2
                                        try clear p2
                                        try clear c3
                                        try clear c4
                                        try clear c4b0
                                        try clear c5
                                        try clear p5
                                        try clear q5
                                        try clear hx5
                                        try clear p6
                                        try clear c8
                                        try clear c8b0
                                        try clear c9
                                        try clear c9b0
                                        try clear c10
                                        try clear c10b0
                                        try clear c11
                                        try clear c11b0
                                        try clear c12
                                        try clear c15
                                        try clear c15b0
                                        try clear c15b1
                                        try clear c17
                                        try clear c17b0
                                        try clear c17b1
                                        try clear c20
                                        try clear c22
                                        try clear c22b0
                                        try clear c23
                                        try clear c23b0
                                        try clear c26
                                        try clear c28
                                        try clear c28b0
                                        try clear c30
                                        try clear c30b0
                                        try clear c32
                                        try clear c32b0
                                        try clear c33
                                        try clear c33b0
                                        try clear c33b1
                                        try clear c37
                                        try clear c44
                                        try clear c44b0
                                        try clear c44b1
                                        try clear c45
                                        try clear c45b0
                                        try clear c45b1
                                        try clear c46
                                        try clear c46b0
                                        try clear c46b1
                                        try clear c49
                                        try clear hcz27_0
                                        try clear hcz27_1
                                        try clear hcz29_0
                                        try clear hcz29_1
                                        try clear hcz31_0
                                        try clear hcz31_1
                                        try clear hcz34_0
                                        try clear hcz34_1
                                        try clear hcz35_0
                                        try clear hcz35_1
                                        try clear hcz36_0
                                        try clear hcz36_1
                                        try clear hcz42_0
                                        try clear hcz42_1
                                        try clear hcz47_0
                                        try clear hcz47_1
                                        try clear hcz48_0
                                        try clear hcz48_1
                                        try clear hcz50_0
                                        try clear hcz50_1
                                        try clear hfz27_0
                                        try clear hfz27_1
                                        try clear hfz29_0
                                        try clear hfz29_1
                                        try clear hfz31_0
                                        try clear hfz31_1
                                        try clear hfz34_0
                                        try clear hfz34_1
                                        try clear hfz35_0
                                        try clear hfz35_1
                                        try clear hfz36_0
                                        try clear hfz36_1
                                        try clear hfz42_0
                                        try clear hfz42_1
                                        try clear hfz47_0
                                        try clear hfz47_1
                                        try clear hfz48_0
                                        try clear hfz48_1
                                        try clear hfz50_0
                                        try clear hfz50_1
                                        try clear hx536_0
                                        try clear hx537_0
                                        try clear hx538_0
                                        try clear hx554_0
                                        try clear hx554_1
                                        try clear p2
                                        try clear p5
                                        try clear p536
                                        try clear p537
                                        try clear p538
                                        try clear p554
                                        try clear p6
                                        try clear q5
                                        try clear q536
                                        try clear q537
                                        try clear q538
                                        try clear q554
                                        obtain ⟨x20_6, rfl, HA, HK6, HO_7, HO_9, HO_11, BK555, HB⟩ := hrel
                                        cases gk with
                                        | zero => exact absurd HA.out (by simp [torrentlaw4_BitsetRunsBack.l2])
                                        | succ k6 =>
                                          have H := HA.out
                                          clear HA
                                          simp only [torrentlaw4_BitsetRunsBack.l2] at H
                                          by_cases c51 : x20_6 < t558
                                          · rw [if_pos c51] at H
                                            have c51b0 : decide (x20_6 < t558) = true := decide_eq_true c51
                                            clear c51
                                            replace H := Option.bind_eq_some_iff.mp H
                                            obtain ⟨t560, A520, H⟩ := H
                                            replace H : (if t560 = true then (torrentlaw4_BitsetRunsBack.l2 k6 a0 x7_2 t542 t546 x13_3 x14_3 t558 (wrap64 (x20_6 + 1)) ((rd_T59 t546 x14_3).f0) ((rd_T59 t546 x14_3).f1)) else (some false)) = some r := H
                                            have A52 := Aside0.mk A520
                                            clear A520
                                            by_cases c53 : t560 = true
                                            · subst c53
                                              have H1 : (torrentlaw4_BitsetRunsBack.l2 k6 a0 x7_2 t542 t546 x13_3 x14_3 t558 (wrap64 (x20_6 + 1)) ((rd_T59 t546 x14_3).f0) ((rd_T59 t546 x14_3).f1)) = some r := by rw [if_pos rfl] at H; exact H
                                              clear H
                                              have H := H1
                                              clear H1
                                              have H' := Aside0.mk H
                                              clear H
                                              go_wp2_with (first | ((with_reducible refine gate_callee (f := 49) rfl ?_); refine goesL_ (some 163) rfl rfl Try.func49 (by kernel_rfl) rfl #[.slice Ao18 x7_2.length co18, .int .i64 x20_6] rfl (by (try simp only [List.map_toArray, List.map_cons, List.map_nil]); first | done | rfl | (simp only [List.length_drop, List.length_take]; rfl)) ?_; (with_reducible refine (torrentlaw4_has.calls k6 _ _ x7_2 x20_6 true _ ?side1 ?side2 A52.out).mono ?_); (case side1 => repeat (first | exact (Kd.R_reads' HO_7.out).2.2 | (with_reducible refine Kd.C_alloc ?_ _) | (with_reducible refine Kd.C_drewN ?_ _) | (with_reducible refine Kd.C_drew ?_))); (case side2 => exact (Kd.R_reads' HO_7.out).2.1); rintro e w' ⟨rfl, ⟨nd, rfl⟩⟩; refine ⟨_, rfl, ?_⟩))
                                              go_roundg k6
                                              case measure => have := HJ2.out; have := HK2.out; have := HK3.out; have := HJ23.out; have := HJ39.out; have := HK6.out; omega
                                              case rel => exact ⟨(wrap64 (x20_6 + 1)), (by first | rfl | (simp; done) | (simp [*]; done)), H', ⟨by have := HJ2.out; have := HK2.out; have := HK3.out; have := HJ23.out; have := HJ39.out; have := HK6.out; omega⟩, ⟨by (with_reducible repeat (first | apply Kd.R_alloc | apply Kd.R_drewN | apply Kd.R_drew)); exact HO_7.out⟩, ⟨by (with_reducible repeat (first | apply Kd.R_alloc | apply Kd.R_drewN | apply Kd.R_drew)); exact HO_9.out⟩, ⟨by (with_reducible repeat (first | apply Kd.R_alloc | apply Kd.R_drewN | apply Kd.R_drew)); exact HO_11.out⟩, ⟨by (with_reducible repeat (first | refine blk_drewN ?_ _ | refine blk_drew ?_ | refine blk_alloc ?_ _)); exact BK555.out⟩, ⟨by repeat (first | (with_reducible first | exact HB.out | apply below_alloc | apply pw_below_drewN | apply below_drew1 | refine below_set ?_ GE555.out) | exact HB.out)⟩⟩
                                            · replace c53 := Bool.eq_false_iff.mpr c53
                                              subst c53
                                              have H1 : (some false) = some r := by rw [if_neg (show ¬ (false = true) by decide)] at H; exact H
                                              clear H
                                              have H := H1
                                              clear H1
                                              obtain rfl := Option.some.inj H
                                              go_wp2_with (first | ((with_reducible refine gate_callee (f := 49) rfl ?_); refine goesL_ (some 163) rfl rfl Try.func49 (by kernel_rfl) rfl #[.slice Ao18 x7_2.length co18, .int .i64 x20_6] rfl (by (try simp only [List.map_toArray, List.map_cons, List.map_nil]); first | done | rfl | (simp only [List.length_drop, List.length_take]; rfl)) ?_; (with_reducible refine (torrentlaw4_has.calls k6 _ _ x7_2 x20_6 false _ ?side1 ?side2 A52.out).mono ?_); (case side1 => repeat (first | exact (Kd.R_reads' HO_7.out).2.2 | (with_reducible refine Kd.C_alloc ?_ _) | (with_reducible refine Kd.C_drewN ?_ _) | (with_reducible refine Kd.C_drew ?_))); (case side2 => exact (Kd.R_reads' HO_7.out).2.1); rintro e w' ⟨rfl, ⟨nd, rfl⟩⟩; refine ⟨_, rfl, ?_⟩))
                                              go_ret
                                              exact ⟨by first | rfl | (simp [errW_none, errW_some] <;> rfl) | (simp [*, errW_none, errW_some] <;> rfl), by repeat (first | (with_reducible first | exact HB.out | apply below_alloc | apply pw_below_drewN | apply below_drew1 | refine below_set ?_ GE555.out) | exact HB.out)⟩
                                          · rw [if_neg c51] at H
                                            have c51b0 : decide (x20_6 < t558) = false := decide_eq_false c51
                                            clear c51
                                            have H' := Aside0.mk H
                                            clear H
                                            have hcz54_0 : wr.cell? ⟨gb555, 0, none⟩ = some (.int .i64 ((rd_T59 t546 x14_3).f0)) := (blk_cell BK555.out 0).trans rfl
                                            have hcz54_1 : wr.cell? ⟨gb555, 1, none⟩ = some (.int .i64 ((rd_T59 t546 x14_3).f1)) := (blk_cell BK555.out 1).trans rfl
                                            have hfz54_0 := blk_frozen BK555.out 0
                                            have hfz54_1 := blk_frozen BK555.out 1
                                            go_wp2
                                            go_roundg k6
                                            case measure => have := HJ2.out; have := HK2.out; have := HK3.out; have := HJ23.out; have := HJ39.out; have := HK6.out; omega
                                            case rel => exact ⟨(t558), (wrap64 (x13_3 + ((rd_T59 t546 x14_3).f1))), (wrap64 (x14_3 + 1)), (by first | rfl | (simp; done) | (simp [*]; done)), (by first | rfl | (simp; done) | (simp [*]; done)), (by first | rfl | (simp; done) | (simp [*]; done)), H', ⟨by have := HJ2.out; have := HK2.out; have := HK3.out; have := HJ23.out; have := HJ39.out; have := HK6.out; omega⟩, ⟨by (with_reducible repeat (first | apply Kd.R_alloc | apply Kd.R_drewN | apply Kd.R_drew)); exact HO_7.out⟩, ⟨by (with_reducible repeat (first | apply Kd.R_alloc | apply Kd.R_drewN | apply Kd.R_drew)); exact HO_9.out⟩, ⟨by (with_reducible repeat (first | apply Kd.R_alloc | apply Kd.R_drewN | apply Kd.R_drew)); exact Kd.R_mono HO_11.out (fun _ hk => trivial)⟩, ⟨by repeat (first | (with_reducible first | exact HB.out | apply below_alloc | apply pw_below_drewN | apply below_drew1 | refine below_set ?_ GE555.out) | exact HB.out)⟩⟩
                        · rw [if_neg c23] at H
                          exact absurd H (by simp)
                      · rw [if_neg c22] at H
                        have c22b0 : decide (x14_3 < (t546.length : Int)) = false := decide_eq_false c22
                        clear c22
                        replace H := Option.bind_eq_some_iff.mp H
                        obtain ⟨⟨t550, t551⟩, A550, H⟩ := H
                        replace H : ((bitset_Count.f k3 a0 t542).bind fun bt552 => (if t551 = 0 then (if bt552.2 = 0 then (if t550 = a0 then (some (bt552.1 == x13_3)) else (some false)) else (some false)) else (some false))) = some r := H
                        have A55 := Aside0.mk A550
                        clear A550
                        replace H := Option.bind_eq_some_iff.mp H
                        obtain ⟨⟨t552, t553⟩, A560, H⟩ := H
                        replace H : (if t551 = 0 then (if t553 = 0 then (if t550 = a0 then (some (t552 == x13_3)) else (some false)) else (some false)) else (some false)) = some r := H
                        have A56 := Aside0.mk A560
                        clear A560
                        by_cases c57 : t551 = 0
                        · rw [if_pos c57] at H
                          have c57b0 : (t551 == 0) = true := beq_iff_eq.mpr c57
                          have c57b1 : (t551 != 0) = false := bne_eq_false_iff_eq.mpr c57
                          clear c57
                          by_cases c58 : t553 = 0
                          · rw [if_pos c58] at H
                            have c58b0 : (t553 == 0) = true := beq_iff_eq.mpr c58
                            have c58b1 : (t553 != 0) = false := bne_eq_false_iff_eq.mpr c58
                            clear c58
                            by_cases c59 : t550 = a0
                            · rw [if_pos c59] at H
                              have c59b0 : (t550 == a0) = true := beq_iff_eq.mpr c59
                              have c59b1 : (t550 != a0) = false := bne_eq_false_iff_eq.mpr c59
                              clear c59
                              obtain rfl := Option.some.inj H
                              obtain ⟨Ao60, co60, eo60⟩ := Kd.R_slice HO_11.out
                              subst eo60
                              go_wp2_with (first | ((with_reducible refine gate_callee (f := 26) rfl ?_); refine goesL_ (some 174) rfl rfl Try.func26 (by kernel_rfl) rfl #[.int .i64 a0, .slice Ao20 t542.length co20, .int .i64 x12_3, .bool true] rfl (by (try simp only [List.map_toArray, List.map_cons, List.map_nil]); first | done | rfl | (simp only [List.length_drop, List.length_take]; rfl)) ?_; (with_reducible refine (bitset_Next.calls k3 a0 _ _ t542 x12_3 true t550 t551 _ ?side1 ?side2 A55.out).mono ?_); (case side1 => repeat (first | exact (Kd.R_reads' HO_9.out).2.2 | (with_reducible refine Kd.C_alloc ?_ _) | (with_reducible refine Kd.C_drewN ?_ _) | (with_reducible refine Kd.C_drew ?_))); (case side2 => exact (Kd.R_reads' HO_9.out).2.1); rintro e w61 ⟨rfl, hb⟩; refine ⟨_, rfl, ?_⟩; have n0_ := Aside0.mk (Kd.R_below (by (with_reducible repeat (first | apply Kd.R_alloc | apply Kd.R_drewN | apply Kd.R_drew)); exact HO_7.out) hb); have n1_ := Aside0.mk (Kd.R_below (by (with_reducible repeat (first | apply Kd.R_alloc | apply Kd.R_drewN | apply Kd.R_drew)); exact HO_9.out) hb); have n2_ := Aside0.mk (Kd.R_below (by (with_reducible repeat (first | apply Kd.R_alloc | apply Kd.R_drewN | apply Kd.R_drew)); exact HO_11.out) hb); have n3_ := Aside0.mk (below_step (by repeat (first | (with_reducible first | exact HB.out | apply below_alloc | apply pw_below_drewN | apply below_drew1) | exact HB.out)) hb); clear HO_7; clear HO_9; clear HO_11; clear HB; have HO_7 := n0_; have HO_9 := n1_; have HO_11 := n2_; have HB := n3_; clear n0_ n1_ n2_ n3_; (try clear hb); (try clear hb2); (try clear hk); (try clear hi)) | ((with_reducible refine gate_callee (f := 35) rfl ?_); refine goesL_ (some 180) rfl rfl Try.func35 (by kernel_rfl) rfl #[.int .i64 a0, .slice Ao20 t542.length co20] rfl (by (try simp only [List.map_toArray, List.map_cons, List.map_nil]); first | done | rfl | (simp only [List.length_drop, List.length_take]; rfl)) ?_; (with_reducible refine (bitset_Count.calls k3 a0 _ _ t542 t552 t553 _ ?side1 ?side2 A56.out).mono ?_); (case side1 => repeat (first | exact (Kd.R_reads' HO_9.out).2.2 | (with_reducible refine Kd.C_alloc ?_ _) | (with_reducible refine Kd.C_drewN ?_ _) | (with_reducible refine Kd.C_drew ?_))); (case side2 => exact (Kd.R_reads' HO_9.out).2.1); rintro e w62 ⟨rfl, hb⟩; refine ⟨_, rfl, ?_⟩; have n0_ := Aside0.mk (Kd.R_below (by (with_reducible repeat (first | apply Kd.R_alloc | apply Kd.R_drewN | apply Kd.R_drew)); exact HO_7.out) hb); have n1_ := Aside0.mk (Kd.R_below (by (with_reducible repeat (first | apply Kd.R_alloc | apply Kd.R_drewN | apply Kd.R_drew)); exact HO_9.out) hb); have n2_ := Aside0.mk (Kd.R_below (by (with_reducible repeat (first | apply Kd.R_alloc | apply Kd.R_drewN | apply Kd.R_drew)); exact HO_11.out) hb); have n3_ := Aside0.mk (below_step (by repeat (first | (with_reducible first | exact HB.out | apply below_alloc | apply pw_below_drewN | apply below_drew1) | exact HB.out)) hb); clear HO_7; clear HO_9; clear HO_11; clear HB; have HO_7 := n0_; have HO_9 := n1_; have HO_11 := n2_; have HB := n3_; clear n0_ n1_ n2_ n3_; (try clear hb); (try clear hb2); (try clear hk); (try clear hi)))
                              go_ret
                              exact ⟨by first | rfl | (simp [errW_none, errW_some] <;> rfl) | (simp [*, errW_none, errW_some] <;> rfl), by repeat (first | (with_reducible first | exact HB.out | apply below_alloc | apply pw_below_drewN | apply below_drew1) | exact HB.out)⟩
                            · rw [if_neg c59] at H
                              have c59b0 : (t550 == a0) = false := beq_eq_false_iff_ne.mpr c59
                              have c59b1 : (t550 != a0) = true := bne_iff_ne.mpr c59
                              obtain rfl := Option.some.inj H
                              obtain ⟨Ao63, co63, eo63⟩ := Kd.R_slice HO_11.out
                              subst eo63
                              go_wp2_with (first | ((with_reducible refine gate_callee (f := 26) rfl ?_); refine goesL_ (some 174) rfl rfl Try.func26 (by kernel_rfl) rfl #[.int .i64 a0, .slice Ao20 t542.length co20, .int .i64 x12_3, .bool true] rfl (by (try simp only [List.map_toArray, List.map_cons, List.map_nil]); first | done | rfl | (simp only [List.length_drop, List.length_take]; rfl)) ?_; (with_reducible refine (bitset_Next.calls k3 a0 _ _ t542 x12_3 true t550 t551 _ ?side1 ?side2 A55.out).mono ?_); (case side1 => repeat (first | exact (Kd.R_reads' HO_9.out).2.2 | (with_reducible refine Kd.C_alloc ?_ _) | (with_reducible refine Kd.C_drewN ?_ _) | (with_reducible refine Kd.C_drew ?_))); (case side2 => exact (Kd.R_reads' HO_9.out).2.1); rintro e w64 ⟨rfl, hb⟩; refine ⟨_, rfl, ?_⟩; have n0_ := Aside0.mk (Kd.R_below (by (with_reducible repeat (first | apply Kd.R_alloc | apply Kd.R_drewN | apply Kd.R_drew)); exact HO_7.out) hb); have n1_ := Aside0.mk (Kd.R_below (by (with_reducible repeat (first | apply Kd.R_alloc | apply Kd.R_drewN | apply Kd.R_drew)); exact HO_9.out) hb); have n2_ := Aside0.mk (Kd.R_below (by (with_reducible repeat (first | apply Kd.R_alloc | apply Kd.R_drewN | apply Kd.R_drew)); exact HO_11.out) hb); have n3_ := Aside0.mk (below_step (by repeat (first | (with_reducible first | exact HB.out | apply below_alloc | apply pw_below_drewN | apply below_drew1) | exact HB.out)) hb); clear HO_7; clear HO_9; clear HO_11; clear HB; have HO_7 := n0_; have HO_9 := n1_; have HO_11 := n2_; have HB := n3_; clear n0_ n1_ n2_ n3_; (try clear hb); (try clear hb2); (try clear hk); (try clear hi)) | ((with_reducible refine gate_callee (f := 35) rfl ?_); refine goesL_ (some 180) rfl rfl Try.func35 (by kernel_rfl) rfl #[.int .i64 a0, .slice Ao20 t542.length co20] rfl (by (try simp only [List.map_toArray, List.map_cons, List.map_nil]); first | done | rfl | (simp only [List.length_drop, List.length_take]; rfl)) ?_; (with_reducible refine (bitset_Count.calls k3 a0 _ _ t542 t552 t553 _ ?side1 ?side2 A56.out).mono ?_); (case side1 => repeat (first | exact (Kd.R_reads' HO_9.out).2.2 | (with_reducible refine Kd.C_alloc ?_ _) | (with_reducible refine Kd.C_drewN ?_ _) | (with_reducible refine Kd.C_drew ?_))); (case side2 => exact (Kd.R_reads' HO_9.out).2.1); rintro e w65 ⟨rfl, hb⟩; refine ⟨_, rfl, ?_⟩; have n0_ := Aside0.mk (Kd.R_below (by (with_reducible repeat (first | apply Kd.R_alloc | apply Kd.R_drewN | apply Kd.R_drew)); exact HO_7.out) hb); have n1_ := Aside0.mk (Kd.R_below (by (with_reducible repeat (first | apply Kd.R_alloc | apply Kd.R_drewN | apply Kd.R_drew)); exact HO_9.out) hb); have n2_ := Aside0.mk (Kd.R_below (by (with_reducible repeat (first | apply Kd.R_alloc | apply Kd.R_drewN | apply Kd.R_drew)); exact HO_11.out) hb); have n3_ := Aside0.mk (below_step (by repeat (first | (with_reducible first | exact HB.out | apply below_alloc | apply pw_below_drewN | apply below_drew1) | exact HB.out)) hb); clear HO_7; clear HO_9; clear HO_11; clear HB; have HO_7 := n0_; have HO_9 := n1_; have HO_11 := n2_; have HB := n3_; clear n0_ n1_ n2_ n3_; (try clear hb); (try clear hb2); (try clear hk); (try clear hi)))
                              go_ret
                              exact ⟨by first | rfl | (simp [errW_none, errW_some] <;> rfl) | (simp [*, errW_none, errW_some] <;> rfl), by repeat (first | (with_reducible first | exact HB.out | apply below_alloc | apply pw_below_drewN | apply below_drew1) | exact HB.out)⟩
                          · rw [if_neg c58] at H
                            have c58b0 : (t553 == 0) = false := beq_eq_false_iff_ne.mpr c58
                            have c58b1 : (t553 != 0) = true := bne_iff_ne.mpr c58
                            obtain rfl := Option.some.inj H
                            obtain ⟨Ao66, co66, eo66⟩ := Kd.R_slice HO_11.out
                            subst eo66
                            go_wp2_with (first | ((with_reducible refine gate_callee (f := 26) rfl ?_); refine goesL_ (some 174) rfl rfl Try.func26 (by kernel_rfl) rfl #[.int .i64 a0, .slice Ao20 t542.length co20, .int .i64 x12_3, .bool true] rfl (by (try simp only [List.map_toArray, List.map_cons, List.map_nil]); first | done | rfl | (simp only [List.length_drop, List.length_take]; rfl)) ?_; (with_reducible refine (bitset_Next.calls k3 a0 _ _ t542 x12_3 true t550 t551 _ ?side1 ?side2 A55.out).mono ?_); (case side1 => repeat (first | exact (Kd.R_reads' HO_9.out).2.2 | (with_reducible refine Kd.C_alloc ?_ _) | (with_reducible refine Kd.C_drewN ?_ _) | (with_reducible refine Kd.C_drew ?_))); (case side2 => exact (Kd.R_reads' HO_9.out).2.1); rintro e w67 ⟨rfl, hb⟩; refine ⟨_, rfl, ?_⟩; have n0_ := Aside0.mk (Kd.R_below (by (with_reducible repeat (first | apply Kd.R_alloc | apply Kd.R_drewN | apply Kd.R_drew)); exact HO_7.out) hb); have n1_ := Aside0.mk (Kd.R_below (by (with_reducible repeat (first | apply Kd.R_alloc | apply Kd.R_drewN | apply Kd.R_drew)); exact HO_9.out) hb); have n2_ := Aside0.mk (Kd.R_below (by (with_reducible repeat (first | apply Kd.R_alloc | apply Kd.R_drewN | apply Kd.R_drew)); exact HO_11.out) hb); have n3_ := Aside0.mk (below_step (by repeat (first | (with_reducible first | exact HB.out | apply below_alloc | apply pw_below_drewN | apply below_drew1) | exact HB.out)) hb); clear HO_7; clear HO_9; clear HO_11; clear HB; have HO_7 := n0_; have HO_9 := n1_; have HO_11 := n2_; have HB := n3_; clear n0_ n1_ n2_ n3_; (try clear hb); (try clear hb2); (try clear hk); (try clear hi)) | ((with_reducible refine gate_callee (f := 35) rfl ?_); refine goesL_ (some 180) rfl rfl Try.func35 (by kernel_rfl) rfl #[.int .i64 a0, .slice Ao20 t542.length co20] rfl (by (try simp only [List.map_toArray, List.map_cons, List.map_nil]); first | done | rfl | (simp only [List.length_drop, List.length_take]; rfl)) ?_; (with_reducible refine (bitset_Count.calls k3 a0 _ _ t542 t552 t553 _ ?side1 ?side2 A56.out).mono ?_); (case side1 => repeat (first | exact (Kd.R_reads' HO_9.out).2.2 | (with_reducible refine Kd.C_alloc ?_ _) | (with_reducible refine Kd.C_drewN ?_ _) | (with_reducible refine Kd.C_drew ?_))); (case side2 => exact (Kd.R_reads' HO_9.out).2.1); rintro e w68 ⟨rfl, hb⟩; refine ⟨_, rfl, ?_⟩; have n0_ := Aside0.mk (Kd.R_below (by (with_reducible repeat (first | apply Kd.R_alloc | apply Kd.R_drewN | apply Kd.R_drew)); exact HO_7.out) hb); have n1_ := Aside0.mk (Kd.R_below (by (with_reducible repeat (first | apply Kd.R_alloc | apply Kd.R_drewN | apply Kd.R_drew)); exact HO_9.out) hb); have n2_ := Aside0.mk (Kd.R_below (by (with_reducible repeat (first | apply Kd.R_alloc | apply Kd.R_drewN | apply Kd.R_drew)); exact HO_11.out) hb); have n3_ := Aside0.mk (below_step (by repeat (first | (with_reducible first | exact HB.out | apply below_alloc | apply pw_below_drewN | apply below_drew1) | exact HB.out)) hb); clear HO_7; clear HO_9; clear HO_11; clear HB; have HO_7 := n0_; have HO_9 := n1_; have HO_11 := n2_; have HB := n3_; clear n0_ n1_ n2_ n3_; (try clear hb); (try clear hb2); (try clear hk); (try clear hi)))
                            go_ret
                            exact ⟨by first | rfl | (simp [errW_none, errW_some] <;> rfl) | (simp [*, errW_none, errW_some] <;> rfl), by repeat (first | (with_reducible first | exact HB.out | apply below_alloc | apply pw_below_drewN | apply below_drew1) | exact HB.out)⟩
                        · rw [if_neg c57] at H
                          have c57b0 : (t551 == 0) = false := beq_eq_false_iff_ne.mpr c57
                          have c57b1 : (t551 != 0) = true := bne_iff_ne.mpr c57
                          obtain rfl := Option.some.inj H
                          obtain ⟨Ao69, co69, eo69⟩ := Kd.R_slice HO_11.out
                          subst eo69
                          go_wp2_with (first | ((with_reducible refine gate_callee (f := 26) rfl ?_); refine goesL_ (some 174) rfl rfl Try.func26 (by kernel_rfl) rfl #[.int .i64 a0, .slice Ao20 t542.length co20, .int .i64 x12_3, .bool true] rfl (by (try simp only [List.map_toArray, List.map_cons, List.map_nil]); first | done | rfl | (simp only [List.length_drop, List.length_take]; rfl)) ?_; (with_reducible refine (bitset_Next.calls k3 a0 _ _ t542 x12_3 true t550 t551 _ ?side1 ?side2 A55.out).mono ?_); (case side1 => repeat (first | exact (Kd.R_reads' HO_9.out).2.2 | (with_reducible refine Kd.C_alloc ?_ _) | (with_reducible refine Kd.C_drewN ?_ _) | (with_reducible refine Kd.C_drew ?_))); (case side2 => exact (Kd.R_reads' HO_9.out).2.1); rintro e w70 ⟨rfl, hb⟩; refine ⟨_, rfl, ?_⟩; have n0_ := Aside0.mk (Kd.R_below (by (with_reducible repeat (first | apply Kd.R_alloc | apply Kd.R_drewN | apply Kd.R_drew)); exact HO_7.out) hb); have n1_ := Aside0.mk (Kd.R_below (by (with_reducible repeat (first | apply Kd.R_alloc | apply Kd.R_drewN | apply Kd.R_drew)); exact HO_9.out) hb); have n2_ := Aside0.mk (Kd.R_below (by (with_reducible repeat (first | apply Kd.R_alloc | apply Kd.R_drewN | apply Kd.R_drew)); exact HO_11.out) hb); have n3_ := Aside0.mk (below_step (by repeat (first | (with_reducible first | exact HB.out | apply below_alloc | apply pw_below_drewN | apply below_drew1) | exact HB.out)) hb); clear HO_7; clear HO_9; clear HO_11; clear HB; have HO_7 := n0_; have HO_9 := n1_; have HO_11 := n2_; have HB := n3_; clear n0_ n1_ n2_ n3_; (try clear hb); (try clear hb2); (try clear hk); (try clear hi)) | ((with_reducible refine gate_callee (f := 35) rfl ?_); refine goesL_ (some 180) rfl rfl Try.func35 (by kernel_rfl) rfl #[.int .i64 a0, .slice Ao20 t542.length co20] rfl (by (try simp only [List.map_toArray, List.map_cons, List.map_nil]); first | done | rfl | (simp only [List.length_drop, List.length_take]; rfl)) ?_; (with_reducible refine (bitset_Count.calls k3 a0 _ _ t542 t552 t553 _ ?side1 ?side2 A56.out).mono ?_); (case side1 => repeat (first | exact (Kd.R_reads' HO_9.out).2.2 | (with_reducible refine Kd.C_alloc ?_ _) | (with_reducible refine Kd.C_drewN ?_ _) | (with_reducible refine Kd.C_drew ?_))); (case side2 => exact (Kd.R_reads' HO_9.out).2.1); rintro e w71 ⟨rfl, hb⟩; refine ⟨_, rfl, ?_⟩; have n0_ := Aside0.mk (Kd.R_below (by (with_reducible repeat (first | apply Kd.R_alloc | apply Kd.R_drewN | apply Kd.R_drew)); exact HO_7.out) hb); have n1_ := Aside0.mk (Kd.R_below (by (with_reducible repeat (first | apply Kd.R_alloc | apply Kd.R_drewN | apply Kd.R_drew)); exact HO_9.out) hb); have n2_ := Aside0.mk (Kd.R_below (by (with_reducible repeat (first | apply Kd.R_alloc | apply Kd.R_drewN | apply Kd.R_drew)); exact HO_11.out) hb); have n3_ := Aside0.mk (below_step (by repeat (first | (with_reducible first | exact HB.out | apply below_alloc | apply pw_below_drewN | apply below_drew1) | exact HB.out)) hb); clear HO_7; clear HO_9; clear HO_11; clear HB; have HO_7 := n0_; have HO_9 := n1_; have HO_11 := n2_; have HB := n3_; clear n0_ n1_ n2_ n3_; (try clear hb); (try clear hb2); (try clear hk); (try clear hi)))
                          go_ret
                          exact ⟨by first | rfl | (simp [errW_none, errW_some] <;> rfl) | (simp [*, errW_none, errW_some] <;> rfl), by repeat (first | (with_reducible first | exact HB.out | apply below_alloc | apply pw_below_drewN | apply below_drew1) | exact HB.out)⟩
                · rw [if_neg c17] at H
                  have c17b0 : (t547 == 0) = false := beq_eq_false_iff_ne.mpr c17
                  have c17b1 : (t547 != 0) = true := bne_iff_ne.mpr c17
                  obtain rfl := Option.some.inj H
                  obtain ⟨Ao72, co72, eo72⟩ := Kd.R_slice HO_7.out
                  subst eo72
                  go_wp2_with (first | ((with_reducible refine gate_callee (f := 20) rfl ?_); refine goesL_ (some 67) rfl rfl Try.func20 (by kernel_rfl) rfl #[.int .i64 a0, .slice Ao72 x7_2.length co72] rfl (by (try simp only [List.map_toArray, List.map_cons, List.map_nil]); first | done | rfl | (simp only [List.length_drop, List.length_take]; rfl)) ?_; (with_reducible refine (bitset_Of.calls k2 a0 _ _ x7_2 t542 t543 _ ?side1 ?side2 A14.out).mono ?_); (case side1 => repeat (first | exact (Kd.R_reads' HO_7.out).2.2 | (with_reducible refine Kd.C_alloc ?_ _) | (with_reducible refine Kd.C_drewN ?_ _) | (with_reducible refine Kd.C_drew ?_))); (case side2 => exact (Kd.R_reads' HO_7.out).2.1); rintro e w73 ⟨v544, rfl, ho0, hb⟩; refine ⟨_, rfl, ?_⟩; have n0_ := Aside0.mk (Kd.R_below (by (with_reducible repeat (first | apply Kd.R_alloc | apply Kd.R_drewN | apply Kd.R_drew)); exact HO_7.out) hb); have n1_ := Aside0.mk (Kd.R_lower ho0 (below_size (by repeat (first | (with_reducible first | exact HB.out | apply below_alloc | apply pw_below_drewN | apply below_drew1) | exact HB.out)))); have n2_ := Aside0.mk (below_step (by repeat (first | (with_reducible first | exact HB.out | apply below_alloc | apply pw_below_drewN | apply below_drew1) | exact HB.out)) hb); clear HO_7; clear HB; have HO_7 := n0_; have HO545 := n1_; have HB := n2_; clear n0_ n1_ n2_; (try clear hb); (try clear hb2); (try clear hk); (try clear hi); (try clear ho0); obtain ⟨Ao74, co74, eo74⟩ := Kd.R_slice HO545.out; subst eo74) | ((with_reducible refine gate_callee (f := 28) rfl ?_); refine goesL_ (some 75) rfl rfl Try.func28 (by kernel_rfl) rfl #[.int .i64 a0, .slice Ao74 t542.length co74] rfl (by (try simp only [List.map_toArray, List.map_cons, List.map_nil]); first | done | rfl | (simp only [List.length_drop, List.length_take]; rfl)) ?_; (with_reducible refine (bitset_Runs.calls k2 a0 _ _ t542 t546 t547 _ ?side1 ?side2 A16.out).mono ?_); (case side1 => repeat (first | exact (Kd.R_reads' HO545.out).2.2 | (with_reducible refine Kd.C_alloc ?_ _) | (with_reducible refine Kd.C_drewN ?_ _) | (with_reducible refine Kd.C_drew ?_))); (case side2 => exact (Kd.R_reads' HO545.out).2.1); rintro e w75 ⟨v548, rfl, ho0, hb⟩; refine ⟨_, rfl, ?_⟩; have n0_ := Aside0.mk (Kd.R_below (by (with_reducible repeat (first | apply Kd.R_alloc | apply Kd.R_drewN | apply Kd.R_drew)); exact HO_7.out) hb); have n1_ := Aside0.mk (Kd.R_below (by (with_reducible repeat (first | apply Kd.R_alloc | apply Kd.R_drewN | apply Kd.R_drew)); exact HO545.out) hb); have n2_ := Aside0.mk (Kd.R_lower ho0 (below_size (by repeat (first | (with_reducible first | exact HB.out | apply below_alloc | apply pw_below_drewN | apply below_drew1) | exact HB.out)))); have n3_ := Aside0.mk (below_step (by repeat (first | (with_reducible first | exact HB.out | apply below_alloc | apply pw_below_drewN | apply below_drew1) | exact HB.out)) hb); clear HO_7; clear HO545; clear HB; have HO_7 := n0_; have HO545 := n1_; have HO549 := n2_; have HB := n3_; clear n0_ n1_ n2_ n3_; (try clear hb); (try clear hb2); (try clear hk); (try clear hi); (try clear ho0)))
                  go_ret
                  exact ⟨by first | rfl | (simp [errW_none, errW_some] <;> rfl) | (simp [*, errW_none, errW_some] <;> rfl), by repeat (first | (with_reducible first | exact HB.out | apply below_alloc | apply pw_below_drewN | apply below_drew1) | exact HB.out)⟩
              · rw [if_neg c15] at H
                have c15b0 : (t543 == 0) = false := beq_eq_false_iff_ne.mpr c15
                have c15b1 : (t543 != 0) = true := bne_iff_ne.mpr c15
                obtain rfl := Option.some.inj H
                obtain ⟨Ao76, co76, eo76⟩ := Kd.R_slice HO_7.out
                subst eo76
                go_wp2_with (first | ((with_reducible refine gate_callee (f := 20) rfl ?_); refine goesL_ (some 67) rfl rfl Try.func20 (by kernel_rfl) rfl #[.int .i64 a0, .slice Ao76 x7_2.length co76] rfl (by (try simp only [List.map_toArray, List.map_cons, List.map_nil]); first | done | rfl | (simp only [List.length_drop, List.length_take]; rfl)) ?_; (with_reducible refine (bitset_Of.calls k2 a0 _ _ x7_2 t542 t543 _ ?side1 ?side2 A14.out).mono ?_); (case side1 => repeat (first | exact (Kd.R_reads' HO_7.out).2.2 | (with_reducible refine Kd.C_alloc ?_ _) | (with_reducible refine Kd.C_drewN ?_ _) | (with_reducible refine Kd.C_drew ?_))); (case side2 => exact (Kd.R_reads' HO_7.out).2.1); rintro e w77 ⟨v544, rfl, ho0, hb⟩; refine ⟨_, rfl, ?_⟩; have n0_ := Aside0.mk (Kd.R_below (by (with_reducible repeat (first | apply Kd.R_alloc | apply Kd.R_drewN | apply Kd.R_drew)); exact HO_7.out) hb); have n1_ := Aside0.mk (Kd.R_lower ho0 (below_size (by repeat (first | (with_reducible first | exact HB.out | apply below_alloc | apply pw_below_drewN | apply below_drew1) | exact HB.out)))); have n2_ := Aside0.mk (below_step (by repeat (first | (with_reducible first | exact HB.out | apply below_alloc | apply pw_below_drewN | apply below_drew1) | exact HB.out)) hb); clear HO_7; clear HB; have HO_7 := n0_; have HO545 := n1_; have HB := n2_; clear n0_ n1_ n2_; (try clear hb); (try clear hb2); (try clear hk); (try clear hi); (try clear ho0)))
                go_ret
                exact ⟨by first | rfl | (simp [errW_none, errW_some] <;> rfl) | (simp [*, errW_none, errW_some] <;> rfl), by repeat (first | (with_reducible first | exact HB.out | apply below_alloc | apply pw_below_drewN | apply below_drew1) | exact HB.out)⟩

/-- THE ONE PURE STATEMENT of torrentlaw4_BitsetRunsBack: yours. -/
def torrentlaw4_BitsetRunsBack.Pure : Prop := ∀ (a0 : Int) (l1 : List Int), (Lit.int .i64 a0).wf = true → l1.length ≤ maxLen → l1.length * 8 ≤ 140737488351232 → (∀ x ∈ l1, (Lit.int .i64 x).wf = true) → ∃ k, torrentlaw4_BitsetRunsBack.f k a0 l1 = some true
theorem torrentlaw4_BitsetRunsBack.walk (P : torrentlaw4_BitsetRunsBack.Pure) (a0 : Int) (a1 : Option Addr) (len1 cap1 : Nat) (z1 : List Int) (w : World) (w0 : (Lit.int .i64 a0).wf = true) (w1 : (a1 = none ∧ len1 = 0 ∧ cap1 = 0 ∧ z1 = []) ∨ ∃ x, a1 = some x ∧ len1 ≤ cap1 ∧ cap1 ≤ maxLen ∧ z1.length = cap1 ∧ (∀ i, i < z1.length → w.cell? (x.add i) = some (.int .i64 (z1.getD i 0))) ∧ ∀ n ∈ z1, (Lit.int .i64 n).wf = true) (y1 : len1 * 8 ≤ 140737488351232) :
    Calls Try.prog 12 #[.int .i64 a0, .slice a1 len1 cap1] w fun e w' => e = .returned (.bool true) ∧ Below w.heap.size w w' := by
  obtain ⟨l1, rfl, hr1, hm1, hw1, hc1⟩ := ReadsInt.ofRowC w1
  obtain ⟨k, h⟩ := P a0 l1 w0 hm1 y1 hw1
  refine (torrentlaw4_BitsetRunsBack.calls k a0 _ _ l1 true w (Kd.C_of_reads (d := (0 : Int)) (h1 := fun _ => rfl) hr1) hc1 h).mono ?_
  rintro e w' ⟨rfl, hd⟩
  exact ⟨rfl, hd⟩

end Go.Proofs.Ytoohpdamndgdlaa.P

-- Made by a program of this session (the print of the kit over a neighbour), for this claim.
namespace Go.Proofs.Ytoohpdamndgdlaa.P
open Go.RowKit Go.Proofs.YtoohpdamndgdlaaW.PrintWords Go.Proofs.YtoohpdamndgdlaaW.PrintLast Go.Proofs.YtoohpdamndgdlaaW.PrintMore
attribute [local go_sem] max2_int min2_int max_two min_two max_three min_three max_four min_four   -- for this text's walks alone
set_option linter.unusedVariables false
set_option linter.unusedSimpArgs false

/-! ### torrentref4_size: function 72 -/
def torrentref4_size.f (a0 : Int) : Option (Int) := if (Int.tmod a0 8) > 0 then (some (wrap64 ((wrap64 (Int.tdiv a0 8)) + 1))) else (some (wrap64 (Int.tdiv a0 8)))
set_option maxHeartbeats 8000000 in
set_option maxRecDepth 100000 in
theorem torrentref4_size.calls (a0 : Int) (r : Int) (w : World) (h : torrentref4_size.f a0 = some r) :
    Calls Try.prog 72 #[.int .i64 a0] w fun e w' => e = .returned (.int .i64 r) ∧ Drawn0 w w' := by
  have H : (if (Int.tmod a0 8) > 0 then (some (wrap64 ((wrap64 (Int.tdiv a0 8)) + 1))) else (some (wrap64 (Int.tdiv a0 8)))) = some r := h
  clear h
  by_cases c2 : (Int.tmod a0 8) > 0
  · rw [if_pos c2] at H
    have c2b0 : decide (0 < (Int.tmod a0 8)) = true := decide_eq_true c2
    clear c2
    obtain rfl := Option.some.inj H
    go_enter Try.func72, Try.ntmps72
    go_wp2
    go_ret
    exact ⟨by first | rfl | (simp; done) | (simp [*]; done), by repeat (first | exact Drawn0.refl _ | apply Drawn0.step)⟩
  · rw [if_neg c2] at H
    have c2b0 : decide (0 < (Int.tmod a0 8)) = false := decide_eq_false c2
    clear c2
    obtain rfl := Option.some.inj H
    go_enter Try.func72, Try.ntmps72
    go_wp2
    go_ret
    exact ⟨by first | rfl | (simp; done) | (simp [*]; done), by repeat (first | exact Drawn0.refl _ | apply Drawn0.step)⟩

end Go.Proofs.Ytoohpdamndgdlaa.P
