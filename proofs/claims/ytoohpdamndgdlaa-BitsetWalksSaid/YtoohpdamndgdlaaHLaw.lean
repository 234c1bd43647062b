/- torrentlaw4.BitsetWalks, walked. -/
import Derived.Test.YtoohpdamndgdlaaHOnes
import Derived.Test.YtoohpdamndgdlaaHRound
import Derived.RangeFuncNested
import Derived.Sort.CutIn
import Derived.Sort.QuietTacIn
import Derived.Test.YtoohpdamndgdlaaPx35
import Derived.Test.YtoohpdamndgdlaaPx16
import Derived.Test.YtoohpdamndgdlaaPx7
set_option linter.unusedVariables false
namespace Go.Proofs.Ytoohpdamndgdlaa.P
open Go.RowKit Go.Proofs.YtoohpdamndgdlaaW.PrintWords Go.Proofs.YtoohpdamndgdlaaW.PrintLast Go.Proofs.YtoohpdamndgdlaaW.PrintMore Go.Proofs.Ytoohpdamndgdlaa.B
attribute [local go_sem] Oper.semAt_some

theorem run_store_func' (P : Program) (w : World) (a : Addr) (m : Mode) (f : Fn) (x y : Array Value) : (store a (.func f x y) m).run P w = stored P w a (.func f x y) m := run_store P w a _ m rfl
attribute [local go_sem] run_store_func'
theorem run_equalIn_func (d : Nat) (w : World) (gf : Nat) (lb : Array Value) : (Op.equalIn (d + 1) 36 (.func (.func gf) #[] lb) .nilFunc).run Try.prog w = .ok false w := by
  simp [Op.equalIn, run_underlying Try.underlying36]
theorem run_equal_func (w : World) (gf : Nat) (lb : Array Value) : (Op.equal 36 (.func (.func gf) #[] lb) .nilFunc).run Try.prog w = .ok false w := run_equalIn_func 9999 w gf lb
theorem run_eql_func (w : World) (gf : Nat) (lb : Array Value) : (binOp .eql 36 (.func (.func gf) #[] lb) .nilFunc).run Try.prog w = .ok (.bool false) w := by
  simp only [binOp]
  simp [run_equal_func]
attribute [local go_sem] run_eql_func
/-- wpIn_rangeFunc_ownG where the loop's one variable goes to slot q by way of slot p. -/
theorem wpIn_rangeFunc_set {F : Fence} {n : Nat} {P : Program} (p q : Nat) {g : Operand} {assign body : Code} {Q : Exit → Act → World → Prop} {a : Act} {w : World}
    (hro : F.round = none) (h1 : 1 ≤ n) {gf : Nat} {lb : Array Value} (hg : a.eval g = .func (.func gf) #[] lb) (hFg : F.fn gf) (eg : ∀ args w, (callFunc gf args).run P w = .ok (.enter gf args) w)
    {Kp : World → World → Prop} {S Sp : List Int → Prop} {N : Nat} {w0 : World} (hseq : SeqStopsK F (n - 1) P gf lb (fun x : Int => #[Value.int .i64 x]) Kp S Sp N w0)
    (hKt : ∀ {A B C : World}, Kp A B → Kp B C → Kp A C) (hKb : ∀ (W : World) (l : Nat) (o o' : Obj), w.heap.size ≤ l → W.heap[l]? = some o → o.isCells = false → o.isWalk = false → Kp W (W.putObj l o')) (hb0 : Below w0.heap.size w0 w)
    (I : List Int → World → Prop) (Ix : Code → List Int → World → Prop) (hI : OwnFrom w.heap.size I) (hIx : ∀ c, OwnFrom w.heap.size (Ix c)) (h0 : I [] w)
    (hassign : ∀ (l : Nat) (x : Int) (W : World) (K : Act → World → Prop), K { tmps := (a.tmps.setIfInBounds p (.int .i64 x)).setIfInBounds q (.int .i64 x), defers := [] } W →
      assign.wpIn (F.inRound l) (n - 1 - 1) P (Exit.then K (fun _ _ _ => False)) { tmps := a.tmps.setIfInBounds p (.int .i64 x), defers := [] } W)
    (hbody : ∀ (l : Nat) (pre : List Int) (x : Int) (W : World), I pre W → pre.length < N → body.wpIn (F.inRound l) (n - 1 - 1) P (ownPostG w.heap.size Kp I Ix (pre ++ [x]) W) { tmps := (a.tmps.setIfInBounds p (.int .i64 x)).setIfInBounds q (.int .i64 x), defers := [] } W)
    (hdone : ∀ (D : Nat) (xs : List Int) (W : World), w.heap.size ≤ D → S xs → I xs W → W.heap[D]? = some (.deferred (some [])) → Q .normal { a with defers := { target := .collected D, args := #[] } :: a.defers } W)
    (hstop : ∀ (D : Nat) (c : Code) (pre : List Int) (W : World), w.heap.size ≤ D → Sp pre → Ix c pre W → W.heap[D]? = some (.deferred (some [])) → c.wpIn F n P Q { a with defers := { target := .collected D, args := #[] } :: a.defers } W) :
    (Code.rangeFunc g #[p] assign body).wpIn F n P Q a w :=
  wpIn_rangeFunc_ownG hro h1 hg hFg eg hseq hKt hKb hb0 (fun _ => rfl) I Ix hI hIx h0 (fun x => { tmps := (a.tmps.setIfInBounds p (.int .i64 x)).setIfInBounds q (.int .i64 x), defers := [] }) (fun l x W K hK => by
    have e : (((#[p] : Array Tmp).zip #[Value.int .i64 x]).foldl (fun (t : Array Value) (x : Tmp × Value) => t.setIfInBounds x.1 x.2) a.tmps) = a.tmps.setIfInBounds p (.int .i64 x) := by simp
    have := hassign l x W K hK
    rw [← e] at this
    exact this) hbody hdone hstop
/-- wpIn_rangeFunc_ownH where the loop's one variable goes to slot q by way of slot p. -/
theorem wpIn_rangeFunc_setH {F : Fence} {n : Nat} {P : Program} (p q : Nat) {g : Operand} {assign body : Code} {Q : Exit → Act → World → Prop} {a : Act} {w : World}
    (hro : F.round = none) (h1 : 1 ≤ n) {gf : Nat} {lb : Array Value} (hg : a.eval g = .func (.func gf) #[] lb) (hFg : F.fn gf) (eg : ∀ args w, (callFunc gf args).run P w = .ok (.enter gf args) w)
    {Kp : World → World → Prop} {S Sp : List Int → Prop} {N : Nat} {w0 : World} (hseq : SeqStopsK F (n - 1) P gf lb (fun x : Int => #[Value.int .i64 x]) Kp S Sp N w0)
    (hKt : ∀ {A B C : World}, Kp A B → Kp B C → Kp A C) (hKr : ∀ W, Kp W W) (hKb : ∀ (W : World) (l : Nat) (o o' : Obj), w.heap.size ≤ l → W.heap[l]? = some o → o.isCells = false → o.isWalk = false → Kp W (W.putObj l o')) (hb0 : Below w0.heap.size w0 w)
    (I : List Int → World → Prop) (Ix : Code → List Int → World → Prop) (hI : OwnFrom w.heap.size I) (hIx : ∀ c, OwnFrom w.heap.size (Ix c)) (h0 : I [] w)
    (hassign : ∀ (l : Nat) (x : Int) (W : World) (K : Act → World → Prop), K { tmps := (a.tmps.setIfInBounds p (.int .i64 x)).setIfInBounds q (.int .i64 x), defers := [] } W →
      assign.wpIn (F.inRound l) (n - 1 - 1) P (Exit.then K (fun _ _ _ => False)) { tmps := a.tmps.setIfInBounds p (.int .i64 x), defers := [] } W)
    (hbody : ∀ (l : Nat) (pre : List Int) (x : Int) (W : World), w.heap.size ≤ l → (∃ r, W.heap[l]? = some (.loop r)) → I pre W → pre.length < N → body.wpIn (F.inRound l) (n - 1 - 1) P (ownPostG w.heap.size Kp I Ix (pre ++ [x]) W) { tmps := (a.tmps.setIfInBounds p (.int .i64 x)).setIfInBounds q (.int .i64 x), defers := [] } W)
    (hdone : ∀ (D : Nat) (xs : List Int) (W : World), w.heap.size ≤ D → S xs → I xs W → W.heap[D]? = some (.deferred (some [])) → Q .normal { a with defers := { target := .collected D, args := #[] } :: a.defers } W)
    (hstop : ∀ (D : Nat) (c : Code) (pre : List Int) (W : World), w.heap.size ≤ D → Sp pre → Ix c pre W → W.heap[D]? = some (.deferred (some [])) → c.wpIn F n P Q { a with defers := { target := .collected D, args := #[] } :: a.defers } W) :
    (Code.rangeFunc g #[p] assign body).wpIn F n P Q a w :=
  wpIn_rangeFunc_ownH hro h1 hg hFg eg hseq (fun h k => hKt h k) hKb hb0 (fun _ => rfl) I Ix hI hIx h0 (fun x a' _ => a' = { tmps := (a.tmps.setIfInBounds p (.int .i64 x)).setIfInBounds q (.int .i64 x), defers := [] }) (fun _ _ _ _ _ _ hs _ _ => hs)
    (fun l pre x W K hi hK => by
      have e : (((#[p] : Array Tmp).zip #[Value.int .i64 x]).foldl (fun (t : Array Value) (x : Tmp × Value) => t.setIfInBounds x.1 x.2) a.tmps) = a.tmps.setIfInBounds p (.int .i64 x) := by simp
      have := hassign l x W K (hK _ _ (KeepsFrom.refl _ _) (hKr W) hi rfl)
      rw [← e] at this
      exact this)
    (fun l pre x a' W hl hr hi e hlt => by subst e; exact hbody l pre x W hl hr hi hlt) hdone hstop
/-- .. and wpIn_rangeFunc_ownN (a loop in a round). -/
theorem wpIn_rangeFunc_setN {F : Fence} {n : Nat} {P : Program} (p q : Nat) {g : Operand} {assign body : Code} {Q : Exit → Act → World → Prop} {a : Act} {w : World}
    {l₀ : Nat} {r₀ : Loop} (hro : F.round = some l₀) (hl₀ : w.heap[l₀]? = some (.loop r₀)) (h1 : 1 ≤ n) {gf : Nat} {lb : Array Value} (hg : a.eval g = .func (.func gf) #[] lb) (hFg : F.fn gf) (eg : ∀ args w, (callFunc gf args).run P w = .ok (.enter gf args) w)
    {Kp : World → World → Prop} {S Sp : List Int → Prop} {N : Nat} {w0 : World} (hseq : SeqStopsK F (n - 1) P gf lb (fun x : Int => #[Value.int .i64 x]) Kp S Sp N w0)
    (hKt : ∀ {A B C : World}, Kp A B → Kp B C → Kp A C) (hKr : ∀ W, Kp W W) (hKb : ∀ (W : World) (l : Nat) (o o' : Obj), w.heap.size ≤ l → W.heap[l]? = some o → o.isCells = false → o.isWalk = false → Kp W (W.putObj l o')) (hb0 : Below w0.heap.size w0 w)
    (I : List Int → World → Prop) (Ix : Code → List Int → World → Prop) (hI : OwnFrom w.heap.size I) (hIx : ∀ c, OwnFrom w.heap.size (Ix c)) (h0 : I [] w)
    (hassign : ∀ (l : Nat) (x : Int) (W : World) (K : Act → World → Prop), K { tmps := (a.tmps.setIfInBounds p (.int .i64 x)).setIfInBounds q (.int .i64 x), defers := [] } W →
      assign.wpIn (F.inRound l) (n - 1 - 1) P (Exit.then K (fun _ _ _ => False)) { tmps := a.tmps.setIfInBounds p (.int .i64 x), defers := [] } W)
    (hbody : ∀ (l : Nat) (pre : List Int) (x : Int) (W : World), I pre W → pre.length < N → body.wpIn (F.inRound l) (n - 1 - 1) P (ownPostG w.heap.size Kp I Ix (pre ++ [x]) W) { tmps := (a.tmps.setIfInBounds p (.int .i64 x)).setIfInBounds q (.int .i64 x), defers := [] } W)
    (hdone : ∀ (xs : List Int) (W : World), S xs → I xs W → Q .normal a W)
    (hstop : ∀ (c : Code) (pre : List Int) (W : World), Sp pre → Ix c pre W → c.wpIn F n P Q a W) :
    (Code.rangeFunc g #[p] assign body).wpIn F n P Q a w :=
  wpIn_rangeFunc_ownN hro hl₀ h1 hg hFg eg hseq (fun h k => hKt h k) hKb hb0 (fun _ => rfl) I Ix hI hIx h0 (fun x a' _ => a' = { tmps := (a.tmps.setIfInBounds p (.int .i64 x)).setIfInBounds q (.int .i64 x), defers := [] }) (fun _ _ _ _ _ _ hs _ _ => hs)
    (fun l pre x W K hi hK => by
      have e : (((#[p] : Array Tmp).zip #[Value.int .i64 x]).foldl (fun (t : Array Value) (x : Tmp × Value) => t.setIfInBounds x.1 x.2) a.tmps) = a.tmps.setIfInBounds p (.int .i64 x) := by simp
      have := hassign l x W K (hK _ _ (KeepsFrom.refl _ _) (hKr W) hi rfl)
      rw [← e] at this
      exact this)
    (fun l pre x a' W hl hr hi e hlt => by subst e; exact hbody l pre x W hi hlt) hdone hstop
theorem results_f5 (tmps : Array Value) (w : World) (b : Nat) (hp : tmps.getD 8 undef = .pointer (some ⟨b, 0, none⟩)) (hc : w.cell? ⟨b, 0, none⟩ = some (.bool true)) : (results Try.f5 tmps).run Try.prog w = .ok (.bool true) w := by
  have hp' : tmps[8]?.getD undef = .pointer (some ⟨b, 0, none⟩) := by simpa using hp
  simp [results, hp', asAddr, loadVar, isAgg, run_underlying Try.underlying4, hc]
/-- The three marks are taken, last laid first; the result box says true. -/
theorem leave3 {w W : World} {R D D2 D3 : Nat} {tmps : Array Value} (hp : tmps.getD 8 undef = .pointer (some ⟨R, 0, none⟩)) (hR : Boxed W R 4 (.bool true))
    (hd : W.heap[D]? = some (.deferred (some []))) (hd2 : W.heap[D2]? = some (.deferred (some []))) (hd3 : W.heap[D3]? = some (.deferred (some [])))
    (h12 : D < D2) (h23 : D2 < D3) (hB : Below w.heap.size w W) (h0 : w.heap.size ≤ D) :
    LeavesInM Fence.wide 8 Try.prog Try.f5 tmps (fun e w' => e = .returned (.bool true) ∧ Below w.heap.size w w')
      [{ target := .collected D3, args := #[] }, { target := .collected D2, args := #[] }, { target := .collected D, args := #[] }] .returning W := by
  have n3 : R ≠ D3 := fun e => by subst e; have h := hR.symm.trans hd3; simp at h
  have n2 : R ≠ D2 := fun e => by subst e; have h := hR.symm.trans hd2; simp at h
  have n1 : R ≠ D := fun e => by subst e; have h := hR.symm.trans hd; simp at h
  have r1 : (W.putObj D3 (.deferred none)).heap[R]? = _ := (World.putObj_heap_other n3).trans hR
  have e2 : (W.putObj D3 (.deferred none)).heap[D2]? = _ := (World.putObj_heap_other (by omega)).trans hd2
  have e1 : (W.putObj D3 (.deferred none)).heap[D]? = _ := (World.putObj_heap_other (by omega)).trans hd
  have b1 : Below w.heap.size w (W.putObj D3 (.deferred none)) := hB.trans (belowK_b (w := w) (Nat.le_refl _) W D3 _ _ (by omega) hd3 rfl rfl)
  refine ⟨by simp, .inl ⟨_, _, rfl, run_takeDeferred hd3, ?_⟩⟩
  generalize W.putObj D3 (.deferred none) = X at *
  have r2 : (X.putObj D2 (.deferred none)).heap[R]? = _ := (World.putObj_heap_other n2).trans r1
  have f1 : (X.putObj D2 (.deferred none)).heap[D]? = _ := (World.putObj_heap_other (by omega)).trans e1
  have b2 : Below w.heap.size w (X.putObj D2 (.deferred none)) := b1.trans (belowK_b (w := w) (Nat.le_refl _) X D2 _ _ (by omega) e2 rfl rfl)
  refine ⟨by simp, .inl ⟨_, _, rfl, run_takeDeferred e2, ?_⟩⟩
  generalize X.putObj D2 (.deferred none) = Y at *
  have r3 : (Y.putObj D (.deferred none)).heap[R]? = _ := (World.putObj_heap_other n1).trans r2
  have b3 : Below w.heap.size w (Y.putObj D (.deferred none)) := b2.trans (belowK_b (w := w) (Nat.le_refl _) Y D _ _ (by omega) f1 rfl rfl)
  refine ⟨by simp, .inl ⟨_, _, rfl, run_takeDeferred f1, ?_⟩⟩
  exact ⟨_, results_f5 _ _ R hp (Boxed.cell r3), rfl, b3⟩
/-- A block that is no part of what a loop lays stays. -/
theorem ownFrom_block {β : Type} {B D : Nat} {o : Obj} (h : D < B) : OwnFrom B (fun (_ : β) W => W.heap[D]? = some o) := fun _ X Y row hs hg hr =>
  (hg.block D (Array.getElem?_eq_some_iff.1 hs).1 (fun e => by have := (hr D e.symm).1; omega)).trans hs
theorem prefix_snoc {L pre : List Int} {x : Int} (h : pre <+: L) (hlt : pre.length < L.length) : pre ++ [x] <+: L ↔ x = L.getD pre.length 0 := by
  obtain ⟨t, rfl⟩ := h
  cases t with
  | nil => simp at hlt
  | cons y t =>
    rw [List.prefix_append_right_inj]
    simp [List.getD_eq_getElem?_getD]
theorem len_snoc1 (pre : List Int) (x : Int) : (((pre ++ [x]).length : Nat) : Int) = (pre.length : Int) + 1 := by simp
theorem len_snoc_sub (pre : List Int) (x : Int) : (((pre ++ [x]).length : Nat) : Int) - 1 = (pre.length : Int) := by simp
theorem len_snoc (pre : List Int) (x : Int) : (((pre ++ [x]).length : Nat) : Int) = ((pre.length + 1 : Nat) : Int) := by simp
theorem ints_at {X : World} {B : Nat} {ok : Nat → Prop} {A : Option Addr} {c : Nat} {L : List Int} (h : Kd.R (Kd.int .i64) 3 X B ok (.slice A L.length c) L) : ∀ i, i < L.length → ∃ g, A = some ⟨g, 0, none⟩ ∧ g < X.heap.size ∧ X.cell? ⟨g, i, none⟩ = some (.int .i64 (L.getD i 0)) := fun i hi => by
  obtain ⟨g, cap, e, h1, h2, _⟩ := Kd.R_form h (by omega)
  injection e with ea en ec
  subst ea
  have := (Kd.R_celln 0 h (i : Int) (by omega) (by omega)).1
  rw [Int.toNat_natCast] at this
  exact ⟨g, rfl, h2, this⟩
theorem box_old {X w' : World} {B : Nat} {t : TypeId} {v : Value} (h : Boxed X B t v) (hb : Below X.heap.size X w') : Boxed w' B t v := (hb.block B h.lt).trans h
/-- As Seq, from whatever world has kept the walk's blocks. -/
def Seq2 (gf : Nat) (lb : Array Value) (lo hi : Nat) (L : List Int) (w : World) : Prop :=
  ∀ W, w.heap.size ≤ W.heap.size → Keeps lo hi w W → Seq gf lb lo hi L W
def WalkSays2 (L : List Int) (w : World) (e : Ending) (w' : World) : Prop :=
  ∃ gf lb, e = .returned (.func (.func gf) #[] lb) ∧ (∀ args W, (callFunc gf args).run Try.prog W = .ok (.enter gf args) W) ∧ Below w.heap.size w w' ∧ Seq2 gf lb w.heap.size w'.heap.size L w'
theorem seq2_ok {n : Nat} {l1 : List Int} {w w' : World} {Bn Bo : Nat} {v : Value} (hn : n ≤ 65536) (hlen : n ≤ 8 * l1.length) (h1 : w.heap.size ≤ Bn ∧ Bn < w'.heap.size) (h2 : w.heap.size ≤ Bo ∧ Bo < w'.heap.size) (h3 : w'.cell? ⟨Bn, 0, none⟩ = some (.int .i64 n)) (h4 : w'.cell? ⟨Bo, 0, none⟩ = some v) (hR : Kd.R (Kd.int .u8) 5 w' w.heap.size (fun _ => True) v l1) :
    Seq2 62 #[.pointer (some ⟨Bn, 0, none⟩), .pointer (some ⟨Bo, 0, none⟩)] w.heap.size w'.heap.size (onesTo l1 n) w' := fun W0 hs hK m hm l J Jx W hW hJ hJx hY h0 => by
  have cell : ∀ b o, w.heap.size ≤ b → b < w'.heap.size → W.cell? ⟨b, o, none⟩ = w'.cell? ⟨b, o, none⟩ := fun b o hl hb => (hW.cell (p := ⟨b, o, none⟩) (show b < W0.heap.size by omega)).trans (hK.cell hl hb)
  have hJ' : ∀ s A B, J s A → A.grownBy B none → J s B := fun s A B hs hg => hJ s A B none hs hg (fun r e => by cases e)
  have hsz : w'.heap.size ≤ W.heap.size := Nat.le_trans hs hW.size
  rcases Nat.eq_zero_or_pos l1.length with hz | hz
  · exact walk2_in m hm l Bn Bo w.heap.size w'.heap.size 0 0 n l1 hn hlen J Jx hJ' hY W hsz h2 (fun h => by omega) (by rw [cell _ _ h1.1 h1.2]; exact h3) (fun h => by omega) (fun h => by omega) h0
  · obtain ⟨g, cap, rfl, hg1, hg2, _⟩ := Kd.R_form hR hz
    refine walk2_in m hm l Bn Bo w.heap.size w'.heap.size g cap n l1 hn hlen J Jx hJ' hY W hsz h2 (fun _ => ⟨hg1, hg2⟩) (by rw [cell _ _ h1.1 h1.2]; exact h3) (fun _ => by rw [cell _ _ h2.1 h2.2]; exact h4) (fun _ j hj => ?_) h0
    have := (Kd.R_celln 0 hR (j : Int) (by omega) (by omega)).1
    rw [Int.toNat_natCast] at this
    rw [cell _ _ hg1 hg2, this]
    rfl
theorem walk_says2 (k : Nat) (a0 : Int) (A1 : Option Addr) (c1 : Nat) (l1 : List Int) (w : World) (r : Int) (hr1 : Kd.C (Kd.int .u8) w A1 l1.length l1) (hc1 : l1.length ≤ c1) (h : bitset_Check.f k a0 l1 = some r) :
    Calls Try.prog 25 #[.int .i64 a0, .slice A1 l1.length c1] w (WalkSays2 (walked r a0 l1) w) := by
  by_cases hr : r = 0
  · subst hr
    obtain ⟨n, rfl, hn, hl⟩ := check_zero h
    refine (walk_ok k n A1 c1 l1 w hr1 hc1 h (by omega)).mono ?_
    rintro e w' ⟨Bn, Bo, v, rfl, h1, h2, h3, h4, hR, hB⟩
    refine ⟨62, _, rfl, enters_of Try.func62 (by kernel_rfl) rfl, hB, ?_⟩
    unfold walked
    rw [if_pos rfl, Int.toNat_natCast]
    exact seq2_ok hn (by omega) h1 h2 h3 h4 hR
  · refine (walk_no k a0 A1 c1 l1 w r hr1 hc1 h (beq_eq_false_iff_ne.mpr hr)).mono ?_
    rintro e w' ⟨rfl, hB⟩
    refine ⟨61, #[], rfl, enters_of Try.func61 (by kernel_rfl) rfl, hB, ?_⟩
    unfold walked
    rw [if_neg hr]
    exact fun W _ _ => seq_no _ _ W

set_option maxRecDepth 100000 in
set_option maxHeartbeats 4000000 in
theorem walks_in (k : Nat) (a0 stop : Int) (A1 : Option Addr) (c1 : Nat) (l1 : List Int) (A2 : Option Addr) (c2 : Nat) (l2 : List Int) (w : World) (hr1 : Kd.C (Kd.int .u8) w A1 l1.length l1) (hc1 : l1.length ≤ c1) (hr2 : Kd.C (Kd.int .u8) w A2 l2.length l2) (hc2 : l2.length ≤ c2)
    (L1 L2 : List Int) (e1 e2 r1 r2 : Int) (h1 : torrentref4_Ones.f k a0 l1 = some (L1, e1)) (h2 : torrentref4_Ones.f k a0 l2 = some (L2, e2)) (h3 : torrentlaw4_copied.f k l1 = some l1) (h4 : torrentlaw4_copied.f k l2 = some l2)
    (h5 : bitset_Check.f k a0 l1 = some r1) (h6 : bitset_Check.f k a0 l2 = some r2) (h7 : walked r1 a0 l1 = L1) (h8 : walked r2 a0 l2 = L2) (h9 : torrentlaw4_sameBytes.f k l1 l1 = some true) (hM : l1.length ≤ 140737488351232) (hL1 : L1.length ≤ 65536) (hL2 : L2.length ≤ 65536) :
    CallsIn Fence.wide 8 Try.prog 5 #[.int .i64 a0, .slice A1 l1.length c1, .slice A2 l2.length c2, .int .i64 stop] w fun e w' => e = .returned (.bool true) ∧ Below w.heap.size w w' := by
  have HR1 := Aside0.mk hr1
  have HC1 := Aside0.mk hc1
  have HR2 := Aside0.mk hr2
  have HC2 := Aside0.mk hc2
  have H1 := Aside0.mk h1
  have H2 := Aside0.mk h2
  have H3 := Aside0.mk h3
  have H4 := Aside0.mk h4
  have H5 := Aside0.mk h5
  have H6 := Aside0.mk h6
  have H7 := Aside0.mk h7
  have H8 := Aside0.mk h8
  have H9 := Aside0.mk h9
  have HL1 := Aside0.mk hL1
  have HM := Aside0.mk hM
  have HL2 := Aside0.mk hL2
  clear hr1 hc1 hr2 hc2 h1 h2 h3 h4 h5 h6 h7 h8 h9 hL1 hL2 hM
  have HB0 := Aside0.mk (((Below.refl w.heap.size w).alloc (Nat.le_refl _) (.cells #[.int .i64 stop] 3)).alloc (by simp) (.cells #[.bool false] 4))
  refine callsIn_of_wp_marks Try.func5 rfl trivial ?_ rfl
  simp only [Try.ntmps5, List.size_toArray, List.length_cons, List.length_nil, Nat.reduceAdd, Nat.reduceSub, Array.replicate_succ, Array.replicate_zero, List.push_toArray, List.append_toArray, List.nil_append, List.cons_append]
  have hmo : Try.prog.follows .mixedOrders = true := by kernel_rfl
  gi_upto_region 2 with (refine ⟨trivial, ?_⟩; gi_at_call 23; refine (callsIn_wide.2 (torrentref4_Ones.calls k a0 A1 c1 l1 L1 e1 _ (Kd.C_below HR1.out HB0.out) HC1.out H1.out)).mono ?_; clear H1; rintro e w1 ⟨v1, rfl, ho1, hB1⟩; obtain ⟨Ao1, co1, rfl⟩ := Kd.R_slice ho1; have HO1 := Aside0.mk ho1; have HB1 := Aside0.mk hB1; clear ho1 hB1)
  have bS := box_old (((Boxed.new w 3 (.int .i64 stop)).alloc (.cells #[.bool false] 4))) HB1.out
  have bR := box_old (Boxed.new (w.alloc (.cells #[.int .i64 stop] 3)) 4 (.bool false)) HB1.out
  have bO := Boxed.new w1 28 (.slice Ao1 L1.length co1)
  have bS := Boxed.alloc bS (.cells #[.slice Ao1 L1.length co1] 28)
  have bR := Boxed.alloc bR (.cells #[.slice Ao1 L1.length co1] 28)
  have hr1 := Kd.R_alloc HO1.out (.cells #[.slice Ao1 L1.length co1] 28)
  have hx := below_step HB0.out HB1.out
  have hx := hx.alloc hx.size (.cells #[.slice Ao1 L1.length co1] 28)
  have hsz1 := HB1.out.size
  simp only [World.size_alloc] at bR hr1 hsz1
  obtain ⟨O, hO⟩ : ∃ O, w1.heap.size = O := ⟨_, rfl⟩
  obtain ⟨X1, hX1⟩ : ∃ X1, w1.alloc (.cells #[.slice Ao1 L1.length co1] 28) = X1 := ⟨_, rfl⟩
  rw [hX1] at bS bR bO hr1 hx ⊢
  rw [hO] at bO hsz1 ⊢
  have HX := Aside0.mk hx
  clear hX1 hx HB1 HO1 hO
  gi_upto_region 3 with (refine ⟨trivial, ?_⟩; gi_at_call 23; refine (callsIn_wide.2 (torrentref4_Ones.calls k a0 A2 c2 l2 L2 e2 _ (Kd.C_below HR2.out HX.out) HC2.out H2.out)).mono ?_; clear H2; rintro e w2 ⟨v2, rfl, ho2, hB2⟩; obtain ⟨Ao2, co2, rfl⟩ := Kd.R_slice ho2; have HO2 := Aside0.mk ho2; have HB2 := Aside0.mk hB2; clear ho2 hB2)
  have bS := Boxed.alloc (box_old bS HB2.out) (.cells #[.slice Ao2 L2.length co2] 28)
  have bR := Boxed.alloc (box_old bR HB2.out) (.cells #[.slice Ao2 L2.length co2] 28)
  have bO := Boxed.alloc (box_old bO HB2.out) (.cells #[.slice Ao2 L2.length co2] 28)
  have hr1 := Kd.R_alloc (Kd.R_below hr1 HB2.out) (.cells #[.slice Ao2 L2.length co2] 28)
  have bT := Boxed.new w2 28 (.slice Ao2 L2.length co2)
  have hr2 := Kd.R_alloc HO2.out (.cells #[.slice Ao2 L2.length co2] 28)
  have hx := below_step HX.out HB2.out
  have hx := hx.alloc hx.size (.cells #[.slice Ao2 L2.length co2] 28)
  have hsz2 := HB2.out.size
  have hlt2 := bO.lt
  simp only [World.size_alloc] at hlt2
  obtain ⟨T, hT⟩ : ∃ T, w2.heap.size = T := ⟨_, rfl⟩
  obtain ⟨X2, hX2⟩ : ∃ X2, w2.alloc (.cells #[.slice Ao2 L2.length co2] 28) = X2 := ⟨_, rfl⟩
  rw [hX2] at bS bR bO bT hr1 hr2 hx ⊢
  rw [hT] at bT hsz2 ⊢
  clear HX
  have HX := Aside0.mk hx
  have HI1 := Aside0.mk (ints_at hr1)
  have HI2 := Aside0.mk (ints_at hr2)
  have HL2B := Aside0.mk (And.intro bS.lt (And.intro bR.lt (And.intro bO.lt bT.lt)))
  clear hX2 hx HB2 HO2 hT
  gi_upto_region 4 with (refine ⟨trivial, ?_⟩; gi_at_call 24; refine (callsIn_wide.2 (torrentlaw4_copied.calls k A1 c1 l1 l1 _ (Kd.C_below HR1.out HX.out) HC1.out H3.out)).mono ?_; clear H3; rintro e w3 ⟨v3, rfl, ho3, hB3⟩; obtain ⟨Ao3, co3, rfl⟩ := Kd.R_slice ho3; have HO3 := Aside0.mk ho3; have HB3 := Aside0.mk hB3; clear ho3 hB3)
  have bS := box_old bS HB3.out
  have bR := box_old bR HB3.out
  have bO := box_old bO HB3.out
  have bT := box_old bT HB3.out
  have hr1 := Kd.R_below hr1 HB3.out
  have hr2 := Kd.R_below hr2 HB3.out
  have hsz3 := HB3.out.size
  have hx := below_step HX.out HB3.out
  clear HX
  have HX := Aside0.mk hx
  gi_upto_region 5 with (refine ⟨trivial, ?_⟩; gi_at_call 25; refine (callsIn_wide.2 (walk_says2 k a0 Ao3 co3 l1 _ r1 (Kd.R_reads' HO3.out).2.2 (Kd.R_reads' HO3.out).2.1 H5.out)).mono ?_; clear H5; rintro e w4 ⟨gf1, lb1, rfl, heg1, hB4, hseq1⟩; have HEG1 := Aside0.mk heg1; have HB4 := Aside0.mk hB4; have HSQ1 := Aside0.mk hseq1; clear heg1 hB4 hseq1)
  have HL := HL1.out
  rw [← H7.out] at HL
  have hw4 := HB4.out.size
  have hkeep4 := HB4.out
  have bS := Boxed.alloc (box_old bS HB4.out) (.cells #[.func (.func gf1) #[] lb1] 36)
  have bR := Boxed.alloc (box_old bR HB4.out) (.cells #[.func (.func gf1) #[] lb1] 36)
  have bO := Boxed.alloc (box_old bO HB4.out) (.cells #[.func (.func gf1) #[] lb1] 36)
  have bT := Boxed.alloc (box_old bT HB4.out) (.cells #[.func (.func gf1) #[] lb1] 36)
  have bW := Boxed.new w4 36 (.func (.func gf1) #[] lb1)
  have hr1 := Kd.R_alloc (Kd.R_below hr1 HB4.out) (.cells #[.func (.func gf1) #[] lb1] 36)
  have hr2 := Kd.R_alloc (Kd.R_below hr2 HB4.out) (.cells #[.func (.func gf1) #[] lb1] 36)
  have hr3 := Kd.R_alloc (Kd.R_below HO3.out HB4.out) (.cells #[.func (.func gf1) #[] lb1] 36)
  have hx := below_step HX.out HB4.out
  have hx := hx.alloc hx.size (.cells #[.func (.func gf1) #[] lb1] 36)
  have hkp : Below w4.heap.size w4 (w4.alloc (.cells #[.func (.func gf1) #[] lb1] 36)) := (Below.refl _ _).alloc (Nat.le_refl _) _
  clear HX
  have HX := Aside0.mk hx
  have hszT := bT.lt
  have hszO := bO.lt
  obtain ⟨Wk, hWk⟩ : ∃ Wk, w4.heap.size = Wk := ⟨_, rfl⟩
  obtain ⟨X4, hX4⟩ : ∃ X4, w4.alloc (.cells #[.func (.func gf1) #[] lb1] 36) = X4 := ⟨_, rfl⟩
  rw [hX4] at bS bR bO bT bW hr1 hr2 hr3 hkp HX ⊢
  rw [hWk] at bW ⊢
  gi_upto_region 6 with (first | (refine ⟨trivial, ?_⟩; gi_at_call 24; refine (callsIn_wide.2 (torrentlaw4_copied.calls k A2 c2 l2 l2 _ (Kd.C_below HR2.out HX.out) HC2.out H4.out)).mono ?_; clear H4; rintro e w5 ⟨v5, rfl, ho5, hB5⟩; obtain ⟨Ao5, co5, rfl⟩ := Kd.R_slice ho5; have HO5 := Aside0.mk ho5; have HB5 := Aside0.mk hB5; clear ho5 hB5) | (refine ⟨trivial, ?_⟩; gi_at_call 25; refine (callsIn_wide.2 (walk_says2 k a0 Ao5 co5 l2 _ r2 (Kd.R_reads' HO5.out).2.2 (Kd.R_reads' HO5.out).2.1 H6.out)).mono ?_; clear H6; rintro e w6 ⟨gf2, lb2, rfl, heg2, hB6, hseq2⟩; have HEG2 := Aside0.mk heg2; have HB6 := Aside0.mk hB6; have HSQ2 := Aside0.mk hseq2; clear heg2 hB6 hseq2))
  have h46 : Below X4.heap.size X4 w6 := below_step HB5.out HB6.out
  have bS := box_old bS h46
  have bR := box_old bR h46
  have bO := box_old bO h46
  have bT := box_old bT h46
  have bW := box_old bW h46
  have hr1 := Kd.R_below hr1 h46
  have hr2 := Kd.R_below hr2 h46
  have hr3 := Kd.R_below hr3 h46
  have hx := below_step HX.out h46
  have HX6 := Aside0.mk hx
  have HR3 := Aside0.mk hr3
  have cW := bW.cell
  gi_upto_region 8 with (refine ⟨trivial, ?_⟩; gi_at_call 17; refine (callsIn_wide.2 (torrentlaw4_sameBytes.calls k Ao3 co3 l1 A1 c1 l1 true _ (Kd.R_reads' HR3.out).2.2 (Kd.R_reads' HR3.out).2.1 (Kd.C_below HR1.out HX6.out) HC1.out H9.out)).mono ?_; clear H9; rintro e w7 ⟨rfl, ⟨nd, rfl⟩⟩)
  have hszX : X2.heap.size ≤ w6.heap.size := by have := HB3.out.size; have := HX.out; have := h46.size; have := hkp.size; omega
  have BS := Aside0.mk bS
  have BR := Aside0.mk bR
  have BO := Aside0.mk bO
  have BT := Aside0.mk bT
  have BW := Aside0.mk bW
  have HRA := Aside0.mk hr1
  have HRB := Aside0.mk hr2
  have H46 := Aside0.mk h46
  have HKP := Aside0.mk hkp
  have HX9 := Aside0.mk hx
  have HX4 := Aside0.mk hX4
  have HWK := Aside0.mk hWk
  have HN := Aside0.mk (And.intro hsz1 (And.intro hlt2 (And.intro hsz2 (And.intro hsz3 (And.intro hw4 (And.intro hszT (And.intro hszO hszX)))))))
  clear bS bR bO bT bW hr1 hr2 hr3 h46 hkp hx hX4 hWk hsz1 hlt2 hsz2 hsz3 hw4 hszT hszO hszX HL cW
  gi_wp2
  gi_loopw [16] (fun i wr => ∃ (j : Nat) (ys : List Int), i = .int .i64 j ∧ j ≤ l1.length ∧ ys.length = l1.length ∧ Kd.R (Kd.int .u8) 5 wr X2.heap.size (fun _ => True) (.slice Ao3 l1.length co3) ys ∧ Aside0 (Below X2.heap.size w6 wr) ∧ Aside0 (∀ b, w3.heap.size ≤ b → wr.heap[b]? = w6.heap[b]?) ∧ Aside0 (wr.heap.size = w6.heap.size))
    (fun i _ => l1.length - (intOf i).toNat)
  case atStart => exact ⟨0, l1, rfl, Nat.zero_le _, rfl, HR3.out, ⟨pw_below_drewN (Below.refl _ _) nd⟩, ⟨fun _ _ => rfl⟩, ⟨rfl⟩⟩
  case round =>
    obtain ⟨j, ys, rfl, hj, hys, hrow, HBEL, HREST, HSIZE⟩ := hrel
    have HROW := Aside0.mk hrow
    have HYS := Aside0.mk hys
    clear hrow hys
    by_cases hlt : j < l1.length
    · gi_upto_region 11 with fail
      obtain ⟨g3, cap3, e3, hg3, hg3b, _⟩ := Kd.R_form HO3.out (by omega)
      have HJ := Aside0.mk (show ∃ d, j + (d + 1) = l1.length from ⟨l1.length - j - 1, by omega⟩)
      injection e3 with ea en ec
      subst ea
      subst ec
      obtain ⟨hx3, hf3⟩ := Kd.R_celln 0 HROW.out (j : Int) (by omega) (by omega)
      rw [Int.toNat_natCast] at hx3 hf3
      have hj0 : (0 : Int) ≤ (j : Int) := by omega
      have hj1 : (j : Int) < (l1.length : Int) := by omega
      have GB := Aside0.mk (And.intro hg3 hg3b)
      clear hg3 hg3b
      gi_wp2
      go_roundw
      case rel => exact ⟨j + 1, ys.set j (wrap64 (255 - wrap64 (3 * (j : Int))) % 256), by rw [inc j (by obtain ⟨d, hd⟩ := HJ.out; have := HM.out; omega)], by obtain ⟨d, hd⟩ := HJ.out; omega, by rw [List.length_set]; exact HYS.out, by have := Kd.R_putn HROW.out (j : Int) (wrap64 (255 - wrap64 (3 * (j : Int))) % 256); rw [Int.toNat_natCast] at this; exact this, ⟨HBEL.out.setCell (p := ⟨g3, j, none⟩) GB.out.1 _⟩, ⟨fun b hb => (Below.heap_setCell _ _ _ _ (by show b ≠ g3; have := GB.out; omega)).trans (HREST.out b hb)⟩, ⟨by simpa using HSIZE.out⟩⟩
      case measure => obtain ⟨d, hd⟩ := HJ.out; have := HM.out; rw [inc j (by omega)]; simp [intOf]; omega
    · obtain rfl : j = l1.length := by omega
      have hn := HN.out
      obtain ⟨hsz1, hlt2, hsz2, hsz3, hw4, hszT, hszO, hszX⟩ := hn
      have hx46 : w4.heap.size ≤ w6.heap.size := Nat.le_trans HKP.out.size H46.out.size
      have hX26 : Below X2.heap.size X2 w6 := by
        have h3 := HB3.out
        have h4 : Below w3.heap.size w3 w4 := HB4.out
        have h5 : Below w4.heap.size w4 X4 := HKP.out
        exact below_step (below_step (below_step h3 h4) h5) H46.out
      have hb2 : Below X2.heap.size X2 wr := hX26.trans HBEL.out
      have hkeep1 : Keeps w3.heap.size w4.heap.size w4 wr := fun b h1 h2 => by
        rw [HREST.out b h1, H46.out.block b (by have := HKP.out.size; omega)]
        exact HKP.out.block b h2
      have hW : Boxed wr Wk 36 (.func (.func gf1) #[] lb1) := (HREST.out Wk (by rw [← HWK.out]; exact hw4)).trans BW.out
      have cW := hW.cell
      have HBB := Aside0.mk hb2
      have HKE1 := Aside0.mk hkeep1
      have HWW := Aside0.mk hW
      have HNN := Aside0.mk (And.intro hszX (And.intro hx46 hw4))
      clear hsz1 hlt2 hsz2 hsz3 hw4 hszT hszO hszX hx46 hX26 hb2 hkeep1 hW
      gi_upto_region 13 with fail
      have hBZ : Below wr.heap.size wr (wr.alloc (.cells #[.int .i64 0] 3)) := (Below.refl _ _).alloc (Nat.le_refl _) _
      have bK := Boxed.new wr 3 (.int .i64 0)
      have bWZ := Boxed.alloc HWW.out (.cells #[.int .i64 0] 3)
      have hle2 : X2.heap.size ≤ wr.heap.size := by have := HSIZE.out; have := HNN.out; omega
      have hle4 : w4.heap.size ≤ wr.heap.size := by have := HSIZE.out; have := HNN.out; omega
      have hbz2 := HBB.out.alloc hle2 (.cells #[.int .i64 0] 3)
      have hke := HKE1.out.trans (Keeps.of_below hBZ hle4)
      have h35 : w3.heap.size ≤ w5.heap.size := Nat.le_trans HB4.out.size (Nat.le_trans HKP.out.size HB5.out.size)
      have h6 : w6.heap.size ≤ wr.heap.size := Nat.le_of_eq HSIZE.out.symm
      have hke2 : Keeps w5.heap.size w6.heap.size w6 (wr.alloc (.cells #[.int .i64 0] 3)) := fun b h1 h2 => (hBZ.block b (Nat.lt_of_lt_of_le h2 h6)).trans (HREST.out b (Nat.le_trans h35 h1))
      have cW := bWZ.cell
      have hlb := HL2B.out
      have bSz := Boxed.alloc ((HBEL.out.block _ hlb.1).trans BS.out) (.cells #[.int .i64 0] 3)
      have bRz := Boxed.alloc ((HBEL.out.block _ hlb.2.1).trans BR.out) (.cells #[.int .i64 0] 3)
      have bOz := Boxed.alloc ((HBEL.out.block _ hlb.2.2.1).trans BO.out) (.cells #[.int .i64 0] 3)
      have bTz := Boxed.alloc ((HBEL.out.block _ hlb.2.2.2).trans BT.out) (.cells #[.int .i64 0] 3)
      have hwb : Below w.heap.size w (wr.alloc (.cells #[.int .i64 0] 3)) := (HX9.out.trans (HBEL.out.mono (by have := hlb.1; omega))).alloc (by have := HX9.out.size; have := HBEL.out.size; omega) _
      have hZs : (wr.alloc (.cells #[.int .i64 0] 3)).heap.size = wr.heap.size + 1 := by simp
      have hWkK : Wk < wr.heap.size := by rw [HSIZE.out]; exact Boxed.lt BW.out
      obtain ⟨K, hK⟩ : ∃ K, wr.heap.size = K := ⟨_, rfl⟩
      obtain ⟨Z, hZ⟩ : ∃ Z, wr.alloc (.cells #[.int .i64 0] 3) = Z := ⟨_, rfl⟩
      rw [hZ] at hBZ bK bWZ hbz2 hke hke2 cW hZs bSz bRz bOz bTz hwb ⊢
      rw [hK] at bK hZs hle2 hle4 hWkK h6 ⊢
      have Hke2 := Aside0.mk (And.intro hke2 h6)
      clear hke2 h6 h35
      have HWk := Aside0.mk hWkK
      clear hWkK
      have HbK := Aside0.mk bK
      have HbWZ := Aside0.mk bWZ
      have Hbz2 := Aside0.mk hbz2
      have Hke := Aside0.mk hke
      have HZs := Aside0.mk (And.intro hZs (And.intro hle2 hle4))
      have HbS := Aside0.mk (bSz)
      have HbR := Aside0.mk (bRz)
      have HbO := Aside0.mk (bOz)
      have HbT := Aside0.mk (bTz)
      have HWB := Aside0.mk hwb
      clear bSz bRz bOz bTz hwb
      clear hBZ bK bWZ hbz2 hke hZ hK hZs hle2 hle4 HBB HKE1 HWW HBEL HREST HSIZE HROW HYS
      gi_wp2
      rename_i Kc hac
      generalize hact : Act.mk _ _ = act0
      have hsq := HSQ1.out Z (by have := HZs.out; omega) Hke.out
      rw [H7.out] at hsq
      have hzs := HZs.out
      have mid : ∀ (D : Nat) (W : World) (m : Int), Z.heap.size ≤ D → Boxed W K 3 (.int .i64 m) → Below K Z W → W.heap[D]? = some (.deferred (some [])) → Kc { act0 with defers := { target := .collected D, args := #[] } :: act0.defers } W := by
        intro D W m hD hk hB hDf
        apply hac
        have cK := Boxed.cell hk
        have fK := Boxed.frozen hk
        have M1 := Aside0.mk hD
        have M2 := Aside0.mk (Boxed.set (.int .i64 0) hk)
        have M3 := Aside0.mk (hB.setCell (p := ⟨K, 0, none⟩) (Nat.le_refl _) (.int .i64 0))
        have M4 := Aside0.mk ((KeepsOthers.setCell W ⟨K, 0, none⟩ (.int .i64 0)).same D _ hDf rfl)
        clear hD hk hB hDf hac
        subst hact
        gi_upto_region 20 with fail
        generalize W.setCell ⟨K, 0, none⟩ (.int .i64 0) = W2 at M2 M3 M4 ⊢
        have cW2 : W2.cell? ⟨Wk, 0, none⟩ = some (.func (.func gf1) #[] lb1) := (M3.out.cell (p := ⟨Wk, 0, none⟩) HWk.out).trans (Boxed.cell HbWZ.out)
        gi_wp2
        clear cW2
        rename_i K2 hac2
        generalize hact : Act.mk _ _ = act2
        have hz2 : Z.heap.size ≤ W2.heap.size := M3.out.size
        have hsq2 := HSQ1.out W2 (by omega) (Hke.out.trans (Keeps.of_below M3.out hzs.2.2))
        rw [H7.out] at hsq2
        have hD2 : D < W2.heap.size := (Array.getElem?_eq_some_iff.1 M4.out).1
        have hob : OwnFrom W2.heap.size (fun (_ : List Int) W => Below K Z W) := ownFrom_below (by omega) (by omega)
        refine wpIn_rangeFunc_setH 90 19 rfl (by decide) (gf := gf1) (lb := lb1) (by rw [← hact]; rfl) trivial HEG1.out (hsq2 (8 - 1) (by decide)) (fun h k => h.trans k) (fun W => Keeps.refl _ _ W) (fun W l o o' hl _ _ _ => Keeps.putObj _ _ W l o' (by omega)) (Below.refl _ _)
          (fun pre W => ((pre <+: L1 ∧ Boxed W K 3 (.int .i64 (pre.length : Int))) ∧ Below K Z W) ∧ W.heap[D]? = some (.deferred (some [])))
          (fun c pre W => c = .ret ∧ ¬ pre <+: L1)
          (OwnFrom.and (OwnFrom.and (OwnFrom.and (ownFrom_pure _ _) (Own.from (boxed_own K 3 (fun pre : List Int => Value.int .i64 (pre.length : Int))) _)) hob) (ownFrom_block hD2))
          (fun c => ownFrom_pure _ _)
          ⟨⟨⟨List.nil_prefix, M2.out⟩, M3.out⟩, M4.out⟩ ?assign2 ?body2 ?done2 ?stop2
        case assign2 =>
          intro l x W Kk hK
          subst hact
          simp only [List.setIfInBounds_toArray, List.set_cons_zero, List.set_cons_succ] at hK ⊢
          clear hac2
          gi_wp2
          exact hK
        case body2 =>
          rintro l pre x W hl ⟨r, hr⟩ ⟨⟨⟨hpre, hk⟩, hB⟩, hDW⟩ hlt
          subst hact
          simp only [List.setIfInBounds_toArray, List.set_cons_zero, List.set_cons_succ]
          have hlb := HL2B.out
          have bS := (hB.block _ (show w.heap.size < K by omega)).trans HbS.out
          have bR := (hB.block _ (show w.heap.size + 1 < K by omega)).trans HbR.out
          have bO := (hB.block _ (show O < K by omega)).trans HbO.out
          have bWk := (hB.block _ (show Wk < K from HWk.out)).trans HbWZ.out
          have hsn := prefix_snoc (x := x) hpre hlt
          obtain ⟨g, eg, hg, hcg⟩ := HI1.out pre.length hlt
          have hcw := (hB.cell (p := ⟨g, pre.length, none⟩) (show g < K by omega)).trans ((Hbz2.out.cell (p := ⟨g, pre.length, none⟩) hg).trans hcg)
          have HG0 := Aside0.mk (show g < K by omega)
          subst eg
          generalize L1.getD pre.length 0 = v at hsn hcw
          have hinc := inc pre.length (by have := HL1.out; omega)
          have h0 : (0 : Int) ≤ (pre.length : Int) := Int.natCast_nonneg _
          have h1 : (pre.length : Int) < (L1.length : Int) := Int.ofNat_lt.mpr hlt
          have h2 : ¬ (L1.length : Int) ≤ (pre.length : Int) := Int.not_le.mpr h1
          have cK : W.cell? ⟨K, 0, none⟩ = some (.int .i64 (pre.length : Int)) := Boxed.cell hk
          have fK : W.frozen? ⟨K, 0, none⟩ = false := Boxed.frozen hk
          have cR : W.cell? ⟨w.heap.size + 1, 0, none⟩ = some (.bool false) := Boxed.cell bR
          have fR : W.frozen? ⟨w.heap.size + 1, 0, none⟩ = false := Boxed.frozen bR
          have cO : W.cell? ⟨O, 0, none⟩ = some (.slice (some ⟨g, 0, none⟩) L1.length co1) := Boxed.cell bO
          have cW : W.cell? ⟨Wk, 0, none⟩ = some (.func (.func gf1) #[] lb1) := Boxed.cell bWk
          have A1_ := Aside0.mk hpre
          have A2_ := Aside0.mk hk
          have A3_ := Aside0.mk hB
          have A4_ := Aside0.mk hsn
          have A5_ := Aside0.mk (And.intro hzs hinc)
          have A6_ := Aside0.mk hDW
          have A7_ := Aside0.mk (And.intro hl hr)
          have A8_ := Aside0.mk (And.intro bS (And.intro bO bWk))
          have A9_ := Aside0.mk (And.intro hz2 hD2)
          clear hpre hk hB hsn hzs hinc hac2 hlt hlb bS bR bO bWk hob hsq hsq2 hcg hg hDW hl hr hz2 hD2
          by_cases hx : x = v
          · subst hx
            by_cases h3 : (pre.length : Int) < 3
            · gi_upto_region 26 with fail
              have hWs : W2.heap.size ≤ W.heap.size := Nat.le_trans A7_.out.1 (Nat.le_of_lt (Array.getElem?_eq_some_iff.1 A7_.out.2).1)
              have bM := Boxed.new W 3 (.int .i64 0)
              have hbV : Below W.heap.size W (W.alloc (.cells #[.int .i64 0] 3)) := (Below.refl _ _).alloc (Nat.le_refl _) _
              have hkV : KeepsFrom W2.heap.size W (W.alloc (.cells #[.int .i64 0] 3)) := (KeepsOthers.alloc _ _).from _
              have hVs : (W.alloc (.cells #[.int .i64 0] 3)).heap.size = W.heap.size + 1 := by simp
              obtain ⟨M, hM⟩ : ∃ M, W.heap.size = M := ⟨_, rfl⟩
              obtain ⟨V, hV⟩ : ∃ V, W.alloc (.cells #[.int .i64 0] 3) = V := ⟨_, rfl⟩
              rw [hV] at bM hbV hkV hVs ⊢
              rw [hM] at bM hbV hVs hWs ⊢
              clear hV
              have cWv : V.cell? ⟨Wk, 0, none⟩ = some (.func (.func gf1) #[] lb1) := (hbV.cell (p := ⟨Wk, 0, none⟩) (by rw [← hM]; exact Boxed.lt A8_.out.2.2)).trans cW
              have N1 := Aside0.mk bM
              have N2 := Aside0.mk hbV
              have N3 := Aside0.mk hkV
              have N4 := Aside0.mk (And.intro hVs (And.intro hM hWs))
              clear bM hbV hkV hVs hM hWs
              clear cW
              gi_wp2
              clear cWv
              rename_i K3 hac3
              generalize hact3 : Act.mk _ _ = act3
              have hzs := A5_.out.1
              have hz2 := A9_.out.1
              have hN4 := N4.out
              have hkeW : Keeps w3.heap.size w4.heap.size Z V := fun b h1 h2 => (N2.out.block b (by omega)).trans (A3_.out.block b (by omega))
              have hsq3 := HSQ1.out V (by omega) (Hke.out.trans hkeW)
              rw [H7.out] at hsq3
              have hlr : V.heap[l]? = some (.loop r) := (N2.out.block l (by rw [← hN4.2.1]; exact (Array.getElem?_eq_some_iff.1 A7_.out.2).1)).trans A7_.out.2
              have hobM : OwnFrom V.heap.size (fun (_ : List Int) W' => Below M W W') := ownFrom_below (by omega) (by omega)
              have hobK : OwnFrom V.heap.size (fun (_ : List Int) W' => KeepsFrom W2.heap.size W W') := ownFrom_keepsFrom (by omega)
              have mid3 : ∀ (W' : World), Below M W W' → KeepsFrom W2.heap.size W W' → K3 act3 W' := by
                intro W' hB' hK'
                have hKM : K < M := by rw [← hN4.2.1]; exact Boxed.lt A2_.out
                have bK' : Boxed W' K 3 (.int .i64 (pre.length : Int)) := (hB'.block K hKM).trans A2_.out
                have hDM : W'.heap[D]? = some (.deferred (some [])) := (hB'.block D (by have := A9_.out.2; omega)).trans A6_.out
                have cK' : W'.cell? ⟨K, 0, none⟩ = some (.int .i64 (pre.length : Int)) := Boxed.cell bK'
                have fK' : W'.frozen? ⟨K, 0, none⟩ = false := Boxed.frozen bK'
                have hBK := A3_.out.trans (hB'.mono (Nat.le_of_lt hKM))
                have hkk : Keeps w3.heap.size w4.heap.size W W' := fun b h1 h2 => hB'.block b (by omega)
                have P1 := Aside0.mk (And.intro hK' (And.intro bK' (And.intro hDM (And.intro hBK hkk))))
                clear hB' hK' bK' hDM hBK hkk hKM hobM hobK hlr hsq3 hkeW hN4 hz2 hzs
                apply hac3
                clear hac3
                subst hact3
                gi_wp2
                exact ⟨P1.out.1.trans ((KeepsOthers.setCell _ _ _).from _), P1.out.2.2.2.2.trans (fun b h1 h2 => Below.heap_setCell _ _ _ _ (show b ≠ K from Nat.ne_of_lt (Nat.lt_of_lt_of_le h2 A5_.out.1.2.2))), ⟨⟨⟨A4_.out.2 (by first | trivial | rfl), by first | (rw [len_snoc1]; exact Boxed.set _ P1.out.2.1) | (rw [len_snoc, ← A5_.out.2]; exact Boxed.set _ P1.out.2.1)⟩, P1.out.2.2.2.1.setCell (p := ⟨K, 0, none⟩) (Nat.le_refl _) _⟩, (KeepsOthers.setCell W' ⟨K, 0, none⟩ _).same D _ P1.out.2.2.1 rfl⟩⟩
              refine wpIn_rangeFunc_setN 106 21 (l₀ := l) (r₀ := r) rfl hlr (by decide) (gf := gf1) (lb := lb1) (by rw [← hact3]; rfl) trivial HEG1.out ((hsq3 (6 - 1) (by decide)).inRound l) (fun h k => h.trans k) (fun W => Keeps.refl _ _ W) (fun W l o o' hl _ _ _ => Keeps.putObj _ _ W l o' (by omega)) (Below.refl _ _)
                (fun pre' W' => (pre' <+: L1 ∧ Boxed W' M 3 (.int .i64 (pre'.length : Int))) ∧ (Below M W W' ∧ KeepsFrom W2.heap.size W W'))
                (fun c pre' W' => (c = .exit 6 ∧ (Below M W W' ∧ KeepsFrom W2.heap.size W W')) ∨ (c = .ret ∧ ¬ pre' <+: L1))
                (OwnFrom.and (OwnFrom.and (ownFrom_pure _ _) (Own.from (boxed_own M 3 (fun pre : List Int => Value.int .i64 (pre.length : Int))) _)) (OwnFrom.and hobM hobK))
                (fun c s A B row h hg hr => h.imp (fun h => ⟨h.1, (OwnFrom.and hobM hobK) s A B row h.2 hg hr⟩) id)
                ⟨⟨List.nil_prefix, N1.out⟩, N2.out, N3.out⟩ ?assign3 ?body3 ?done3 ?stop3
              case assign3 =>
                intro l x W Kk hK
                subst hact3
                simp only [List.setIfInBounds_toArray, List.set_cons_zero, List.set_cons_succ] at hK ⊢
                clear hac3 mid3
                gi_wp2
                exact hK
              case body3 =>
                rintro l3 pre' y W' ⟨⟨hpre', hk'⟩, hB', hK'⟩ hlt'
                subst hact3
                simp only [List.setIfInBounds_toArray, List.set_cons_zero, List.set_cons_succ]
                have hlb := HL2B.out
                have hKM : K < M := by rw [← hN4.2.1]; exact Boxed.lt A2_.out
                have bS' := (hB'.block _ (show w.heap.size < M by omega)).trans A8_.out.1
                have bO' := (hB'.block _ (show O < M by omega)).trans A8_.out.2.1
                have bK' : Boxed W' K 3 (.int .i64 (pre.length : Int)) := (hB'.block K hKM).trans A2_.out
                have bR' := (hB'.block _ (show w.heap.size + 1 < M by omega)).trans ((A3_.out.block _ (show w.heap.size + 1 < K by omega)).trans HbR.out)
                have hsn := prefix_snoc (x := y) hpre' hlt'
                obtain ⟨g', eg', hg', hcg'⟩ := HI1.out pre'.length hlt'
                have hgg : g = g' := by simpa using eg'
                subst hgg
                have hcw' := (hB'.cell (p := ⟨g, pre'.length, none⟩) (show g < M by omega)).trans ((A3_.out.cell (p := ⟨g, pre'.length, none⟩) (show g < K by omega)).trans ((Hbz2.out.cell (p := ⟨g, pre'.length, none⟩) hg').trans hcg'))
                generalize L1.getD pre'.length 0 = v' at hsn hcw'
                have hinc' := inc pre'.length (by have := HL1.out; omega)
                have h0' : (0 : Int) ≤ (pre'.length : Int) := Int.natCast_nonneg _
                have h1' : (pre'.length : Int) < (L1.length : Int) := Int.ofNat_lt.mpr hlt'
                have h2' : ¬ (L1.length : Int) ≤ (pre'.length : Int) := Int.not_le.mpr h1'
                have cS' : W'.cell? ⟨w.heap.size, 0, none⟩ = some (.int .i64 stop) := Boxed.cell bS'
                have cM' : W'.cell? ⟨M, 0, none⟩ = some (.int .i64 (pre'.length : Int)) := Boxed.cell hk'
                have fM' : W'.frozen? ⟨M, 0, none⟩ = false := Boxed.frozen hk'
                have cR' : W'.cell? ⟨w.heap.size + 1, 0, none⟩ = some (.bool false) := Boxed.cell bR'
                have fR' : W'.frozen? ⟨w.heap.size + 1, 0, none⟩ = false := Boxed.frozen bR'
                have cO' : W'.cell? ⟨O, 0, none⟩ = some (.slice (some ⟨g, 0, none⟩) L1.length co1) := Boxed.cell bO'
                have cK' : W'.cell? ⟨K, 0, none⟩ = some (.int .i64 (pre.length : Int)) := Boxed.cell bK'
                have Q1 := Aside0.mk hk'
                have Q2 := Aside0.mk (And.intro hB' (And.intro hK' hsn))
                have Q3 := Aside0.mk (And.intro hKM (And.intro hinc' (And.intro bK' (And.intro bS' (show w.heap.size < M by omega)))))
                clear hk' hB' hK' hsn hKM hinc' hpre' hlt' hlb bS' bO' bK' bR' hcg' hg' eg' mid3 hac3 hobM hobK hlr hsq3 hkeW hN4 hz2 hzs
                clear cK fK cR fR cO h0 h1 h2 hcw
                by_cases hy : y = v'
                · subst hy
                  gi_upto_region 31 with fail
                  have bMU := Boxed.set (.int .i64 (wrap64 ((pre'.length : Int) + 1))) Q1.out
                  have bKU := Boxed.other Q3.out.2.2.1 (Nat.ne_of_lt Q3.out.1) (.int .i64 (wrap64 ((pre'.length : Int) + 1)))
                  have bSU := Boxed.other Q3.out.2.2.2.1 (Nat.ne_of_lt Q3.out.2.2.2.2) (.int .i64 (wrap64 ((pre'.length : Int) + 1)))
                  have hu1 := Q2.out.1.setCell (p := ⟨M, 0, none⟩) (Nat.le_refl _) (.int .i64 (wrap64 ((pre'.length : Int) + 1)))
                  have hu2 := Q2.out.2.1.trans ((KeepsOthers.setCell W' ⟨M, 0, none⟩ (.int .i64 (wrap64 ((pre'.length : Int) + 1)))).from _)
                  have hu3 : KeepsFrom V.heap.size W' (W'.setCell ⟨M, 0, none⟩ (.int .i64 (wrap64 ((pre'.length : Int) + 1)))) := (KeepsOthers.setCell _ _ _).from _
                  have hu4 : Keeps w3.heap.size w4.heap.size W' (W'.setCell ⟨M, 0, none⟩ (.int .i64 (wrap64 ((pre'.length : Int) + 1)))) := fun b h1 h2 => Below.heap_setCell _ _ _ _ (show b ≠ M from Nat.ne_of_lt (Nat.lt_of_lt_of_le h2 (Nat.le_trans A5_.out.1.2.2 (Nat.le_of_lt Q3.out.1))))
                  generalize W'.setCell ⟨M, 0, none⟩ (.int .i64 (wrap64 ((pre'.length : Int) + 1))) = U at bMU bKU bSU hu1 hu2 hu3 hu4 ⊢
                  clear cM' fM' cR' fR' cO' cK' cS' h0' h1' h2' hcw'
                  have cM2 : U.cell? ⟨M, 0, none⟩ = some (.int .i64 (wrap64 ((pre'.length : Int) + 1))) := Boxed.cell bMU
                  have cK2 : U.cell? ⟨K, 0, none⟩ = some (.int .i64 (pre.length : Int)) := Boxed.cell bKU
                  have cS2 : U.cell? ⟨w.heap.size, 0, none⟩ = some (.int .i64 stop) := Boxed.cell bSU
                  have U1 := Aside0.mk (And.intro hu1 (And.intro hu2 (And.intro hu3 (And.intro hu4 bMU))))
                  clear hu1 hu2 hu3 hu4 bMU bKU bSU
                  gi_wp2
                  all_goals first
                    | exact ⟨U1.out.2.2.1, .inl ⟨rfl, U1.out.1, U1.out.2.1⟩⟩
                    | exact ⟨U1.out.2.2.1, U1.out.2.2.2.1, ⟨⟨Q2.out.2.2.2 (by first | trivial | rfl), by rw [len_snoc, ← Q3.out.2.1]; exact U1.out.2.2.2.2⟩, U1.out.1, U1.out.2.1⟩⟩
                · gi_wp2
                  exact ⟨(KeepsOthers.setCell _ _ _).from _, .inr ⟨rfl, fun h => hy (Q2.out.2.2.1 h)⟩⟩
              case done3 =>
                rintro xs W' _ ⟨_, hB', hK'⟩
                exact mid3 W' hB' hK'
              case stop3 =>
                rintro c pre' W' hsp (⟨rfl, hB', hK'⟩ | ⟨rfl, hno⟩)
                · have hm := mid3 W' hB' hK'
                  clear mid3 hac3
                  gi_wp2
                  exact hm
                · exact absurd hsp hno
            · gi_wp2
              exact ⟨(KeepsOthers.setCell _ _ _).from _, fun b h1 h2 => Below.heap_setCell _ _ _ _ (show b ≠ K from Nat.ne_of_lt (Nat.lt_of_lt_of_le h2 A5_.out.1.2.2)), ⟨⟨⟨A4_.out.2 (by first | trivial | rfl), by rw [len_snoc, ← A5_.out.2]; exact Boxed.set _ A2_.out⟩, A3_.out.setCell (p := ⟨K, 0, none⟩) (Nat.le_refl _) _⟩, (KeepsOthers.setCell W ⟨K, 0, none⟩ _).same D _ A6_.out rfl⟩⟩
          · gi_wp2
            exact ⟨(KeepsOthers.setCell _ _ _).from _, rfl, fun h => hx (A4_.out.1 h)⟩
        case done2 =>
          rintro D2 xs W hD2' hxs ⟨⟨⟨_, hk⟩, hB⟩, hDW⟩ hDf2
          have hxs' : xs = L1 := hxs
          rw [hxs'] at hk
          have hDlt : D < W.heap.size := (Array.getElem?_eq_some_iff.1 hDW).1
          have hD2lt : D2 < W.heap.size := (Array.getElem?_eq_some_iff.1 hDf2).1
          have hKW : K < W.heap.size := Boxed.lt hk
          have hk3 := Boxed.alloc hk (.cells #[.int .i64 0] 3)
          have hm3 := Boxed.new W 3 (.int .i64 0)
          have hB3 := hB.alloc (show K ≤ W.heap.size from Nat.le_of_lt hKW) (.cells #[.int .i64 0] 3)
          have hDa := (Below.heap_alloc W (.cells #[.int .i64 0] 3) D hDlt).trans hDW
          have hDb := (Below.heap_alloc W (.cells #[.int .i64 0] 3) D2 hD2lt).trans hDf2
          have hVs : (W.alloc (.cells #[.int .i64 0] 3)).heap.size = W.heap.size + 1 := by simp
          apply hac2
          clear hac2 hob hsq hsq2
          subst hact
          have R0 := Aside0.mk (And.intro hk (And.intro hB (And.intro hDW (And.intro hDf2 hD2'))))
          have R1 := Aside0.mk (And.intro hk3 (And.intro hm3 (And.intro hB3 (And.intro hDa (And.intro hDb hVs)))))
          have R2 := Aside0.mk (And.intro hDlt (And.intro hD2lt hKW))
          clear hk hB hDW hDf2 hD2' hk3 hm3 hB3 hDa hDb hVs hDlt hD2lt hKW
          gi_wp2
          generalize hW3 : W.alloc (.cells #[.int .i64 0] 3) = W3 at R1 ⊢
          rename_i K4 hac4
          obtain ⟨M, hM⟩ : ∃ M, W.heap.size = M := ⟨_, rfl⟩
          rw [hM]
          generalize hact : Act.mk _ _ = act4
          have hr := R1.out
          have hr2 := R2.out
          rw [hM] at hr hr2
          have hz6 := Hke2.out.2
          have hsq4 := HSQ2.out W3 (by omega) (Hke2.out.1.trans (Keeps.of_below hr.2.2.1 hz6))
          rw [H8.out] at hsq4
          have hM1 := hr.2.1
          have hz6K := hz6
          have hob4 : OwnFrom W3.heap.size (fun (_ : List Int) W => Below K Z W) := ownFrom_below (by omega) (by omega)
          have R3 := Aside0.mk (And.intro hr2 (And.intro hz6 hr.2.2.2.2.2))
          refine wpIn_rangeFunc_set 129 23 rfl (by decide) (gf := gf2) (lb := lb2) (by rw [← hact]; rfl) trivial HEG2.out (hsq4 (8 - 1) (by decide)) (fun h k => h.trans k) (fun W l o o' hl _ _ _ => Keeps.putObj _ _ W l o' (by omega)) (Below.refl _ _)
            (fun pre W => ((pre <+: L2 ∧ Boxed W M 3 (.int .i64 (pre.length : Int))) ∧ (Below K Z W ∧ Boxed W K 3 (.int .i64 (L1.length : Int)))) ∧ (W.heap[D]? = some (.deferred (some [])) ∧ W.heap[D2]? = some (.deferred (some []))))
            (fun c pre W => c = .ret ∧ ¬ pre <+: L2)
            (OwnFrom.and (OwnFrom.and (OwnFrom.and (ownFrom_pure _ _) (Own.from (boxed_own M 3 (fun pre : List Int => Value.int .i64 (pre.length : Int))) _)) (OwnFrom.and hob4 (Own.from (boxed_own K 3 (fun _ : List Int => Value.int .i64 (L1.length : Int))) _))) (OwnFrom.and (ownFrom_block (by omega)) (ownFrom_block (by omega))))
            (fun c => ownFrom_pure _ _)
            ⟨⟨⟨List.nil_prefix, hr.2.1⟩, hr.2.2.1, hr.1⟩, hr.2.2.2.1, hr.2.2.2.2.1⟩ ?assign4 ?body4 ?done4 ?stop4
          case assign4 =>
            intro l x W Kk hK
            subst hact
            simp only [List.setIfInBounds_toArray, List.set_cons_zero, List.set_cons_succ] at hK ⊢
            clear hac4
            gi_wp2
            exact hK
          case body4 =>
            rintro l pre x W' ⟨⟨⟨hpre, hm⟩, hB, hk⟩, hDa, hDb⟩ hlt
            subst hact
            simp only [List.setIfInBounds_toArray, List.set_cons_zero, List.set_cons_succ]
            have hlb := HL2B.out
            have bR := (hB.block _ (show w.heap.size + 1 < K by omega)).trans HbR.out
            have bT := (hB.block _ (show T < K by omega)).trans HbT.out
            have hsn := prefix_snoc (x := x) hpre hlt
            obtain ⟨g, eg, hg, hcg⟩ := HI2.out pre.length hlt
            have hcw := (hB.cell (p := ⟨g, pre.length, none⟩) (show g < K by omega)).trans ((Hbz2.out.cell (p := ⟨g, pre.length, none⟩) hg).trans hcg)
            subst eg
            generalize L2.getD pre.length 0 = v at hsn hcw
            have hinc := inc pre.length (by have := HL2.out; omega)
            have h0 : (0 : Int) ≤ (pre.length : Int) := Int.natCast_nonneg _
            have h1 : (pre.length : Int) < (L2.length : Int) := Int.ofNat_lt.mpr hlt
            have h2 : ¬ (L2.length : Int) ≤ (pre.length : Int) := Int.not_le.mpr h1
            have cM : W'.cell? ⟨M, 0, none⟩ = some (.int .i64 (pre.length : Int)) := Boxed.cell hm
            have fM : W'.frozen? ⟨M, 0, none⟩ = false := Boxed.frozen hm
            have cR : W'.cell? ⟨w.heap.size + 1, 0, none⟩ = some (.bool false) := Boxed.cell bR
            have fR : W'.frozen? ⟨w.heap.size + 1, 0, none⟩ = false := Boxed.frozen bR
            have cT : W'.cell? ⟨T, 0, none⟩ = some (.slice (some ⟨g, 0, none⟩) L2.length co2) := Boxed.cell bT
            have A1_ := Aside0.mk hpre
            have A2_ := Aside0.mk hm
            have A3_ := Aside0.mk (And.intro hB hk)
            have A4_ := Aside0.mk hsn
            have A5_ := Aside0.mk hinc
            have A6_ := Aside0.mk (And.intro hDa hDb)
            clear hpre hm hB hk hsn hinc hac4 hlt hlb bR bT hob4 hsq4 hcg hg hDa hDb hM1 hz6 hz6K hr hr2 hW3 hM hzs
            by_cases hx : x = v
            · subst hx
              gi_wp2
              exact ⟨(KeepsOthers.setCell _ _ _).from _, fun b h1 h2 => Below.heap_setCell _ _ _ _ (show b ≠ M from Nat.ne_of_lt (Nat.lt_of_lt_of_le h2 (Nat.le_of_lt (Nat.lt_of_le_of_lt R3.out.2.1 R3.out.1.2.2)))), ⟨⟨⟨A4_.out.2 (by first | trivial | rfl), by rw [len_snoc, ← A5_.out]; exact Boxed.set _ A2_.out⟩, A3_.out.1.setCell (p := ⟨M, 0, none⟩) (Nat.le_of_lt R3.out.1.2.2) _, Boxed.other A3_.out.2 (Nat.ne_of_lt R3.out.1.2.2) _⟩, (KeepsOthers.setCell W' ⟨M, 0, none⟩ _).same D _ A6_.out.1 rfl, (KeepsOthers.setCell W' ⟨M, 0, none⟩ _).same D2 _ A6_.out.2 rfl⟩⟩
            · gi_wp2
              exact ⟨(KeepsOthers.setCell _ _ _).from _, rfl, fun h => hx (A4_.out.1 h)⟩
          case done4 =>
            rintro D3 xs W' hD3 hxs ⟨⟨⟨_, hm⟩, hB, hk⟩, hDa, hDb⟩ hDc
            have hxs' : xs = L2 := hxs
            rw [hxs'] at hm
            apply hac4
            clear hac4 hob4 hsq4
            subst hact
            have cM : W'.cell? ⟨M, 0, none⟩ = some (.int .i64 (L2.length : Int)) := Boxed.cell hm
            have cK : W'.cell? ⟨K, 0, none⟩ = some (.int .i64 (L1.length : Int)) := Boxed.cell hk
            have cR : W'.cell? ⟨w.heap.size + 1, 0, none⟩ = some (.bool false) := Boxed.cell ((hB.block _ (show w.heap.size + 1 < K by have := HL2B.out; omega)).trans HbR.out)
            have fR : W'.frozen? ⟨w.heap.size + 1, 0, none⟩ = false := Boxed.frozen ((hB.block _ (show w.heap.size + 1 < K by have := HL2B.out; omega)).trans HbR.out)
            have cO : W'.cell? ⟨O, 0, none⟩ = some (.slice Ao1 L1.length co1) := Boxed.cell ((hB.block _ (show O < K by have := HL2B.out; omega)).trans HbO.out)
            have cT : W'.cell? ⟨T, 0, none⟩ = some (.slice Ao2 L2.length co2) := Boxed.cell ((hB.block _ (show T < K by have := HL2B.out; omega)).trans HbT.out)
            have C1 := Aside0.mk (And.intro hB (And.intro hDa (And.intro hDb (And.intro hDc hD3))))
            have C2 := Aside0.mk (And.intro hr2 (And.intro hz6 hr.2.2.2.2.2))
            clear hm hB hk hDa hDb hDc hD3 hr hr2 hz6 hz6K hM1 hW3 hM hzs
            gi_wp2
            have hlb := HL2B.out
            have hhb := HWB.out.size
            have hzs := HZs.out
            have bR := (C1.out.1.block _ (show w.heap.size + 1 < K by omega)).trans HbR.out
            have hR0 := R0.out.2.2.2.2
            have hM1 := M1.out
            have hc1 := C1.out.2.2.2.2
            have hc2 := C2.out
            have hx : Below w.heap.size w W' := HWB.out.trans (C1.out.1.mono (show w.heap.size ≤ K by omega))
            exact leave3 (R := w.heap.size + 1) (by rfl) (Boxed.set _ bR) ((KeepsOthers.setCell W' _ _).same D _ C1.out.2.1 rfl) ((KeepsOthers.setCell W' _ _).same D2 _ C1.out.2.2.1 rfl) ((KeepsOthers.setCell W' _ _).same D3 _ C1.out.2.2.2.1 rfl) (by omega) (by omega) (hx.setCell (p := ⟨w.heap.size + 1, 0, none⟩) (Nat.le_succ _) _) (by omega)
          case stop4 =>
            rintro D3 c pre W' _ hsp ⟨rfl, hno⟩ _
            exact absurd hsp hno
        case stop2 =>
          rintro D2 c pre W _ hsp ⟨rfl, hno⟩ _
          exact absurd hsp hno
      have hob : OwnFrom Z.heap.size (fun (_ : List Int) W => Below K Z W) := ownFrom_below (by omega) (by omega)
      refine wpIn_rangeFunc_set 71 18 rfl (by decide) (gf := gf1) (lb := lb1) (by rw [← hact]; rfl) trivial HEG1.out (hsq (8 - 1) (by decide)) (fun h k => h.trans k) (fun W l o o' hl _ _ _ => Keeps.putObj _ _ W l o' (by omega)) (Below.refl _ _)
        (fun pre W => (pre <+: L1 ∧ Boxed W K 3 (.int .i64 (pre.length : Int))) ∧ Below K Z W)
        (fun c pre W => (c = .exit 2 ∧ (Boxed W K 3 (.int .i64 ((pre.length : Int) - 1)) ∧ Below K Z W)) ∨ (c = .ret ∧ ¬ pre <+: L1))
        (OwnFrom.and (OwnFrom.and (ownFrom_pure _ _) (Own.from (boxed_own K 3 (fun pre : List Int => Value.int .i64 (pre.length : Int))) _)) hob)
        (fun c s A B row h hg hr => h.imp (fun h => ⟨h.1, (Own.from (boxed_own K 3 (fun pre : List Int => Value.int .i64 ((pre.length : Int) - 1))) _) s A B row h.2.1 hg hr, hob s A B row h.2.2 hg hr⟩) id)
        ⟨⟨List.nil_prefix, HbK.out⟩, Below.refl _ _⟩ ?assign ?body ?done ?stop
      case assign =>
        intro l x W Kk hK
        subst hact
        simp only [List.setIfInBounds_toArray, List.set_cons_zero, List.set_cons_succ] at hK ⊢
        clear mid hac
        gi_wp2
        exact hK
      case body =>
        rintro l pre x W ⟨⟨hpre, hk⟩, hB⟩ hlt
        subst hact
        simp only [List.setIfInBounds_toArray, List.set_cons_zero, List.set_cons_succ]
        have hlb := HL2B.out
        have bS := (hB.block _ (show w.heap.size < K by omega)).trans HbS.out
        have bR := (hB.block _ (show w.heap.size + 1 < K by omega)).trans HbR.out
        have bO := (hB.block _ (show O < K by omega)).trans HbO.out
        have hsn := prefix_snoc (x := x) hpre hlt
        obtain ⟨g, eg, hg, hcg⟩ := HI1.out pre.length hlt
        have hcw := (hB.cell (p := ⟨g, pre.length, none⟩) (show g < K by omega)).trans ((Hbz2.out.cell (p := ⟨g, pre.length, none⟩) hg).trans hcg)
        subst eg
        generalize L1.getD pre.length 0 = v at hsn hcw
        have hinc := inc pre.length (by have := HL1.out; omega)
        have hlen : (pre ++ [x]).length = pre.length + 1 := by simp
        have h0 : (0 : Int) ≤ (pre.length : Int) := Int.natCast_nonneg _
        have h1 : (pre.length : Int) < (L1.length : Int) := Int.ofNat_lt.mpr hlt
        have h2 : ¬ (L1.length : Int) ≤ (pre.length : Int) := Int.not_le.mpr h1
        have cS : W.cell? ⟨w.heap.size, 0, none⟩ = some (.int .i64 stop) := Boxed.cell bS
        have cK : W.cell? ⟨K, 0, none⟩ = some (.int .i64 (pre.length : Int)) := Boxed.cell hk
        have fK : W.frozen? ⟨K, 0, none⟩ = false := Boxed.frozen hk
        have cR : W.cell? ⟨w.heap.size + 1, 0, none⟩ = some (.bool false) := Boxed.cell bR
        have fR : W.frozen? ⟨w.heap.size + 1, 0, none⟩ = false := Boxed.frozen bR
        have cO : W.cell? ⟨O, 0, none⟩ = some (.slice (some ⟨g, 0, none⟩) L1.length co1) := Boxed.cell bO
        have A1_ := Aside0.mk hpre
        have A2_ := Aside0.mk hk
        have A3_ := Aside0.mk hB
        have A4_ := Aside0.mk hsn
        have A5_ := Aside0.mk (And.intro hzs hinc)
        have A6_ := Aside0.mk hlen
        clear hpre hk hB hsn hzs hinc hlen mid hac hlt hlb bS bR bO hob hsq hcg hg
        by_cases hst : (pre.length : Int) = stop
        · have hst1 : ((pre.length : Int) == stop) = true := by simpa using hst
          gi_wp2
          exact ⟨KeepsFrom.refl _ _, .inl ⟨rfl, by rw [len_snoc_sub]; exact A2_.out, A3_.out⟩⟩
        · have hst1 : ((pre.length : Int) == stop) = false := by simpa using hst
          by_cases hx : x = v
          · subst hx
            gi_wp2
            exact ⟨(KeepsOthers.setCell _ _ _).from _, fun b h1 h2 => Below.heap_setCell _ _ _ _ (show b ≠ K from Nat.ne_of_lt (Nat.lt_of_lt_of_le h2 A5_.out.1.2.2)), ⟨A4_.out.2 (by first | trivial | rfl), by rw [len_snoc, ← A5_.out.2]; exact Boxed.set _ A2_.out⟩, A3_.out.setCell (p := ⟨K, 0, none⟩) (Nat.le_refl _) _⟩
          · gi_wp2
            exact ⟨(KeepsOthers.setCell _ _ _).from _, .inr ⟨rfl, fun h => hx (A4_.out.1 h)⟩⟩
      case done =>
        rintro D xs W hD _ ⟨⟨_, hk⟩, hB⟩ hDf
        exact mid D W _ hD hk hB hDf
      case stop =>
        rintro D c pre W hD hsp (⟨rfl, hk, hB⟩ | ⟨rfl, hno⟩) hDf
        · have hm := mid D W _ hD hk hB hDf
          clear mid hac
          gi_wp2
          exact hm
        · exact absurd hsp hno
end Go.Proofs.Ytoohpdamndgdlaa.P
