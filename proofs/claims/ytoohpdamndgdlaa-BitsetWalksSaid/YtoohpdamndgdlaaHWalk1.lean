/- The call of bitset.Walk: what it hands back, where Check is content and where it is not. Condition: at most 8192 bytes. -/
import Derived.Test.YtoohpdamndgdlaaHWalk
import Derived.WalkSpells
import Derived.Test.YtoohpdamndgdlaaPx17
import Derived.Test.YtoohpdamndgdlaaQCheck
set_option linter.unusedVariables false
namespace Go.Proofs.Ytoohpdamndgdlaa.P
open Go.RowKit Go.Proofs.YtoohpdamndgdlaaW.PrintWords Go.Proofs.YtoohpdamndgdlaaW.PrintLast Go.Proofs.YtoohpdamndgdlaaW.PrintMore Go.Proofs.Ytoohpdamndgdlaa.B

/-- What Walk hands back, where Check is content. -/
def WalkGives (n : Int) (l1 : List Int) (w : World) (e : Ending) (w' : World) : Prop :=
  ∃ Bn Bo v, e = .returned (.func (.func 62) #[] #[.pointer (some ⟨Bn, 0, none⟩), .pointer (some ⟨Bo, 0, none⟩)]) ∧ (w.heap.size ≤ Bn ∧ Bn < w'.heap.size) ∧ (w.heap.size ≤ Bo ∧ Bo < w'.heap.size) ∧ w'.cell? ⟨Bn, 0, none⟩ = some (.int .i64 n) ∧ w'.cell? ⟨Bo, 0, none⟩ = some v ∧ Kd.R (Kd.int .u8) 5 w' w.heap.size (fun _ => True) v l1 ∧ Below w.heap.size w w'

set_option maxRecDepth 100000 in
set_option maxHeartbeats 4000000 in
theorem walk_ok (k : Nat) (a0 : Int) (A1 : Option Addr) (c1 : Nat) (l1 : List Int) (w : World) (hr1 : Kd.C (Kd.int .u8) w A1 l1.length l1) (hc1 : l1.length ≤ c1) (h : bitset_Check.f k a0 l1 = some 0) (hl : l1.length ≤ 8192) :
    Calls Try.prog 25 #[.int .i64 a0, .slice A1 l1.length c1] w (WalkGives a0 l1 w) := by
  have HR1 := Aside0.mk hr1
  have HC1 := Aside0.mk hc1
  have HK := Aside0.mk h
  have HL := Aside0.mk hl
  clear hr1 hc1 h hl
  have HB := Aside0.mk ((Below.refl w.heap.size w).alloc (Nat.le_refl _) (.cells #[.int .i64 a0] 3))
  go_enter Try.func25, Try.ntmps25
  go_wp2_with (first | ((with_reducible refine gate_callee (f := 48) rfl ?_); refine goesL_ (some 8) rfl rfl Try.func48 (by kernel_rfl) rfl #[.int .i64 a0, .slice A1 l1.length c1] rfl (by (try simp only [List.map_toArray, List.map_cons, List.map_nil]); first | done | rfl) ?_; (with_reducible refine (bitset_Check.calls k a0 _ _ l1 0 _ ?side1 ?side2 HK.out).mono ?_); (case side1 => repeat (first | exact HR1.out | (with_reducible refine Kd.C_alloc ?_ _) | (with_reducible refine Kd.C_drewN ?_ _) | (with_reducible refine Kd.C_drew ?_))); (case side2 => exact HC1.out); rintro e w' ⟨rfl, ⟨nd, rfl⟩⟩; refine ⟨_, rfl, ?_⟩) | ((with_reducible refine gate_builtin (b := .append) (xs := #[.const (.slice none 0 0), .tmp 10]) rfl ?_); at_builtin; go_must (refine Kd.R_append_rows (Kd.int .u8) (w0 := w) w.heap.size rfl (.const (.slice none 0 0)) (.tmp 10) 22 5 (.int .u8 0) 1 rfl Try.underlying22 info5 rfl (by decide) (by omega) (.slice none 0 0) ([] : List Int) l1 _ _ _ (fun _ => True) (fun _ => False) rfl rfl ?aO ?aR (fun _ _ h => h) (fun _ h => h.elim) ?aF ?aB ?aS ?aL ?_; (case aR => exact (Kd.C_drewN (Kd.C_alloc HR1.out _) _)); (case aB => exact (by repeat (first | (with_reducible first | exact HB.out | apply below_alloc | apply pw_below_drewN | apply below_drew1) | exact HB.out))); (case aF => exact (fun _ _ => trivial)); (case aO => exact ((Kd.R_nil _ _ _ _ (fun _ => True)))); (case aS => exact (below_size (by repeat (first | (with_reducible first | exact HB.out | apply below_alloc | apply pw_below_drewN | apply below_drew1) | exact HB.out)))); (case aL => have := HL.out; show (0 + l1.length) * 1 ≤ _; omega); intro v1 w1 ho hb hg hat; obtain ⟨Av, cv, ev⟩ := Kd.R_slice ho; subst ev; have HO := Aside0.mk ho; have HB2 := Aside0.mk hb; have HG := Aside0.mk hg; clear HB; clear ho hb hg hat)))
  refine bodyPost_ret (v := .func (.func 62) #[] #[.pointer (some ⟨w.heap.size, 0, none⟩), .pointer (some ⟨w1.heap.size, 0, none⟩)]) (by simp [results, Try.results25, go_sem]) rfl ?_
  have hbs := HB2.out.size
  have hlt : w.heap.size < w1.heap.size := by
    have := HG.out.size
    simp at this
    omega
  have hb0 : Boxed ((w.alloc (.cells #[.int .i64 a0] 3)).drewN nd) w.heap.size 3 (.int .i64 a0) := Boxed.new w 3 (.int .i64 a0)
  have hbn : Boxed w1 w.heap.size 3 (.int .i64 a0) := hb0.kept HG.out (by simp [Value.ownBlock])
  refine ⟨_, _, _, rfl, ⟨Nat.le_refl _, by simp; omega⟩, ⟨hbs, by simp⟩, (hbn.alloc _).cell, (Boxed.new w1 22 _).cell, Kd.R_alloc HO.out _, HB2.out.alloc hbs _⟩

set_option maxRecDepth 100000 in
set_option maxHeartbeats 4000000 in
theorem walk_no (k : Nat) (a0 : Int) (A1 : Option Addr) (c1 : Nat) (l1 : List Int) (w : World) (r : Int) (hr1 : Kd.C (Kd.int .u8) w A1 l1.length l1) (hc1 : l1.length ≤ c1) (h : bitset_Check.f k a0 l1 = some r) (hr : (r == 0) = false) :
    Calls Try.prog 25 #[.int .i64 a0, .slice A1 l1.length c1] w fun e w' => e = .returned (.func (.func 61) #[] #[]) ∧ Below w.heap.size w w' := by
  have HR1 := Aside0.mk hr1
  have HC1 := Aside0.mk hc1
  have HK := Aside0.mk h
  have hr2 : (r != 0) = true := by simpa using hr
  clear hr1 hc1 h
  have HB := Aside0.mk ((Below.refl w.heap.size w).alloc (Nat.le_refl _) (.cells #[.int .i64 a0] 3))
  go_enter Try.func25, Try.ntmps25
  go_wp2_with ((with_reducible refine gate_callee (f := 48) rfl ?_); refine goesL_ (some 8) rfl rfl Try.func48 (by kernel_rfl) rfl #[.int .i64 a0, .slice A1 l1.length c1] rfl (by (try simp only [List.map_toArray, List.map_cons, List.map_nil]); first | done | rfl) ?_; (with_reducible refine (bitset_Check.calls k a0 _ _ l1 r _ ?side1 ?side2 HK.out).mono ?_); (case side1 => repeat (first | exact HR1.out | (with_reducible refine Kd.C_alloc ?_ _) | (with_reducible refine Kd.C_drewN ?_ _) | (with_reducible refine Kd.C_drew ?_))); (case side2 => exact HC1.out); rintro e w' ⟨rfl, ⟨nd, rfl⟩⟩; refine ⟨_, rfl, ?_⟩)
  go_ret
  exact ⟨rfl, pw_below_drewN HB.out _⟩

/-- Walk's function where there is nothing. -/
theorem walk1_in (m : Nat) (l : Nat) (W : World) : CallsIn Fence.wide m Try.prog 61 #[.func (.yield l) #[] #[]] W fun e W' => (∃ v, e = .returned v) ∧ W = W' := by
  refine callsIn_wide.2 ?_
  go_enter Try.func61, Try.ntmps61
  go_wp2
  go_end0
  exact ⟨⟨_, rfl⟩, rfl⟩

/-- What a loop over a walk asks. -/
def Seq (gf : Nat) (lb : Array Value) (lo hi : Nat) (L : List Int) (w : World) : Prop :=
  ∀ m, 1 ≤ m → SeqStopsK Fence.wide m Try.prog gf lb (fun x : Int => #[Value.int .i64 x]) (Keeps lo hi) (fun ys => ys = L) (fun pre => pre <+: L) L.length w
theorem seq_no (lo hi : Nat) (w : World) : Seq 61 #[] lo hi [] w := fun m _ l J Jx W _ _ _ _ h0 =>
  (walk1_in m l W).mono fun e W' h => ⟨h.1, .inl ⟨[], rfl, h.2 ▸ h0⟩⟩
theorem seq_ok {n : Nat} {l1 : List Int} {w w' : World} {Bn Bo : Nat} {v : Value} (hn : n ≤ 65536) (hlen : n ≤ 8 * l1.length) (h1 : w.heap.size ≤ Bn ∧ Bn < w'.heap.size) (h2 : w.heap.size ≤ Bo ∧ Bo < w'.heap.size) (h3 : w'.cell? ⟨Bn, 0, none⟩ = some (.int .i64 n)) (h4 : w'.cell? ⟨Bo, 0, none⟩ = some v) (hR : Kd.R (Kd.int .u8) 5 w' w.heap.size (fun _ => True) v l1) :
    Seq 62 #[.pointer (some ⟨Bn, 0, none⟩), .pointer (some ⟨Bo, 0, none⟩)] w.heap.size w'.heap.size (onesTo l1 n) w' := fun m hm l J Jx W hW hJ hJx hY h0 => by
  have cell : ∀ b o, b < w'.heap.size → W.cell? ⟨b, o, none⟩ = w'.cell? ⟨b, o, none⟩ := fun b o hb => hW.cell (p := ⟨b, o, none⟩) hb
  have hJ' : ∀ s A B, J s A → A.grownBy B none → J s B := fun s A B hs hg => hJ s A B none hs hg (fun r e => by cases e)
  rcases Nat.eq_zero_or_pos l1.length with hz | hz
  · exact walk2_in m hm l Bn Bo w.heap.size w'.heap.size 0 0 n l1 hn hlen J Jx hJ' hY W hW.size h2 (fun h => by omega) (by rw [cell _ _ h1.2]; exact h3) (fun h => by omega) (fun h => by omega) h0
  · obtain ⟨g, cap, rfl, hg1, hg2, _⟩ := Kd.R_form hR hz
    refine walk2_in m hm l Bn Bo w.heap.size w'.heap.size g cap n l1 hn hlen J Jx hJ' hY W hW.size h2 (fun _ => ⟨hg1, hg2⟩) (by rw [cell _ _ h1.2]; exact h3) (fun _ => by rw [cell _ _ h2.2]; exact h4) (fun _ j hj => ?_) h0
    have := (Kd.R_celln 0 hR (j : Int) (by omega) (by omega)).1
    rw [Int.toNat_natCast] at this
    rw [cell _ _ hg2, this]
    rfl

/-- The program's own spelling of a bit's test. -/
theorem hit_is (xs : List Int) (i : Nat) (hi : i ≤ 65536) : (Go.bits .and .u8 (rd xs (wrap64 (Int.tdiv (i : Int) 8))) (shr .u8 128 (Int.tmod (i : Int) 8)) = 0) ↔ hit xs i = false := by
  rw [quo8 i (by omega), rem8, shr_mask _ (Nat.mod_lt _ (by decide)), rd_nat]
  unfold hit
  rw [bne_eq_false_iff_eq]
/-- What Walk hands back, either way: a function that yields L. -/
def WalkSays (L : List Int) (w : World) (e : Ending) (w' : World) : Prop :=
  ∃ gf lb, e = .returned (.func (.func gf) #[] lb) ∧ (∀ args W, (callFunc gf args).run Try.prog W = .ok (.enter gf args) W) ∧ Below w.heap.size w w' ∧ Seq gf lb w.heap.size w'.heap.size L w'
/-- What comes of a walk: the places of the set bits, or nothing. -/
def walked (r : Int) (a0 : Int) (l1 : List Int) : List Int := if r = 0 then onesTo l1 a0.toNat else []
theorem walk_says (k : Nat) (a0 : Int) (A1 : Option Addr) (c1 : Nat) (l1 : List Int) (w : World) (r : Int) (hr1 : Kd.C (Kd.int .u8) w A1 l1.length l1) (hc1 : l1.length ≤ c1) (h : bitset_Check.f k a0 l1 = some r) :
    Calls Try.prog 25 #[.int .i64 a0, .slice A1 l1.length c1] w (WalkSays (walked r a0 l1) w) := by
  by_cases hr : r = 0
  · subst hr
    obtain ⟨n, rfl, hn, hl⟩ := check_zero h
    refine (walk_ok k n A1 c1 l1 w hr1 hc1 h (by omega)).mono ?_
    rintro e w' ⟨Bn, Bo, v, rfl, h1, h2, h3, h4, hR, hB⟩
    refine ⟨62, _, rfl, enters_of Try.func62 (by kernel_rfl) rfl, hB, ?_⟩
    unfold walked
    rw [if_pos rfl, Int.toNat_natCast]
    exact seq_ok hn (by omega) h1 h2 h3 h4 hR
  · refine (walk_no k a0 A1 c1 l1 w r hr1 hc1 h (beq_eq_false_iff_ne.mpr hr)).mono ?_
    rintro e w' ⟨rfl, hB⟩
    refine ⟨61, #[], rfl, enters_of Try.func61 (by kernel_rfl) rfl, hB, ?_⟩
    unfold walked
    rw [if_neg hr]
    exact seq_no _ _ _
end Go.Proofs.Ytoohpdamndgdlaa.P
