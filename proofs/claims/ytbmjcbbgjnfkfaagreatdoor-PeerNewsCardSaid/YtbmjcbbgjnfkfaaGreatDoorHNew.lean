/- peer.New, walked: a connection or the error that says why not. -/
import Derived.Test.YtbmjcbbgjnfkfaaGreatDoorPx1
import Derived.Test.YtbmjcbbgjnfkfaaGreatDoorPx3
import Derived.Test.YtbmjcbbgjnfkfaaGreatDoorPx5
import Derived.Test.YtbmjcbbgjnfkfaaGreatDoorHClone
import Derived.Laws.CopyOwn
set_option linter.unusedVariables false
set_option linter.unusedSimpArgs false
namespace Go.Proofs.YtbmjcbbgjnfkfaaGreatDoor.P
open Go.RowKit Go.Proofs.YtbmjcbbgjnfkfaaGreatDoorW.PrintWords Go.Proofs.YtbmjcbbgjnfkfaaGreatDoorW.PrintLast Go.Proofs.YtbmjcbbgjnfkfaaGreatDoorW.PrintMore
/-- Is every length of a piece one that may be? -/
def fits (b : Int) (l : List Int) : Prop := ∀ x ∈ l, 1 ≤ x ∧ x ≤ 1024 * b
instance (b : Int) (l : List Int) : Decidable (fits b l) := inferInstanceAs (Decidable (∀ x ∈ l, _))
/-- What New answers: g is what is said of the scale. -/
def newE (g b : Int) (l : List Int) : Int := if g = 0 then (if l.length ≤ 65536 then (if fits b l then 0 else 2) else 2) else 10
def NewSays (E : Int) (w : World) (e : Ending) (w' : World) : Prop :=
  ∃ q : Option Addr, e = .returned (.tuple #[.pointer q, .int .i64 E]) ∧ (q = none ↔ E ≠ 0) ∧ Below w.heap.size w w'
/-- A block of a connection's cells. -/
def Blk (n t : Nat) (W : World) (B : Nat) : Prop := ∃ cells : Array Value, W.heap[B]? = some (.cells cells t (0, 0)) ∧ cells.size = n
theorem Blk.cell {n t : Nat} {W : World} {B : Nat} (h : Blk n t W B) (i : Nat) (hi : i < n) : ∃ v, W.cell? ⟨B, i, none⟩ = some v := by
  obtain ⟨cells, h1, h2⟩ := h
  refine ⟨cells[i]'(by omega), ?_⟩
  simp [World.cell?, h1, h2, hi]
theorem Blk.frozen {n t : Nat} {W : World} {B : Nat} (h : Blk n t W B) (i : Nat) : W.frozen? ⟨B, i, none⟩ = false := by
  obtain ⟨cells, h1, h2⟩ := h
  simp [World.frozen?, h1]
theorem Blk.set {n t : Nat} {W : World} {B : Nat} (h : Blk n t W B) (i : Nat) (v : Value) : Blk n t (W.setCell ⟨B, i, none⟩ v) B := by
  obtain ⟨cells, h1, h2⟩ := h
  refine ⟨cells.setIfInBounds i v, ?_, by simp [h2]⟩
  have hb : B < W.heap.size := (Array.getElem?_eq_some_iff.1 h1).1
  rw [World.setCell]
  simp [h1, Array.getElem?_modify]
theorem Blk.below {n t : Nat} {W W' : World} {B : Nat} (h : Blk n t W B) (hb : Below W.heap.size W W') : Blk n t W' B := by
  obtain ⟨cells, h1, h2⟩ := h
  exact ⟨cells, (hb.block B (Array.getElem?_eq_some_iff.1 h1).1).trans h1, h2⟩
theorem Blk.lt {n t : Nat} {W : World} {B : Nat} (h : Blk n t W B) : B < W.heap.size := by
  obtain ⟨cells, h1, h2⟩ := h
  exact (Array.getElem?_eq_some_iff.1 h1).1
theorem rd_mem (l : List Int) (j : Nat) (h : j < l.length) : rd l (j : Int) ∈ l := by
  have e : rd l (j : Int) = l[j] := by simp [rd, h]
  rw [e]
  exact List.getElem_mem h
theorem take_rd (l : List Int) (j : Nat) (h : j < l.length) : l.take (j + 1) = l.take j ++ [rd l (j : Int)] := by
  have e : rd l (j : Int) = l[j] := by simp [rd, h]
  rw [e]
  simp
theorem dlt {j n : Nat} (h : j < n) : decide ((j : Int) < (n : Int)) = true := decide_eq_true (by omega)
theorem dge {j n : Nat} (h : ¬ j < n) : decide ((j : Int) < (n : Int)) = false := decide_eq_false (by omega)
theorem wr1024 {b : Int} (h1 : 64 ≤ b) (h2 : b ≤ 16384) : wrap64 (1024 * b) = 1024 * b := by unfold wrap64; omega
theorem meas {j n : Nat} (h : j < n) : n - (intOf (.int .i64 ((j : Int) + 1))).toNat < n - (intOf (.int .i64 (j : Int))).toNat := by simp [intOf]; omega
theorem lt2 {a b : Nat} (h : a + 1 + 1 ≤ b) : a < b := by omega
theorem lt2' {a b : Nat} (h : a + 1 + 1 ≤ b) : a + 1 < b := by omega
theorem sz1 {a b z : Nat} (h : z = b + 1 ∧ a + 1 + 1 ≤ b) : a < z := by omega
theorem sz2 {a b z : Nat} (h : z = b + 1 ∧ a + 1 + 1 ≤ b) : a + 1 < z := by omega
theorem sz3 {a b z : Nat} (h : z = b + 1 ∧ a + 1 + 1 ≤ b) : a ≤ b := by omega
theorem sz4 {a b z : Nat} (h : z = b + 1 ∧ a + 1 + 1 ≤ b) : a + 1 ≠ b := by omega
theorem inc (j : Nat) (h : j < 9223372036854775807) : wrap64 ((j : Int) + 1) = ((j + 1 : Nat) : Int) := by unfold wrap64; omega
theorem info_cell {W : World} {n : Nat} {cs : Array Value} {t : TypeId} (h : W.heap[n]? = some (.cells cs t (0, 0))) (j : Nat) (v : Value) (hj : cs[j]? = some v) : W.cell? (Addr.add ⟨n, 0, none⟩ j) = some v := by
  have e : (Addr.add ⟨n, 0, none⟩ j) = ⟨n, j, none⟩ := by by_cases h0 : j = 0 <;> simp [Addr.add, h0]
  rw [e]
  simp [World.cell?, h, hj]
theorem Blk.alloc {n t : Nat} {W : World} {B : Nat} (h : Blk n t W B) (o : Obj) : Blk n t (W.alloc o) B := h.below (below_alloc (Below.refl _ _) o)
theorem w64 (x : Int) (h1 : -9223372036854775808 ≤ x) (h2 : x ≤ 9223372036854775807) : wrap64 x = x := by unfold wrap64; omega
theorem quo8 (i : Nat) (h : i ≤ 140737488355328) : wrap64 (Int.tdiv (i : Int) 8) = ((i / 8 : Nat) : Int) := by
  have h1 : Int.tdiv (i : Int) 8 = ((i / 8 : Nat) : Int) := by
    rw [Int.tdiv_eq_ediv_of_nonneg (Int.natCast_nonneg i)]
    omega
  rw [h1, w64 _ (by omega) (by omega)]
theorem size_f (n : Nat) (h : n ≤ 65536) : bitset_size.f (n : Int) = some (((n + 7) / 8 : Nat) : Int) := by
  unfold bitset_size.f
  have e : wrap64 ((n : Int) + 7) = ((n + 7 : Nat) : Int) := by rw [w64 _ (by omega) (by omega)]; omega
  rw [e, quo8 _ (by omega)]
theorem make_f (n : Nat) (h : n ≤ 65536) : ∃ r, bitset_Make.f (n : Int) = some (r, 0) := by
  refine ⟨List.replicate ((n + 7) / 8) 0, ?_⟩
  unfold bitset_Make.f
  rw [if_neg (by omega), if_neg (by omega), size_f n h]
  simp only [Option.bind_some]
  rw [if_pos (by omega), if_pos (by omega), Int.toNat_natCast]
theorem clone_f (l : List Int) (h : l.length ≤ 65536) : slices_Clone_int_int.f l = some l := by
  unfold slices_Clone_int_int.f
  simp only [Option.bind_some, List.length_nil, List.nil_append]
  rw [if_pos (by omega)]
set_option maxHeartbeats 8000000 in
set_option maxRecDepth 100000 in
theorem peer_New_says (k : Nat) (b wd g : Int) (cs : Array Value) (A : Option Addr) (c : Nat) (l : List Int) (w : World) (hcs : cs.size = 32) (hone : ∀ v ∈ cs, v.oneCell' = true)
    (hr : Kd.C (Kd.int .i64) w A l.length l) (hc : l.length ≤ c) (hg : digest_Good.f k b wd = some g) (hb : g = 0 → 64 ≤ b ∧ b ≤ 16384) (hM : l.length ≤ 140737488351232) :
    Calls Tryz.prog 5 #[.agg #[.int .i64 b, .int .i64 wd], .agg cs, .slice A l.length c] w (NewSays (newE g b l) w) := by
  have HR := Aside0.mk hr
  have HC := Aside0.mk hc
  have HG := Aside0.mk hg
  have HBB := Aside0.mk hb
  have HM := Aside0.mk hM
  have HCS := Aside0.mk (And.intro hcs hone)
  clear hr hc hg hb hM hcs hone
  have HB0 := Aside0.mk (below_alloc (below_alloc (Below.refl w.heap.size w) (.cells #[.int .i64 b, .int .i64 wd] 23)) (.cells cs 25))
  by_cases h0 : g = 0
  · subst h0
    obtain ⟨hbl, hbh⟩ := HBB.out rfl
    have hgb : ((0 : Int) != 0) = false := rfl
    by_cases hlen : l.length ≤ 65536
    · have hl1 : decide ((65536 : Int) < (l.length : Int)) = false := decide_eq_false (by clear HB0 HR; omega)
      go_enter Tryz.func5, Tryz.ntmps5
      go_wp2_with (first | ((with_reducible refine gate_callee (f := 8) rfl ?_); refine goesL_ (some 12) rfl rfl Tryz.func8 (by kernel_rfl) rfl #[.agg #[.int .i64 b, .int .i64 wd]] rfl (by (try simp only [List.map_toArray, List.map_cons, List.map_nil]); first | done | rfl) ?_; (with_reducible refine (digest_Good.calls k b wd _ _ HG.out).mono ?_); rintro e w1 ⟨rfl, hb1⟩; refine ⟨_, rfl, ?_⟩; have HB1 := Aside0.mk (below_step HB0.out hb1); have HX1 := Aside0.mk hb1; clear hb1))
      have hs1 := HX1.out.size
      have hbx : w1.cell? ⟨w.heap.size, 0, none⟩ = some (.int .i64 b) := (HX1.out.cell (p := ⟨w.heap.size, 0, none⟩) (by show w.heap.size < _; simp only [World.size_alloc]; exact lt2 (Nat.le_refl _))).trans (by go_simp)
      have hif : w1.heap[w.heap.size + 1]? = some (.cells cs 25 (0, 0)) := (HX1.out.block (w.heap.size + 1) (by simp only [World.size_alloc]; exact lt2' (Nat.le_refl _))).trans (by have h := heap_alloc_new (w.alloc (.cells #[.int .i64 b, .int .i64 wd] 23)) (.cells cs 25); rw [World.size_alloc] at h; exact h)
      have HR1 := Aside0.mk (Kd.C_below HR.out HB1.out)
      have HIF := Aside0.mk hif
      clear hif hs1 hl1
      go_loop [19] (fun i => ∃ j : Nat, i = .int .i64 j ∧ j ≤ l.length ∧ fits b (l.take j)) (fun i => l.length - (intOf i).toNat)
      case atStart => exact ⟨0, rfl, Nat.zero_le _, by intro x hx; simp at hx⟩
      case round =>
        obtain ⟨j, rfl, hj, hfit⟩ := hrel
        have HJ := Aside0.mk (And.intro hj hfit)
        clear hj hfit
        by_cases hlt : j < l.length
        · have hjl : decide ((j : Int) < (l.length : Int)) = true := dlt hlt
          have hj0 : (0 : Int) ≤ (j : Int) := Int.natCast_nonneg _
          have hj1 : (j : Int) < (l.length : Int) := Int.ofNat_lt.mpr hlt
          obtain ⟨ad, ead, hx⟩ := Kd.at_int HR1.out (j : Int) hj0 hj1
          cases ead
          rw [Int.toNat_natCast] at hx
          have hj0' := eq_true hj0
          have hj1' := eq_true hj1
          have hin := rd_mem l j hlt
          have hsn : l.take (j + 1) = l.take j ++ [rd l (j : Int)] := take_rd l j hlt
          have hX0 : rd l (j : Int) = l.getD j 0 := by simp [rd]
          generalize rd l (j : Int) = x at hx hin hsn hX0
          have hwr : wrap64 (1024 * b) = 1024 * b := wr1024 hbl hbh
          have hinc := inc j (Nat.lt_trans (Nat.lt_of_lt_of_le hlt hlen) (by decide))
          have HK := Aside0.mk (And.intro hin (And.intro hsn (And.intro hinc hwr)))
          clear hin hsn hinc hX0 hj0 hj1
          by_cases hx1 : x < 1
          · have hx1' : decide (x < 1) = true := decide_eq_true hx1
            have hno : ¬ fits b l := fun h => absurd (h x HK.out.1).1 (Int.not_le.mpr hx1)
            clear hwr
            go_wp2
            go_ret2
            exact ⟨none, by unfold newE; rw [if_pos rfl, if_pos hlen, if_neg hno]; rfl, by unfold newE; rw [if_pos rfl, if_pos hlen, if_neg hno]; simp, HB1.out⟩
          · have hx1' : decide (x < 1) = false := decide_eq_false hx1
            by_cases hx2 : 1024 * b < x
            · have hx2' : decide (wrap64 (1024 * b) < x) = true := by rw [hwr]; exact decide_eq_true hx2
              have hno : ¬ fits b l := fun h => absurd (h x HK.out.1).2 (Int.not_le.mpr hx2)
              have hx2'' : decide (1024 * b < x) = true := decide_eq_true hx2
              clear hwr
              go_wp2
              go_ret2
              exact ⟨none, by unfold newE; rw [if_pos rfl, if_pos hlen, if_neg hno]; rfl, by unfold newE; rw [if_pos rfl, if_pos hlen, if_neg hno]; simp, HB1.out⟩
            · have hx2' : decide (wrap64 (1024 * b) < x) = false := by rw [hwr]; exact decide_eq_false hx2
              have hfx : fits b (l.take (j + 1)) := by
                rw [HK.out.2.1]
                intro y hy
                rcases List.mem_append.1 hy with hy | hy
                · exact HJ.out.2 y hy
                · have e : y = x := by simpa using hy
                  exact e ▸ ⟨Int.not_lt.mp hx1, Int.not_lt.mp hx2⟩
              have HF := Aside0.mk hfx
              have hx2'' : decide (1024 * b < x) = false := decide_eq_false hx2
              clear hwr hfx
              go_wp2
              go_round
              case rel => exact ⟨j + 1, by first | rfl | rw [HK.out.2.2.1] | simp, hlt, HF.out⟩
              case measure => exact meas hlt
        · have hjl : decide ((j : Int) < (l.length : Int)) = false := dge hlt
          have hfl : fits b l := by
            have h := HJ.out.2
            rwa [List.take_of_length_le (Nat.le_of_not_lt hlt)] at h
          go_wp2
          generalize hZ : World.alloc w1 (Obj.cells _ 55) = Z
          have hblk : Blk 30 55 Z w1.heap.size := hZ ▸ ⟨_, heap_alloc_new _ _, rfl⟩
          have hbz1 : Below w1.heap.size w1 Z := hZ ▸ below_alloc (Below.refl _ _) _
          have hzs : Z.heap.size = w1.heap.size + 1 := hZ ▸ World.size_alloc _ _
          have hs1 := HX1.out.size
          simp only [World.size_alloc] at hs1
          clear hZ
          have hbz : Z.cell? ⟨w.heap.size, 0, none⟩ = some (.int .i64 b) := (hbz1.cell (p := ⟨w.heap.size, 0, none⟩) (lt2 hs1)).trans hbx
          have HB2 := Aside0.mk (below_step HB1.out hbz1)
          have HIF2 := Aside0.mk ((hbz1.block _ (lt2' hs1)).trans HIF.out)
          have HR2 := Aside0.mk (Kd.C_below HR1.out hbz1)
          have HBLK := Aside0.mk hblk
          have HFL := Aside0.mk hfl
          clear HR1 HB1 HIF hbx hblk hbz1 HX1 HB0 HJ HG hgb hfl
          obtain ⟨B, hB⟩ : ∃ B, w1.heap.size = B := ⟨_, rfl⟩
          rw [hB] at HBLK hzs hs1 ⊢
          have HSZ := Aside0.mk (And.intro hzs hs1)
          clear hB hzs hs1 hlt hjl
          refine start_ (n := 16) (S := fun w' => w'.cell? ⟨w.heap.size, 0, none⟩ = some (.int .i64 b)) (ds := [10, 15]) #[false, false, false, false, false, false, false, false, false, false, false, false, false, false, false, false] (by kernel_rfl) rfl rfl (hbz) (fun hHeld => ?_)
          refine pure_ (i := 0) (N := some 35) (v := ?_) (a' := ?_) #[true, false, false, false, false, false, false, false, false, false, false, false, false, false, false, false] rfl rfl (by kernel_rfl) (fun _ _ _ h => h) (Or.inl ⟨by rfl, ?_⟩) ?_ ?_
          rotate_left
          · intro w'
            go_simp
            with_reducible rfl
          rotate_left
          · simp only [Act.put, List.setIfInBounds_toArray, List.set_cons_zero, List.set_cons_succ, i64_w, i32_w]
            rfl
          refine pure_ (i := 1) (N := some 36) (v := ?_) (a' := ?_) #[true, true, false, false, false, false, false, false, false, false, false, false, false, false, false, false] rfl rfl (by kernel_rfl) (fun _ _ _ h => h) (Or.inl ⟨by rfl, ?_⟩) ?_ ?_
          rotate_left
          · intro w'
            go_simp
            with_reducible rfl
          rotate_left
          · simp only [Act.put, List.setIfInBounds_toArray, List.set_cons_zero, List.set_cons_succ, i64_w, i32_w]
            rfl
          refine pure_ (i := 2) (N := some 37) (v := ?_) (a' := ?_) #[true, true, true, false, false, false, false, false, false, false, false, false, false, false, false, false] rfl rfl (by kernel_rfl) (fun _ _ _ h => h) (Or.inl ⟨by rfl, ?_⟩) ?_ ?_
          rotate_left
          · intro w'
            go_simp
            with_reducible rfl
          rotate_left
          · simp only [Act.put, List.setIfInBounds_toArray, List.set_cons_zero, List.set_cons_succ, i64_w, i32_w]
            rfl
          refine pure_ (i := 4) (N := some 39) (v := ?_) (a' := ?_) #[true, true, true, false, true, false, false, false, false, false, false, false, false, false, false, false] rfl rfl (by kernel_rfl) (fun _ _ _ h => h) (Or.inl ⟨by rfl, ?_⟩) ?_ ?_
          rotate_left
          · intro w'
            go_simp
            with_reducible rfl
          rotate_left
          · simp only [Act.put, List.setIfInBounds_toArray, List.set_cons_zero, List.set_cons_succ, i64_w, i32_w]
            rfl
          refine take_ (i := 3) (N := some 38) (v := ?_) (a' := ?_) #[true, true, true, true, true, false, false, false, false, false, false, false, false, false, false, false] rfl rfl (by kernel_rfl) (fun _ _ _ h => h) (Or.inl ⟨by rfl, ?_⟩) hHeld ?_ ?_
          rotate_left
          · intro w' s0
            go_simp
            with_reducible rfl
          rotate_left
          · simp only [Act.put, List.setIfInBounds_toArray, List.set_cons_zero, List.set_cons_succ, i64_w, i32_w]
            rfl
          refine one_ (i := 5) (N := some 40) #[true, true, true, true, true, true, false, false, false, false, false, false, false, false, false, false] rfl rfl (by kernel_rfl) (by decide) (fun K hK => ?_)
          refine goes_ Tryz.func9 (by kernel_rfl) rfl #[.slice A l.length c] (by rfl) rfl rfl (by (try simp only [List.map_toArray, List.map_cons, List.map_nil]); first | done | rfl) ?_
          with_reducible refine (slices_Clone_int_int.calls A c l l _ (Kd.C_below HR2.out (below_drew (Below.refl _ _))) HC.out (clone_f l hlen)).mono ?_
          rintro e w2 ⟨v, rfl, hv, hb2⟩
          refine ⟨_, rfl, ?_⟩
          obtain ⟨A', c', rfl⟩ := Kd.R_slice hv
          have hb2z : Below Z.heap.size Z w2 := below_step (below_drew (Below.refl Z.heap.size Z)) hb2
          have hK2 := HBLK.out.below hb2z
          obtain ⟨v0, hc0⟩ := hK2.cell 0 (by decide)
          obtain ⟨v21, hc21⟩ := hK2.cell 21 (by decide)
          have hf0 := hK2.frozen 0
          have hf21 := hK2.frozen 21
          have hH2 : w2.cell? ⟨w.heap.size, 0, none⟩ = some (.int .i64 b) := (hb2z.cell (p := ⟨w.heap.size, 0, none⟩) (sz1 HSZ.out)).trans hbz
          have HB3 := Aside0.mk (below_step HB2.out hb2z)
          have HIF3 := Aside0.mk ((hb2z.block _ (sz2 HSZ.out)).trans HIF2.out)
          have HK3 := Aside0.mk hK2
          have HR3 := Aside0.mk (Kd.C_below HR2.out hb2z)
          clear hv hb2 hb2z hK2 HB2 HIF2 HR2 HBLK
          refine hK.out _ _ (hH2) (fun hHeld => ?_)
          clear hK K
          refine norm_ (a' := ?_) ?_ ?_
          rotate_left
          · show Act.put _ (some 40) _ = _
            simp only [Act.put, List.setIfInBounds_toArray, List.set_cons_zero, List.set_cons_succ, i64_w, i32_w]
            rfl
          refine pure_ (i := 6) (N := some 41) (v := ?_) (a' := ?_) #[true, true, true, true, true, true, true, false, false, false, false, false, false, false, false, false] rfl rfl (by kernel_rfl) (fun _ _ _ h => h) (Or.inl ⟨by rfl, ?_⟩) ?_ ?_
          rotate_left
          · intro w'
            go_simp
            with_reducible rfl
          rotate_left
          · simp only [Act.put, List.setIfInBounds_toArray, List.set_cons_zero, List.set_cons_succ, i64_w, i32_w]
            rfl
          refine pure_ (i := 7) (N := some 42) (v := ?_) (a' := ?_) #[true, true, true, true, true, true, true, true, false, false, false, false, false, false, false, false] rfl rfl (by kernel_rfl) (fun _ _ _ h => h) (Or.inl ⟨by rfl, ?_⟩) ?_ ?_
          rotate_left
          · intro w'
            go_simp
            with_reducible rfl
          rotate_left
          · simp only [Act.put, List.setIfInBounds_toArray, List.set_cons_zero, List.set_cons_succ, i64_w, i32_w]
            rfl
          refine pure_ (i := 8) (N := some 43) (v := ?_) (a' := ?_) #[true, true, true, true, true, true, true, true, true, false, false, false, false, false, false, false] rfl rfl (by kernel_rfl) (fun _ _ _ h => h) (Or.inl ⟨by rfl, ?_⟩) ?_ ?_
          rotate_left
          · intro w'
            go_simp
            with_reducible rfl
          rotate_left
          · simp only [Act.put, List.setIfInBounds_toArray, List.set_cons_zero, List.set_cons_succ, i64_w, i32_w]
            rfl
          refine pure_ (i := 9) (N := some 44) (v := ?_) (a' := ?_) #[true, true, true, true, true, true, true, true, true, true, false, false, false, false, false, false] rfl rfl (by kernel_rfl) (fun _ _ _ h => h) (Or.inl ⟨by rfl, ?_⟩) ?_ ?_
          rotate_left
          · intro w'
            go_simp
            with_reducible rfl
          rotate_left
          · simp only [Act.put, List.setIfInBounds_toArray, List.set_cons_zero, List.set_cons_succ, i64_w, i32_w]
            rfl
          refine last_ (i := 10) (N := none) #[true, true, true, true, true, true, true, true, true, true, true, false, false, false, false, false] rfl rfl (by kernel_rfl) (by decide) (fun K hK => ?_)
          refine skip_ (w1 := ?_) (by rfl) rfl ?_ ?_
          rotate_left
          · go_simp
            rfl
          refine hK.out _ _ ?_
          clear hK K
          refine pure_ (i := 11) (N := some 45) (v := ?_) (a' := ?_) #[true, true, true, true, true, true, true, true, true, true, true, true, false, false, false, false] rfl rfl (by kernel_rfl) (fun _ _ _ h => h) (Or.inl ⟨by rfl, ?_⟩) ?_ ?_
          rotate_left
          · intro w'
            go_simp
            with_reducible rfl
          rotate_left
          · simp only [Act.put, List.setIfInBounds_toArray, List.set_cons_zero, List.set_cons_succ, i64_w, i32_w]
            rfl
          refine pure_ (i := 12) (N := some 46) (v := ?_) (a' := ?_) #[true, true, true, true, true, true, true, true, true, true, true, true, true, false, false, false] rfl rfl (by kernel_rfl) (fun _ _ _ h => h) (Or.inl ⟨by rfl, ?_⟩) ?_ ?_
          rotate_left
          · intro w'
            go_simp
            with_reducible rfl
          rotate_left
          · simp only [Act.put, List.setIfInBounds_toArray, List.set_cons_zero, List.set_cons_succ, i64_w, i32_w]
            rfl
          refine pure_ (i := 13) (N := some 47) (v := ?_) (a' := ?_) #[true, true, true, true, true, true, true, true, true, true, true, true, true, true, false, false] rfl rfl (by kernel_rfl) (fun _ _ _ h => h) (Or.inl ⟨by rfl, ?_⟩) ?_ ?_
          rotate_left
          · intro w'
            go_simp
            with_reducible rfl
          rotate_left
          · simp only [Act.put, List.setIfInBounds_toArray, List.set_cons_zero, List.set_cons_succ, i64_w, i32_w]
            rfl
          refine pure_ (i := 14) (N := some 48) (v := ?_) (a' := ?_) #[true, true, true, true, true, true, true, true, true, true, true, true, true, true, true, false] rfl rfl (by kernel_rfl) (fun _ _ _ h => h) (Or.inl ⟨by rfl, ?_⟩) ?_ ?_
          rotate_left
          · intro w'
            go_simp
            with_reducible rfl
          rotate_left
          · simp only [Act.put, List.setIfInBounds_toArray, List.set_cons_zero, List.set_cons_succ, i64_w, i32_w]
            rfl
          refine last_ (i := 15) (N := none) #[true, true, true, true, true, true, true, true, true, true, true, true, true, true, true, true] rfl rfl (by kernel_rfl) (by decide) (fun K hK => ?_)
          refine skip_ (w1 := ?_) (by rfl) rfl ?_ ?_
          rotate_left
          · go_simp
            rfl
          refine hK.out _ _ ?_
          clear hK K
          refine done_ (by kernel_rfl) ?_
          go_wp2
          have HB4 := Aside0.mk ((HB3.out.setCell (p := ⟨B, 0, none⟩) (sz3 HSZ.out) (.int .i64 b)).setCell (p := ⟨B, 21, none⟩) (sz3 HSZ.out) (.slice A' l.length c'))
          have hK4 := (HK3.out.set 0 (.int .i64 b)).set 21 (.slice A' l.length c')
          have hIF4 := ((Below.heap_setCell _ ⟨B, 21, none⟩ (.slice A' l.length c') (w.heap.size + 1) (sz4 HSZ.out)).trans ((Below.heap_setCell w2 ⟨B, 0, none⟩ (.int .i64 b) (w.heap.size + 1) (sz4 HSZ.out)).trans HIF3.out))
          clear hc0 hc21 hf0 hf21 hH2 HB3 HIF3 HK3 hbz
          generalize World.setCell _ ⟨B, 21, none⟩ _ = W4 at HB4 hK4 hIF4 ⊢
          obtain ⟨cells, hcell, hsize⟩ := hK4
          refine start_ (n := 8) (S := fun _ => True) (ds := [7]) #[false, false, false, false, false, false, false, false] (by kernel_rfl) rfl rfl (trivial) (fun hHeld => ?_)
          refine pure_ (i := 0) (N := some 49) (v := ?_) (a' := ?_) #[true, false, false, false, false, false, false, false] rfl rfl (by kernel_rfl) (fun _ _ _ h => h) (Or.inl ⟨by rfl, ?_⟩) ?_ ?_
          rotate_left
          · intro w'
            go_simp
            with_reducible rfl
          rotate_left
          · simp only [Act.put, List.setIfInBounds_toArray, List.set_cons_zero, List.set_cons_succ, i64_w, i32_w]
            rfl
          refine pure_ (i := 1) (N := some 50) (v := ?_) (a' := ?_) #[true, true, false, false, false, false, false, false] rfl rfl (by kernel_rfl) (fun _ _ _ h => h) (Or.inl ⟨by rfl, ?_⟩) ?_ ?_
          rotate_left
          · intro w'
            go_simp
            with_reducible rfl
          rotate_left
          · simp only [Act.put, List.setIfInBounds_toArray, List.set_cons_zero, List.set_cons_succ, i64_w, i32_w]
            rfl
          refine pure_ (i := 2) (N := some 51) (v := ?_) (a' := ?_) #[true, true, true, false, false, false, false, false] rfl rfl (by kernel_rfl) (fun _ _ _ h => h) (Or.inl ⟨by rfl, ?_⟩) ?_ ?_
          rotate_left
          · intro w'
            go_simp
            with_reducible rfl
          rotate_left
          · simp only [Act.put, List.setIfInBounds_toArray, List.set_cons_zero, List.set_cons_succ, i64_w, i32_w]
            rfl
          refine pure_ (i := 3) (N := some 52) (v := ?_) (a' := ?_) #[true, true, true, true, false, false, false, false] rfl rfl (by kernel_rfl) (fun _ _ _ h => h) (Or.inl ⟨by rfl, ?_⟩) ?_ ?_
          rotate_left
          · intro w'
            go_simp
            with_reducible rfl
          rotate_left
          · simp only [Act.put, List.setIfInBounds_toArray, List.set_cons_zero, List.set_cons_succ, i64_w, i32_w]
            rfl
          refine pure_ (i := 4) (N := some 53) (v := ?_) (a' := ?_) #[true, true, true, true, true, false, false, false] rfl rfl (by kernel_rfl) (fun _ _ _ h => h) (Or.inl ⟨by rfl, ?_⟩) ?_ ?_
          rotate_left
          · intro w'
            go_simp
            with_reducible rfl
          rotate_left
          · simp only [Act.put, List.setIfInBounds_toArray, List.set_cons_zero, List.set_cons_succ, i64_w, i32_w]
            rfl
          refine pure_ (i := 5) (N := some 54) (v := ?_) (a' := ?_) #[true, true, true, true, true, true, false, false] rfl rfl (by kernel_rfl) (fun _ _ _ h => h) (Or.inl ⟨by rfl, ?_⟩) ?_ ?_
          rotate_left
          · intro w'
            go_simp
            with_reducible rfl
          rotate_left
          · simp only [Act.put, List.setIfInBounds_toArray, List.set_cons_zero, List.set_cons_succ, i64_w, i32_w]
            rfl
          refine pure_ (i := 6) (N := some 55) (v := ?_) (a' := ?_) #[true, true, true, true, true, true, true, false] rfl rfl (by kernel_rfl) (fun _ _ _ h => h) (Or.inl ⟨by rfl, ?_⟩) ?_ ?_
          rotate_left
          · intro w'
            go_simp
            with_reducible rfl
          rotate_left
          · simp only [Act.put, List.setIfInBounds_toArray, List.set_cons_zero, List.set_cons_succ, i64_w, i32_w]
            rfl
          refine last_ (i := 7) (N := some 56) #[true, true, true, true, true, true, true, true] rfl rfl (by kernel_rfl) (by decide) (fun K hK => ?_)
          refine step_copy_splice rfl (.tmp 54) (.tmp 55) 37 37 rfl 5 Tryz.underlying37 (by kernel_rfl) _ _ _ _ _ _ rfl rfl B 1 cells.toList 55 (by rw [Array.toArray_toList]; exact hcell) (cs.toList.take 20) ?hn ?hpos ?hfit ?h1 w.heap.size w (below_drew HB4.out) (sz3 HSZ.out) ?_
          case hn => simp [HCS.out.1]
          case hpos =>
            intro _
            refine ⟨rfl, _, rfl, fun j v hj => ?_⟩
            have hj2 : cs[j]? = some v := by rw [← Array.getElem?_toList]; rw [List.getElem?_take] at hj; split at hj; exact hj; cases hj
            exact info_cell hIF4 j v hj2
          case hfit => simp [HCS.out.1, hsize]
          case h1 => exact fun v hv => HCS.out.2 v (by have := List.mem_of_mem_take hv; simpa using this)
          intro w5 hg5 hb5
          have hK5 : Blk 30 55 w5 B := ⟨_, hg5, by rw [List.size_toArray, length_splice _ _ _ (by simp [HCS.out.1, hsize])]; simpa using hsize⟩
          have HB5 := Aside0.mk hb5
          clear hg5 hb5 hcell hIF4 HB4
          refine hK.out _ _ ?_
          clear hK K
          refine norm_ (a' := ?_) ?_ ?_
          rotate_left
          · show Act.put _ (some 56) _ = _
            simp only [Act.put, List.setIfInBounds_toArray, List.set_cons_zero, List.set_cons_succ, i64_w, i32_w]
            rfl
          refine done_ (by kernel_rfl) ?_
          obtain ⟨v22, hc22⟩ := hK5.cell 22 (by decide)
          obtain ⟨v23, hc23⟩ := hK5.cell 23 (by decide)
          have hB5 : B < w5.heap.size := hK5.lt
          have hd22 : ∀ o, (w5.alloc o).cell? ⟨B, 22, none⟩ = some v22 := fun o => ((below_alloc (Below.refl _ w5) o).cell (p := ⟨B, 22, none⟩) hB5).trans hc22
          have hd23 : ∀ o, (w5.alloc o).cell? ⟨B, 23, none⟩ = some v23 := fun o => ((below_alloc (Below.refl _ w5) o).cell (p := ⟨B, 23, none⟩) hB5).trans hc23
          have hf22 : ∀ o, (w5.alloc o).frozen? ⟨B, 22, none⟩ = false := fun o => (hK5.alloc o).frozen 22
          have hf23 : ∀ o, (w5.alloc o).frozen? ⟨B, 23, none⟩ = false := fun o => (hK5.alloc o).frozen 23
          have HK5 := Aside0.mk hK5
          have HWB := Aside0.mk (sz3 HSZ.out)
          obtain ⟨rm, hrm⟩ := make_f l.length hlen
          have HMK := Aside0.mk hrm
          clear hc22 hc23 hB5 hK5 hrm
          go_wp2_with (first
            | ((with_reducible refine gate_callee (f := 10) rfl ?_); refine goesL_ (some 69) rfl rfl Tryz.func10 (by kernel_rfl) rfl #[.bool true] rfl (by (try simp only [List.map_toArray, List.map_cons, List.map_nil]); first | done | rfl) ?_; (with_reducible refine (frame_New.calls true 0 [] 68 0 _ _ (Below.refl _ _) rfl).mono ?_); rintro e w6 ⟨g6, rfl, _, _, hb6⟩; refine ⟨_, rfl, ?_⟩
               have hK6 : Blk 30 55 w6 B := Blk.below (by repeat (first | exact HK5.out | refine Blk.set ?_ _ _ | refine Blk.alloc ?_ _)) hb6
               have HB6 := Aside0.mk (below_step (show Below w.heap.size w _ by repeat (first | exact HB5.out | refine Below.setCell (p := ⟨B, _, none⟩) ?_ HWB.out _ | refine below_alloc ?_ _)) hb6)
               obtain ⟨v26, hc26⟩ := hK6.cell 26 (by decide)
               have hf26 := hK6.frozen 26
               have HK6 := Aside0.mk hK6
               clear hK6 hb6 hd22 hd23 hf22 hf23 HB5 HK5)
            | ((with_reducible refine gate_callee (f := 11) rfl ?_); refine goesL_ (some 77) rfl rfl Tryz.func11 (by kernel_rfl) rfl #[.int .i64 (l.length : Int)] rfl (by (try simp only [List.map_toArray, List.map_cons, List.map_nil]); first | done | rfl) ?_; (with_reducible refine (bitset_Make.calls (l.length : Int) _ _ _ HMK.out).mono ?_); rintro e w7 ⟨vm, rfl, hvm, hb7⟩; refine ⟨_, rfl, ?_⟩
               obtain ⟨Am, cm, rfl⟩ := Kd.R_slice hvm
               have hK7 : Blk 30 55 w7 B := Blk.below (by repeat (first | exact HK6.out | refine Blk.set ?_ _ _ | refine Blk.alloc ?_ _)) hb7
               have HB7 := Aside0.mk (below_step (show Below w.heap.size w _ by repeat (first | exact HB6.out | refine Below.setCell (p := ⟨B, _, none⟩) ?_ HWB.out _ | refine below_alloc ?_ _)) hb7)
               obtain ⟨v27, hc27⟩ := hK7.cell 27 (by decide)
               have hf27 := hK7.frozen 27
               clear hK7 hb7 hc26 hf26 HB6 HK6 hvm))
          go_ret2
          exact ⟨some ⟨B, 0, none⟩, by unfold newE; rw [if_pos rfl, if_pos hlen, if_pos HFL.out]; rfl, by unfold newE; rw [if_pos rfl, if_pos hlen, if_pos HFL.out]; simp, HB7.out.setCell (p := ⟨B, 27, none⟩) HWB.out _⟩
    · have hl1 : decide ((65536 : Int) < (l.length : Int)) = true := decide_eq_true (by omega)
      go_enter Tryz.func5, Tryz.ntmps5
      go_wp2_with (first | ((with_reducible refine gate_callee (f := 8) rfl ?_); refine goesL_ (some 12) rfl rfl Tryz.func8 (by kernel_rfl) rfl #[.agg #[.int .i64 b, .int .i64 wd]] rfl (by (try simp only [List.map_toArray, List.map_cons, List.map_nil]); first | done | rfl) ?_; (with_reducible refine (digest_Good.calls k b wd _ _ HG.out).mono ?_); rintro e w1 ⟨rfl, hb1⟩; refine ⟨_, rfl, ?_⟩; have HB1 := Aside0.mk (below_step HB0.out hb1); have HX1 := Aside0.mk hb1; clear hb1))
      go_ret2
      exact ⟨none, by unfold newE; rw [if_pos rfl, if_neg hlen]; rfl, by unfold newE; rw [if_pos rfl, if_neg hlen]; simp, HB1.out⟩
  · have hgb : (g != 0) = true := by simpa using h0
    go_enter Tryz.func5, Tryz.ntmps5
    go_wp2_with (first | ((with_reducible refine gate_callee (f := 8) rfl ?_); refine goesL_ (some 12) rfl rfl Tryz.func8 (by kernel_rfl) rfl #[.agg #[.int .i64 b, .int .i64 wd]] rfl (by (try simp only [List.map_toArray, List.map_cons, List.map_nil]); first | done | rfl) ?_; (with_reducible refine (digest_Good.calls k b wd _ _ HG.out).mono ?_); rintro e w1 ⟨rfl, hb1⟩; refine ⟨_, rfl, ?_⟩; have HB1 := Aside0.mk (below_step HB0.out hb1); have HX1 := Aside0.mk hb1; clear hb1))
    go_ret2
    exact ⟨none, by unfold newE; rw [if_neg h0]; rfl, by unfold newE; rw [if_neg h0]; simp, HB1.out⟩
end Go.Proofs.YtbmjcbbgjnfkfaaGreatDoor.P
