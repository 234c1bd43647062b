/- torrentlaw17.play without a script, and PeerNews, walked: the two News say the same, so it answers true. -/
import Derived.Test.YtbmjcbbgjnfkfaaGreatDoorHNew
import Derived.Test.YtbmjcbbgjnfkfaaGreatDoorHRef
set_option linter.unusedVariables false
set_option linter.unusedSimpArgs false
namespace Go.Proofs.YtbmjcbbgjnfkfaaGreatDoor.P
open Go.RowKit Go.Proofs.YtbmjcbbgjnfkfaaGreatDoorW.PrintWords Go.Proofs.YtbmjcbbgjnfkfaaGreatDoorW.PrintLast Go.Proofs.YtbmjcbbgjnfkfaaGreatDoorW.PrintMore
/-- What is known of New's arguments. -/
structure Known (k : Nat) (b wd g1 g2 : Int) (cs : Array Value) (l : List Int) : Prop where
  hcs : cs.size = 32
  hone : ∀ n, n < 32 → ∃ z : Int, cs[n]? = some (.int .u8 z)
  h1 : digest_Good.f k b wd = some g1
  h2 : torrentref1_Good.f k b wd = some g2
  hz : g1 = 0 ↔ g2 = 0
  hb : g1 = 0 → 64 ≤ b ∧ b ≤ 16384
  hmk : l.length ≤ 65536 → ∃ r, torrentref4_Make.f k (l.length : Int) = some (r, 0)
  hM : l.length * 8 ≤ 140737488351232
theorem one_cells {cs : Array Value} (hcs : cs.size = 32) (hone : ∀ n, n < 32 → ∃ z : Int, cs[n]? = some (.int .u8 z)) : ∀ v ∈ cs, v.oneCell' = true := by
  intro v hv
  obtain ⟨n, hn, rfl⟩ := Array.getElem_of_mem hv
  obtain ⟨z, hz⟩ := hone n (by omega)
  rw [Array.getElem?_eq_getElem hn] at hz
  rw [Option.some.inj hz]
  rfl
theorem newE_same {g1 g2 b : Int} {l : List Int} (h : g1 = 0 ↔ g2 = 0) : newE g2 b l = newE g1 b l := by
  unfold newE
  by_cases h0 : g1 = 0
  · rw [if_pos h0, if_pos (h.1 h0)]
  · rw [if_neg h0, if_neg (fun h2 => h0 (h.2 h2))]
def Yes (w : World) (e : Ending) (w' : World) : Prop := ∃ q : Addr, e = .returned (.tuple #[.pointer (some q), .int .i64 0]) ∧ Below w.heap.size w w'
def No (E : Int) (w : World) (e : Ending) (w' : World) : Prop := e = .returned (.tuple #[.pointer none, .int .i64 E]) ∧ Below w.heap.size w w'
theorem says_yes {E : Int} {w w' : World} {e : Ending} (hE : E = 0) (h : NewSays E w e w') : Yes w e w' := by
  obtain ⟨q, rfl, hq, hb⟩ := h
  subst hE
  cases q with
  | none => exact absurd (hq.1 rfl) (by simp)
  | some a => exact ⟨a, rfl, hb⟩
theorem says_no {E : Int} {w w' : World} {e : Ending} (hE : E ≠ 0) (h : NewSays E w e w') : No E w e w' := by
  obtain ⟨q, rfl, hq, hb⟩ := h
  obtain rfl := hq.2 hE
  exact ⟨rfl, hb⟩
section
variable {k : Nat} {b wd g1 g2 : Int} {cs : Array Value} {l : List Int} (A : Option Addr) (c : Nat) (w : World)
theorem pN (h : Known k b wd g1 g2 cs l) (hr : Kd.C (Kd.int .i64) w A l.length l) (hc : l.length ≤ c) : Calls Tryz.prog 5 #[.agg #[.int .i64 b, .int .i64 wd], .agg cs, .slice A l.length c] w (NewSays (newE g1 b l) w) :=
  peer_New_says k b wd g1 cs A c l w h.hcs (one_cells h.hcs h.hone) hr hc h.h1 h.hb (by have := h.hM; omega)
theorem rN (h : Known k b wd g1 g2 cs l) (hr : Kd.C (Kd.int .i64) w A l.length l) (hc : l.length ≤ c) : Calls Tryz.prog 6 #[.agg #[.int .i64 b, .int .i64 wd], .agg cs, .slice A l.length c] w (NewSays (newE g1 b l) w) := by
  rw [← newE_same h.hz]
  exact ref_New_says k b wd g2 cs A c l w h.hcs h.hone hr hc h.h2 (fun h0 => h.hb (h.hz.2 h0)) h.hmk
theorem p0 (h : Known k b wd g1 g2 cs l) (hE : newE g1 b l = 0) (hr : Kd.C (Kd.int .i64) w A l.length l) (hc : l.length ≤ c) : Calls Tryz.prog 5 #[.agg #[.int .i64 b, .int .i64 wd], .agg cs, .slice A l.length c] w (Yes w) := (pN A c w h hr hc).mono fun _ _ => says_yes hE
theorem r0 (h : Known k b wd g1 g2 cs l) (hE : newE g1 b l = 0) (hr : Kd.C (Kd.int .i64) w A l.length l) (hc : l.length ≤ c) : Calls Tryz.prog 6 #[.agg #[.int .i64 b, .int .i64 wd], .agg cs, .slice A l.length c] w (Yes w) := (rN A c w h hr hc).mono fun _ _ => says_yes hE
theorem p1 (h : Known k b wd g1 g2 cs l) (hE : newE g1 b l ≠ 0) (hr : Kd.C (Kd.int .i64) w A l.length l) (hc : l.length ≤ c) : Calls Tryz.prog 5 #[.agg #[.int .i64 b, .int .i64 wd], .agg cs, .slice A l.length c] w (No (newE g1 b l) w) := (pN A c w h hr hc).mono fun _ _ => says_no hE
theorem r1 (h : Known k b wd g1 g2 cs l) (hE : newE g1 b l ≠ 0) (hr : Kd.C (Kd.int .i64) w A l.length l) (hc : l.length ≤ c) : Calls Tryz.prog 6 #[.agg #[.int .i64 b, .int .i64 wd], .agg cs, .slice A l.length c] w (No (newE g1 b l) w) := (rN A c w h hr hc).mono fun _ _ => says_no hE
end
theorem bstep {n : Nat} {W0 A B : World} (h : Below n W0 A) (hn : n ≤ W0.heap.size) (hb : Below A.heap.size A B) : Below n W0 B := h.trans (hb.mono (Nat.le_trans hn h.size))
theorem meas2 {j n : Nat} (h : j < n) : n - (intOf (.int .i64 ((j + 1 : Nat) : Int))).toNat < n - (intOf (.int .i64 (j : Int))).toNat := by simp [intOf]; omega
theorem lt03 (a : Nat) : a < a + 1 + 1 + 1 := by omega
theorem lt13 (a : Nat) : a + 1 < a + 1 + 1 + 1 := by omega
theorem lt23 (a : Nat) : a + 1 + 1 < a + 1 + 1 + 1 := by omega
theorem le3 (a : Nat) : a ≤ a + 1 + 1 + 1 := by omega
theorem getD_set (ys l : List Int) (j : Nat) (v : Int) (h : ∀ n, j ≤ n → ys.getD n 0 = l.getD n 0) : ∀ n, j + 1 ≤ n → (ys.set j v).getD n 0 = l.getD n 0 := by
  intro n hn
  rw [← h n (by omega)]
  simp only [List.getD_eq_getElem?_getD]
  rw [List.getElem?_set_ne (by omega)]
theorem rdOf_rd (ys l : List Int) (j : Nat) (h : ∀ n, j ≤ n → ys.getD n 0 = l.getD n 0) : rdOf 0 ys (j : Int) = rd l (j : Int) := by
  have := h j (Nat.le_refl _)
  simp only [List.getD_eq_getElem?_getD] at this
  simp [rdOf, rd, this]
theorem aL8 {l : List Int} (h : l.length * 8 ≤ 140737488351232) : (([] : List Int).length + l.length) * 8 ≤ 140737488355328 := by simp; omega
theorem big {l : List Int} {j : Nat} (h : l.length * 8 ≤ 140737488351232) (hj : j < l.length) : j < 9223372036854775807 := by omega
theorem pos_of {l : List Int} {j : Nat} (hj : j < l.length) : 0 < l.length := by omega
theorem szcs {k : Nat} {b wd g1 g2 : Int} {cs : Array Value} {l : List Int} (h : Known k b wd g1 g2 cs l) : (Tryz.prog.info? 25).map (·.size) = some cs.size := by rw [h.hcs]; kernel_rfl
set_option maxHeartbeats 16000000 in
set_option maxRecDepth 100000 in
theorem play_true (k : Nat) (b wd g1 g2 : Int) (cs : Array Value) (A : Option Addr) (c : Nat) (l : List Int) (w : World) (hK : Known k b wd g1 g2 cs l) (hr : Kd.C (Kd.int .i64) w A l.length l) (hc : l.length ≤ c) :
    Calls Tryz.prog 4 #[.agg #[.int .i64 b, .int .i64 wd], .agg cs, .slice A l.length c, .agg cs, .slice A l.length c, .slice none 0 0, .int .i64 0, .int .i64 0] w fun e w' => e = .returned (.bool true) ∧ Below w.heap.size w w' := by
  have HKN := Aside0.mk hK
  have HR := Aside0.mk hr
  have HC := Aside0.mk hc
  clear hK hr hc
  obtain ⟨W0, hW0⟩ : ∃ W0, ((w.alloc (.cells #[.int .i64 b, .int .i64 wd] 23)).alloc (.cells cs 25)).alloc (.cells cs 25) = W0 := ⟨_, rfl⟩
  have hB0 : Below w.heap.size w W0 := hW0 ▸ below_alloc (below_alloc (below_alloc (Below.refl w.heap.size w) (.cells #[.int .i64 b, .int .i64 wd] 23)) (.cells cs 25)) (.cells cs 25)
  have hs0 : W0.heap.size = w.heap.size + 1 + 1 + 1 := by rw [← hW0]; simp only [World.size_alloc]
  have hi0 : W0.heap[w.heap.size]? = some (.cells #[.int .i64 b, .int .i64 wd] 23 (0, 0)) := by
    rw [← hW0, Below.heap_alloc _ _ _ (by simp only [World.size_alloc]; exact Nat.lt_of_lt_of_le (Nat.lt_succ_self _) (Nat.le_succ _)), Below.heap_alloc _ _ _ (by simp only [World.size_alloc]; exact Nat.lt_succ_self _)]
    exact heap_alloc_new _ _
  have hi1 : W0.heap[w.heap.size + 1]? = some (.cells cs 25 (0, 0)) := by
    rw [← hW0, Below.heap_alloc _ _ _ (by simp only [World.size_alloc]; exact Nat.lt_succ_self _)]
    have h := heap_alloc_new (w.alloc (.cells #[.int .i64 b, .int .i64 wd] 23)) (.cells cs 25)
    rwa [World.size_alloc] at h
  have hi2 : W0.heap[w.heap.size + 1 + 1]? = some (.cells cs 25 (0, 0)) := by
    rw [← hW0]
    have h := heap_alloc_new ((w.alloc (.cells #[.int .i64 b, .int .i64 wd] 23)).alloc (.cells cs 25)) (.cells cs 25)
    rwa [World.size_alloc, World.size_alloc] at h
  have HB0 := Aside0.mk hB0
  have HS0 := Aside0.mk hs0
  have HI0 := Aside0.mk hi0
  have HI1 := Aside0.mk hi1
  have HI2 := Aside0.mk hi2
  have HW0 := Aside0.mk hW0
  clear hB0 hs0 hi0 hi1 hi2 hW0
  by_cases hE : newE g1 b l = 0
  · have HE := Aside0.mk hE
    clear hE
    go_enter Tryz.func4, Tryz.ntmps4
    go_wp2_with (first
      | ((with_reducible refine gate_builtin (b := .append) (xs := #[.tmp 30, .tmp 31]) rfl ?_); at_builtin; rw [HW0.out]; refine Kd.R_append_rows (Kd.int .i64) (w0 := W0) (w.heap.size + 1 + 1 + 1) rfl (.tmp 30) (.tmp 31) 26 3 (.int .i64 0) 8 rfl Tryz.underlying26 info3 rfl (by decide) (by decide) (.slice none 0 0) ([] : List Int) l _ _ _ (fun _ => True) (fun _ => False) rfl rfl ?aO ?aR (fun _ _ h => h) (fun _ h => h.elim) ?aF ?aB ?aS ?aL ?_; (case aO => exact Kd.R_nil _ _ _ _ _); (case aR => exact Kd.C_below HR.out HB0.out); (case aF => exact (fun _ _ => trivial)); (case aB => exact Below.refl _ _); (case aS => exact Nat.le_of_eq HS0.out.symm); (case aL => exact aL8 HKN.out.hM); intro v wa ho hb hg hat; rw [List.nil_append] at ho; obtain ⟨Ai, ci, rfl⟩ := Kd.R_slice ho; have HBW := Aside0.mk hb; have HIN := Aside0.mk ho; clear ho hb hg hat)
      | (refine wpList_load_row rfl 23 (.tmp 8) rfl (w.heap.size) rfl 23 #[.int .i64 b, .int .i64 wd] (0, 0) _ ((HBW.out.block (w.heap.size) (lt03 _)).trans HI0.out) Tryz.underlying23 rfl (by kernel_rfl) ?_)
      | (refine wpList_load_row rfl 25 (.tmp 9) rfl (w.heap.size + 1) rfl 25 cs (0, 0) _ ((HBW.out.block (w.heap.size + 1) (lt13 _)).trans HI1.out) Tryz.underlying25 rfl (szcs HKN.out) ?_)
      | (refine wpList_load_row rfl 25 (.tmp 11) rfl (w.heap.size + 1 + 1) rfl 25 cs (0, 0) _ ((HBW.out.block (w.heap.size + 1 + 1) (lt23 _)).trans HI2.out) Tryz.underlying25 rfl (szcs HKN.out) ?_)
      | ((with_reducible refine gate_callee (f := 5) rfl ?_); refine goesL_ (some 37) rfl rfl Tryz.func5 (by kernel_rfl) rfl #[.agg #[.int .i64 b, .int .i64 wd], .agg cs, .slice Ai l.length ci] rfl (by (try simp only [List.map_toArray, List.map_cons, List.map_nil]); first | done | rfl) ?_; (with_reducible refine (p0 Ai ci _ HKN.out HE.out (Kd.R_reads' HIN.out).2.2 (Kd.R_reads' HIN.out).2.1).mono ?_); rintro e w37 ⟨q37, rfl, hb⟩; refine ⟨_, rfl, ?_⟩; have n0_ := Aside0.mk (bstep HBW.out (Nat.le_of_eq HS0.out.symm) hb); have n1_ := Aside0.mk (Kd.R_below HIN.out hb); clear HBW HIN hb; have HBW := n0_; have HIN := n1_; clear n0_ n1_)
      | ((with_reducible refine gate_callee (f := 6) rfl ?_); refine goesL_ (some 44) rfl rfl Tryz.func6 (by kernel_rfl) rfl #[.agg #[.int .i64 b, .int .i64 wd], .agg cs, .slice A l.length c] rfl (by (try simp only [List.map_toArray, List.map_cons, List.map_nil]); first | done | rfl) ?_; (with_reducible refine (r0 A c _ HKN.out HE.out (Kd.C_below HR.out (HB0.out.trans (HBW.out.mono (le3 _)))) HC.out).mono ?_); rintro e w44 ⟨q44, rfl, hb⟩; refine ⟨_, rfl, ?_⟩; have n0_ := Aside0.mk (bstep HBW.out (Nat.le_of_eq HS0.out.symm) hb); have n1_ := Aside0.mk (Kd.R_below HIN.out hb); clear HBW HIN hb; have HBW := n0_; have HIN := n1_; clear n0_ n1_)
      | ((with_reducible refine gate_callee (f := 5) rfl ?_); refine goesL_ (some 51) rfl rfl Tryz.func5 (by kernel_rfl) rfl #[.agg #[.int .i64 b, .int .i64 wd], .agg cs, .slice A l.length c] rfl (by (try simp only [List.map_toArray, List.map_cons, List.map_nil]); first | done | rfl) ?_; (with_reducible refine (p0 A c _ HKN.out HE.out (Kd.C_below HR.out (HB0.out.trans (HBW.out.mono (le3 _)))) HC.out).mono ?_); rintro e w51 ⟨q51, rfl, hb⟩; refine ⟨_, rfl, ?_⟩; have n0_ := Aside0.mk (bstep HBW.out (Nat.le_of_eq HS0.out.symm) hb); have n1_ := Aside0.mk (Kd.R_below HIN.out hb); clear HBW HIN hb; have HBW := n0_; have HIN := n1_; clear n0_ n1_)
      | ((with_reducible refine gate_callee (f := 6) rfl ?_); refine goesL_ (some 58) rfl rfl Tryz.func6 (by kernel_rfl) rfl #[.agg #[.int .i64 b, .int .i64 wd], .agg cs, .slice A l.length c] rfl (by (try simp only [List.map_toArray, List.map_cons, List.map_nil]); first | done | rfl) ?_; (with_reducible refine (r0 A c _ HKN.out HE.out (Kd.C_below HR.out (HB0.out.trans (HBW.out.mono (le3 _)))) HC.out).mono ?_); rintro e w58 ⟨q58, rfl, hb⟩; refine ⟨_, rfl, ?_⟩; have n0_ := Aside0.mk (bstep HBW.out (Nat.le_of_eq HS0.out.symm) hb); have n1_ := Aside0.mk (Kd.R_below HIN.out hb); clear HBW HIN hb; have HBW := n0_; have HIN := n1_; clear n0_ n1_))
    have HAi := Aside0.mk HIN.out
    go_loopw [26] (fun i W => ∃ (j : Nat) (ys : List Int), i = .int .i64 j ∧ j ≤ l.length ∧ Aside0 (ys.length = l.length) ∧ Aside0 (∀ n, j ≤ n → ys.getD n 0 = l.getD n 0) ∧ Aside0 (Kd.R (Kd.int .i64) 3 W (w.heap.size + 1 + 1 + 1) (fun _ => True) (.slice Ai l.length ci) ys) ∧ Aside0 (Below (w.heap.size + 1 + 1 + 1) W0 W)) (fun i _ => l.length - (intOf i).toNat)
    case atStart => exact ⟨0, l, rfl, Nat.zero_le _, ⟨rfl⟩, ⟨fun _ _ => rfl⟩, HIN, HBW⟩
    case round =>
      clear HBW HIN
      obtain ⟨j, ys, rfl, hj, HYL, HYS, HRW, HBW⟩ := hrel
      clear hj
      by_cases hlt : j < l.length
      · have hjl : decide ((j : Int) < (l.length : Int)) = true := dlt hlt
        have hj0 : (0 : Int) ≤ (j : Int) := Int.natCast_nonneg _
        have hj1 : (j : Int) < (l.length : Int) := Int.ofNat_lt.mpr hlt
        obtain ⟨ad, ead, hx⟩ := Kd.at_int (Kd.C_below HR.out (HB0.out.trans (HBW.out.mono (le3 _)))) (j : Int) hj0 hj1
        cases ead
        obtain ⟨g3, cap3, e3, hg3, hg3b, _⟩ := Kd.R_form HAi.out (pos_of hlt)
        injection e3 with ea en ec
        subst ea
        subst ec
        obtain ⟨hx3, hf3⟩ := Kd.R_celln 0 HRW.out (j : Int) hj0 hj1
        rw [rdOf_rd ys l j HYS.out] at hx3
        rw [Int.toNat_natCast] at hx hx3 hf3
        generalize rd l (j : Int) = x at hx hx3
        have hxx : (x != x) = false := by simp
        have hj0' := eq_true hj0
        have hj1' := eq_true hj1
        have HINC := Aside0.mk (inc j (big HKN.out.hM hlt))
        have HG3 := Aside0.mk hg3
        clear hg3 hg3b
        go_wp2
        go_quiet (fail)
        go_wp2
        exact ⟨⟨j + 1, ys.set j 1, by rw [HINC.out], hlt, ⟨by rw [List.length_set]; exact HYL.out⟩, ⟨getD_set ys l j 1 HYS.out⟩, ⟨by have h := Kd.R_putn (Kd.R_drewN HRW.out nq) (j : Int) 1; rw [Int.toNat_natCast] at h; exact h⟩, ⟨(pw_below_drewN HBW.out nq).setCell (p := ⟨g3, j, none⟩) (Nat.le_trans (le3 _) HG3.out |> fun _ => HG3.out) _⟩⟩, by rw [HINC.out]; exact meas2 hlt⟩
      · have hjl : decide ((j : Int) < (l.length : Int)) = false := dge hlt
        go_wp2
        clear hjl hlt
        have HBX := Aside0.mk (HB0.out.trans (HBW.out.mono (le3 _)))
        clear HBW HRW HYL HYS
        go_loop [27] (fun i => i = .int .i64 0) (fun _ => 0)
        case atStart => rfl
        case round =>
          subst hrel
          go_wp2
          go_ret
          exact ⟨rfl, HBX.out⟩
  · have HE := Aside0.mk hE
    clear hE
    go_enter Tryz.func4, Tryz.ntmps4
    go_wp2_with (first
      | ((with_reducible refine gate_builtin (b := .append) (xs := #[.tmp 30, .tmp 31]) rfl ?_); at_builtin; rw [HW0.out]; refine Kd.R_append_rows (Kd.int .i64) (w0 := W0) (w.heap.size + 1 + 1 + 1) rfl (.tmp 30) (.tmp 31) 26 3 (.int .i64 0) 8 rfl Tryz.underlying26 info3 rfl (by decide) (by decide) (.slice none 0 0) ([] : List Int) l _ _ _ (fun _ => True) (fun _ => False) rfl rfl ?aO ?aR (fun _ _ h => h) (fun _ h => h.elim) ?aF ?aB ?aS ?aL ?_; (case aO => exact Kd.R_nil _ _ _ _ _); (case aR => exact Kd.C_below HR.out HB0.out); (case aF => exact (fun _ _ => trivial)); (case aB => exact Below.refl _ _); (case aS => exact Nat.le_of_eq HS0.out.symm); (case aL => exact aL8 HKN.out.hM); intro v wa ho hb hg hat; rw [List.nil_append] at ho; obtain ⟨Ai, ci, rfl⟩ := Kd.R_slice ho; have HBW := Aside0.mk hb; have HIN := Aside0.mk ho; clear ho hb hg hat)
      | (refine wpList_load_row rfl 23 (.tmp 8) rfl (w.heap.size) rfl 23 #[.int .i64 b, .int .i64 wd] (0, 0) _ ((HBW.out.block (w.heap.size) (lt03 _)).trans HI0.out) Tryz.underlying23 rfl (by kernel_rfl) ?_)
      | (refine wpList_load_row rfl 25 (.tmp 9) rfl (w.heap.size + 1) rfl 25 cs (0, 0) _ ((HBW.out.block (w.heap.size + 1) (lt13 _)).trans HI1.out) Tryz.underlying25 rfl (szcs HKN.out) ?_)
      | (refine wpList_load_row rfl 25 (.tmp 11) rfl (w.heap.size + 1 + 1) rfl 25 cs (0, 0) _ ((HBW.out.block (w.heap.size + 1 + 1) (lt23 _)).trans HI2.out) Tryz.underlying25 rfl (szcs HKN.out) ?_)
      | ((with_reducible refine gate_callee (f := 5) rfl ?_); refine goesL_ (some 37) rfl rfl Tryz.func5 (by kernel_rfl) rfl #[.agg #[.int .i64 b, .int .i64 wd], .agg cs, .slice Ai l.length ci] rfl (by (try simp only [List.map_toArray, List.map_cons, List.map_nil]); first | done | rfl) ?_; (with_reducible refine (p1 Ai ci _ HKN.out HE.out (Kd.R_reads' HIN.out).2.2 (Kd.R_reads' HIN.out).2.1).mono ?_); rintro e w37 ⟨rfl, hb⟩; refine ⟨_, rfl, ?_⟩; have n0_ := Aside0.mk (bstep HBW.out (Nat.le_of_eq HS0.out.symm) hb); have n1_ := Aside0.mk (Kd.R_below HIN.out hb); clear HBW HIN hb; have HBW := n0_; have HIN := n1_; clear n0_ n1_)
      | ((with_reducible refine gate_callee (f := 6) rfl ?_); refine goesL_ (some 44) rfl rfl Tryz.func6 (by kernel_rfl) rfl #[.agg #[.int .i64 b, .int .i64 wd], .agg cs, .slice A l.length c] rfl (by (try simp only [List.map_toArray, List.map_cons, List.map_nil]); first | done | rfl) ?_; (with_reducible refine (r1 A c _ HKN.out HE.out (Kd.C_below HR.out (HB0.out.trans (HBW.out.mono (le3 _)))) HC.out).mono ?_); rintro e w44 ⟨rfl, hb⟩; refine ⟨_, rfl, ?_⟩; have n0_ := Aside0.mk (bstep HBW.out (Nat.le_of_eq HS0.out.symm) hb); have n1_ := Aside0.mk (Kd.R_below HIN.out hb); clear HBW HIN hb; have HBW := n0_; have HIN := n1_; clear n0_ n1_)
      | ((with_reducible refine gate_callee (f := 5) rfl ?_); refine goesL_ (some 51) rfl rfl Tryz.func5 (by kernel_rfl) rfl #[.agg #[.int .i64 b, .int .i64 wd], .agg cs, .slice A l.length c] rfl (by (try simp only [List.map_toArray, List.map_cons, List.map_nil]); first | done | rfl) ?_; (with_reducible refine (p1 A c _ HKN.out HE.out (Kd.C_below HR.out (HB0.out.trans (HBW.out.mono (le3 _)))) HC.out).mono ?_); rintro e w51 ⟨rfl, hb⟩; refine ⟨_, rfl, ?_⟩; have n0_ := Aside0.mk (bstep HBW.out (Nat.le_of_eq HS0.out.symm) hb); have n1_ := Aside0.mk (Kd.R_below HIN.out hb); clear HBW HIN hb; have HBW := n0_; have HIN := n1_; clear n0_ n1_)
      | ((with_reducible refine gate_callee (f := 6) rfl ?_); refine goesL_ (some 58) rfl rfl Tryz.func6 (by kernel_rfl) rfl #[.agg #[.int .i64 b, .int .i64 wd], .agg cs, .slice A l.length c] rfl (by (try simp only [List.map_toArray, List.map_cons, List.map_nil]); first | done | rfl) ?_; (with_reducible refine (r1 A c _ HKN.out HE.out (Kd.C_below HR.out (HB0.out.trans (HBW.out.mono (le3 _)))) HC.out).mono ?_); rintro e w58 ⟨rfl, hb⟩; refine ⟨_, rfl, ?_⟩; have n0_ := Aside0.mk (bstep HBW.out (Nat.le_of_eq HS0.out.symm) hb); have n1_ := Aside0.mk (Kd.R_below HIN.out hb); clear HBW HIN hb; have HBW := n0_; have HIN := n1_; clear n0_ n1_))
    have HAi := Aside0.mk HIN.out
    go_loopw [26] (fun i W => ∃ (j : Nat) (ys : List Int), i = .int .i64 j ∧ j ≤ l.length ∧ Aside0 (ys.length = l.length) ∧ Aside0 (∀ n, j ≤ n → ys.getD n 0 = l.getD n 0) ∧ Aside0 (Kd.R (Kd.int .i64) 3 W (w.heap.size + 1 + 1 + 1) (fun _ => True) (.slice Ai l.length ci) ys) ∧ Aside0 (Below (w.heap.size + 1 + 1 + 1) W0 W)) (fun i _ => l.length - (intOf i).toNat)
    case atStart => exact ⟨0, l, rfl, Nat.zero_le _, ⟨rfl⟩, ⟨fun _ _ => rfl⟩, HIN, HBW⟩
    case round =>
      clear HBW HIN
      obtain ⟨j, ys, rfl, hj, HYL, HYS, HRW, HBW⟩ := hrel
      clear hj
      by_cases hlt : j < l.length
      · have hjl : decide ((j : Int) < (l.length : Int)) = true := dlt hlt
        have hj0 : (0 : Int) ≤ (j : Int) := Int.natCast_nonneg _
        have hj1 : (j : Int) < (l.length : Int) := Int.ofNat_lt.mpr hlt
        obtain ⟨ad, ead, hx⟩ := Kd.at_int (Kd.C_below HR.out (HB0.out.trans (HBW.out.mono (le3 _)))) (j : Int) hj0 hj1
        cases ead
        obtain ⟨g3, cap3, e3, hg3, hg3b, _⟩ := Kd.R_form HAi.out (pos_of hlt)
        injection e3 with ea en ec
        subst ea
        subst ec
        obtain ⟨hx3, hf3⟩ := Kd.R_celln 0 HRW.out (j : Int) hj0 hj1
        rw [rdOf_rd ys l j HYS.out] at hx3
        rw [Int.toNat_natCast] at hx hx3 hf3
        generalize rd l (j : Int) = x at hx hx3
        have hxx : (x != x) = false := by simp
        have hj0' := eq_true hj0
        have hj1' := eq_true hj1
        have HINC := Aside0.mk (inc j (big HKN.out.hM hlt))
        have HG3 := Aside0.mk hg3
        clear hg3 hg3b
        go_wp2
        go_quiet (fail)
        go_wp2
        exact ⟨⟨j + 1, ys.set j 1, by rw [HINC.out], hlt, ⟨by rw [List.length_set]; exact HYL.out⟩, ⟨getD_set ys l j 1 HYS.out⟩, ⟨by have h := Kd.R_putn (Kd.R_drewN HRW.out nq) (j : Int) 1; rw [Int.toNat_natCast] at h; exact h⟩, ⟨(pw_below_drewN HBW.out nq).setCell (p := ⟨g3, j, none⟩) (Nat.le_trans (le3 _) HG3.out |> fun _ => HG3.out) _⟩⟩, by rw [HINC.out]; exact meas2 hlt⟩
      · have hjl : decide ((j : Int) < (l.length : Int)) = false := dge hlt
        go_wp2
        clear hjl hlt
        have HBX := Aside0.mk (HB0.out.trans (HBW.out.mono (le3 _)))
        clear HBW HRW HYL HYS
        go_loop [27] (fun i => i = .int .i64 0) (fun _ => 0)
        case atStart => rfl
        case round =>
          subst hrel
          go_wp2
          go_ret
          exact ⟨rfl, HBX.out⟩
set_option maxHeartbeats 8000000 in
set_option maxRecDepth 100000 in
theorem news_true (k : Nat) (b wd g1 g2 : Int) (cs : Array Value) (A : Option Addr) (c : Nat) (l : List Int) (w : World) (hK : Known k b wd g1 g2 cs l) (hr : Kd.C (Kd.int .i64) w A l.length l) (hc : l.length ≤ c) :
    Calls Tryz.prog 3 #[.agg #[.int .i64 b, .int .i64 wd], .agg cs, .slice A l.length c] w fun e w' => e = .returned (.bool true) ∧ Below w.heap.size w w' := by
  have HKN := Aside0.mk hK
  have HR := Aside0.mk hr
  have HC := Aside0.mk hc
  clear hK hr hc
  obtain ⟨W0, hW0⟩ : ∃ W0, (w.alloc (.cells #[.int .i64 b, .int .i64 wd] 23)).alloc (.cells cs 25) = W0 := ⟨_, rfl⟩
  have hB0 : Below w.heap.size w W0 := hW0 ▸ below_alloc (below_alloc (Below.refl w.heap.size w) (.cells #[.int .i64 b, .int .i64 wd] 23)) (.cells cs 25)
  have hi0 : ((w.alloc (.cells #[.int .i64 b, .int .i64 wd] 23)).alloc (.cells cs 25)).heap[w.heap.size]? = some (.cells #[.int .i64 b, .int .i64 wd] 23 (0, 0)) := by
    rw [Below.heap_alloc _ _ _ (by simp only [World.size_alloc]; exact Nat.lt_succ_self _)]
    exact heap_alloc_new _ _
  have hi1 : ((w.alloc (.cells #[.int .i64 b, .int .i64 wd] 23)).alloc (.cells cs 25)).heap[w.heap.size + 1]? = some (.cells cs 25 (0, 0)) := by
    have h := heap_alloc_new (w.alloc (.cells #[.int .i64 b, .int .i64 wd] 23)) (.cells cs 25)
    rwa [World.size_alloc] at h
  have HB0 := Aside0.mk hB0
  have HI0 := Aside0.mk hi0
  have HI1 := Aside0.mk hi1
  have HW0 := Aside0.mk hW0
  clear hB0 hi0 hi1 hW0
  go_enter Tryz.func3, Tryz.ntmps3
  go_wp2_with (first
    | (refine wpList_load_row rfl 23 (.tmp 3) rfl w.heap.size rfl 23 #[.int .i64 b, .int .i64 wd] (0, 0) _ HI0.out Tryz.underlying23 rfl (by kernel_rfl) ?_)
    | (refine wpList_load_row rfl 25 (.tmp 4) rfl (w.heap.size + 1) rfl 25 cs (0, 0) _ HI1.out Tryz.underlying25 rfl (szcs HKN.out) ?_)
    | ((with_reducible refine gate_callee (f := 4) rfl ?_); refine goesL_ (some 12) rfl rfl Tryz.func4 (by kernel_rfl) rfl #[.agg #[.int .i64 b, .int .i64 wd], .agg cs, .slice A l.length c, .agg cs, .slice A l.length c, .slice none 0 0, .int .i64 0, .int .i64 0] rfl (by (try simp only [List.map_toArray, List.map_cons, List.map_nil]); first | done | rfl) ?_; rw [HW0.out]; (with_reducible refine (play_true k b wd g1 g2 cs A c l _ HKN.out (Kd.C_below HR.out HB0.out) HC.out).mono ?_); rintro e w4 ⟨rfl, hb⟩; refine ⟨_, rfl, ?_⟩; have HBW := Aside0.mk (below_step HB0.out hb); clear hb))
  go_ret
  exact ⟨rfl, HBW.out⟩
end Go.Proofs.YtbmjcbbgjnfkfaaGreatDoor.P
