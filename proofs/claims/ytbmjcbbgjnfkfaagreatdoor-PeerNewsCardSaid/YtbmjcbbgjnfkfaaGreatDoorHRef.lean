/- torrentref17.New, walked: a connection or the error that says why not. -/
import Derived.Test.YtbmjcbbgjnfkfaaGreatDoorHNew
import Derived.Test.YtbmjcbbgjnfkfaaGreatDoorPx7
import Derived.Test.YtbmjcbbgjnfkfaaGreatDoorPx8
import Derived.Test.YtbmjcbbgjnfkfaaGreatDoorPx11
set_option linter.unusedVariables false
set_option linter.unusedSimpArgs false
namespace Go.Proofs.YtbmjcbbgjnfkfaaGreatDoor.P
open Go.RowKit Go.Proofs.YtbmjcbbgjnfkfaaGreatDoorW.PrintWords Go.Proofs.YtbmjcbbgjnfkfaaGreatDoorW.PrintLast Go.Proofs.YtbmjcbbgjnfkfaaGreatDoorW.PrintMore
theorem newcell (w : World) (cs : Array Value) (t : TypeId) (i : Nat) (v : Value) (h : cs[i]? = some v) : (w.alloc (.cells cs t)).cell? ⟨w.heap.size, i, none⟩ = some v := by
  have h2 := heap_alloc_new w (.cells cs t)
  simp only [World.cell?, h2]
  simpa using h
theorem Blk.setcell {n t : Nat} {W : World} {B : Nat} (h : Blk n t W B) (i : Nat) (hi : i < n) (v : Value) : (W.setCell ⟨B, i, none⟩ v).cell? ⟨B, i, none⟩ = some v := by
  obtain ⟨cells, h1, h2⟩ := h
  have h3 : (W.setCell ⟨B, i, none⟩ v).heap[B]? = some (.cells (cells.setIfInBounds i v) t (0, 0)) := by
    rw [World.setCell]
    simp [h1, Array.getElem?_modify]
  simp only [World.cell?, h3]
  simp [h2, hi]
theorem takelen {l : List Int} (j : Nat) (h : l.length ≤ 65536) : ((l.take j).length + 1) * 8 ≤ 140737488355328 := by
  rw [List.length_take]
  omega
theorem snoc_len (l : List Int) (j : Nat) (x : Int) : (List.take j l ++ [x]).length = min j l.length + 1 := by simp
theorem cell_form {W : World} {g n : Nat} {u : Value} (h : W.cell? (Addr.add ⟨g, 0, none⟩ n) = some u) : W.cell? ⟨g, n, none⟩ = some u := by
  have e : (Addr.add ⟨g, 0, none⟩ n) = ⟨g, n, none⟩ := by by_cases h0 : n = 0 <;> simp [Addr.add, h0]
  rwa [e] at h
theorem base2 {a b : Nat} (h : a + 1 + 1 ≤ b) : a ≤ b := by omega
theorem ge2 {a b : Nat} (h : a + 1 + 1 ≤ b) : a + 1 + 1 ≤ b := h
theorem le2 (a : Nat) : a ≤ a + 1 + 1 := by omega
theorem lt02 (a : Nat) : a < a + 1 + 1 := by omega
theorem lt12 (a : Nat) : a + 1 < a + 1 + 1 := by omega
set_option maxHeartbeats 8000000 in
set_option maxRecDepth 100000 in
theorem ref_New_says (k : Nat) (b wd g : Int) (cs : Array Value) (A : Option Addr) (c : Nat) (l : List Int) (w : World) (hcs : cs.size = 32) (hone : ∀ n, n < 32 → ∃ z : Int, cs[n]? = some (.int .u8 z))
    (hr : Kd.C (Kd.int .i64) w A l.length l) (hc : l.length ≤ c) (hg : torrentref1_Good.f k b wd = some g) (hb : g = 0 → 64 ≤ b ∧ b ≤ 16384) (hmk : l.length ≤ 65536 → ∃ r, torrentref4_Make.f k (l.length : Int) = some (r, 0)) :
    Calls Tryz.prog 6 #[.agg #[.int .i64 b, .int .i64 wd], .agg cs, .slice A l.length c] w (NewSays (newE g b l) w) := by
  have HR := Aside0.mk hr
  have HC := Aside0.mk hc
  have HG := Aside0.mk hg
  have HBB := Aside0.mk hb
  have HMK0 := Aside0.mk hmk
  have HCS := Aside0.mk (And.intro hcs hone)
  clear hr hc hg hb hmk hcs hone
  have HB0 := Aside0.mk (below_alloc (below_alloc (Below.refl w.heap.size w) (.cells #[.int .i64 b, .int .i64 wd] 23)) (.cells cs 25))
  by_cases h0 : g = 0
  · subst h0
    obtain ⟨hbl, hbh⟩ := HBB.out rfl
    have hgb : ((0 : Int) != 0) = false := rfl
    by_cases hlen : l.length ≤ 65536
    · have hl1 : decide ((65536 : Int) < (l.length : Int)) = false := decide_eq_false (by clear HB0 HR; omega)
      go_enter Tryz.func6, Tryz.ntmps6
      go_wp2_with (first | ((with_reducible refine gate_callee (f := 12) rfl ?_); refine goesL_ (some 15) rfl rfl Tryz.func12 (by kernel_rfl) rfl #[.agg #[.int .i64 b, .int .i64 wd]] rfl (by (try simp only [List.map_toArray, List.map_cons, List.map_nil]); first | done | rfl) ?_; (with_reducible refine (torrentref1_Good.calls k b wd _ _ HG.out).mono ?_); rintro e w1 ⟨rfl, hb1⟩; refine ⟨_, rfl, ?_⟩; have HB1 := Aside0.mk (below_step HB0.out hb1); have HX1 := Aside0.mk hb1; have hbx := (hb1.cell (p := ⟨w.heap.size, 0, none⟩) (by show w.heap.size < _; simp only [World.size_alloc]; exact lt2 (Nat.le_refl _))).trans (show _ = some (.int .i64 b) by go_simp); have hby := (hb1.cell (p := ⟨w.heap.size, 1, none⟩) (by show w.heap.size < _; simp only [World.size_alloc]; exact lt2 (Nat.le_refl _))).trans (show _ = some (.int .i64 wd) by go_simp); clear hb1))
      have hif : w1.heap[w.heap.size + 1]? = some (.cells cs 25 (0, 0)) := (HX1.out.block (w.heap.size + 1) (by simp only [World.size_alloc]; exact lt2' (Nat.le_refl _))).trans (by have h := heap_alloc_new (w.alloc (.cells #[.int .i64 b, .int .i64 wd] 23)) (.cells cs 25); rw [World.size_alloc] at h; exact h)
      have hs1 := HX1.out.size
      simp only [World.size_alloc] at hs1
      generalize hZ : World.alloc w1 (Obj.cells _ 64) = Z
      have hblk : Blk 34 64 Z w1.heap.size := hZ ▸ ⟨_, heap_alloc_new _ _, rfl⟩
      have h22 : Z.cell? ⟨w1.heap.size, 22, none⟩ = some (.slice none 0 0) := hZ ▸ newcell _ _ _ 22 _ rfl
      have hbz1 : Below w1.heap.size w1 Z := hZ ▸ below_alloc (Below.refl _ _) _
      obtain ⟨B, hB⟩ : ∃ B, w1.heap.size = B := ⟨_, rfl⟩
      have HBZ := Aside0.mk (hbz1.mono hs1)
      rw [hB] at hblk h22 hs1 ⊢
      have HS1 := Aside0.mk hs1
      have HBLK := Aside0.mk hblk
      have H22 := Aside0.mk h22
      have HBX := Aside0.mk hbx
      have HIF := Aside0.mk hif
      clear hZ hblk h22 hbz1 hs1 hbx hby hif hl1 hB HX1 HB0 HG hgb
      go_loopw [10] (fun i wr => ∃ (j : Nat) (v : Value), i = .int .i64 j ∧ j ≤ l.length ∧ Aside0 (fits b (l.take j)) ∧ Aside0 (Below (w.heap.size + 1 + 1) w1 wr) ∧ Aside0 (Blk 34 64 wr B) ∧ Aside0 (wr.cell? ⟨B, 22, none⟩ = some v) ∧ Aside0 (Kd.R (Kd.int .i64) 3 wr (w.heap.size + 1 + 1) (fun k => k ≠ B) v (l.take j))) (fun i _ => l.length - (intOf i).toNat)
      case atStart => exact ⟨0, .slice none 0 0, rfl, Nat.zero_le _, ⟨by intro x hx; simp at hx⟩, ⟨HBZ.out⟩, ⟨HBLK.out⟩, ⟨H22.out⟩, ⟨Kd.R_nil _ _ _ _ _⟩⟩
      case round =>
        obtain ⟨j, v, rfl, hj, HFT, HBEL, HBK, HV, HRW⟩ := hrel
        have HJ := Aside0.mk hj
        clear hj HBZ HBLK H22
        have HBW := Aside0.mk (HB1.out.trans (HBEL.out.mono (le2 _)))
        by_cases hlt : j < l.length
        · have hjl : decide ((j : Int) < (l.length : Int)) = true := dlt hlt
          have hj0 : (0 : Int) ≤ (j : Int) := Int.natCast_nonneg _
          have hj1 : (j : Int) < (l.length : Int) := Int.ofNat_lt.mpr hlt
          obtain ⟨ad, ead, hx⟩ := Kd.at_int (Kd.C_below HR.out HBW.out) (j : Int) hj0 hj1
          cases ead
          rw [Int.toNat_natCast] at hx
          have hj0' := eq_true hj0
          have hj1' := eq_true hj1
          have hin := rd_mem l j hlt
          have hsn : l.take (j + 1) = l.take j ++ [rd l (j : Int)] := take_rd l j hlt
          generalize rd l (j : Int) = x at hx hin hsn
          have hinc := inc j (Nat.lt_trans (Nat.lt_of_lt_of_le hlt hlen) (by decide))
          have hbx : wr.cell? ⟨w.heap.size, 0, none⟩ = some (.int .i64 b) := (HBEL.out.cell (p := ⟨w.heap.size, 0, none⟩) (lt02 _)).trans HBX.out
          have hwr : wrap64 (1024 * b) = 1024 * b := wr1024 hbl hbh
          have HK := Aside0.mk (And.intro hin (And.intro hsn (And.intro hinc (And.intro hwr (And.intro hbl hbh)))))
          clear hin hsn hinc
          by_cases hx1 : x < 1
          · have hx1' : decide (x < 1) = true := decide_eq_true hx1
            have hno : ¬ fits b l := fun h => absurd (h x HK.out.1).1 (Int.not_le.mpr hx1)
            clear hwr hbl hbh
            go_wp2
            repeat (go_quiet (fail); try go_wp2)
            go_ret2
            exact ⟨none, by unfold newE; rw [if_pos rfl, if_pos hlen, if_neg hno]; rfl, by unfold newE; rw [if_pos rfl, if_pos hlen, if_neg hno]; simp, by first | exact HBW.out | exact pw_below_drewN HBW.out _⟩
          · have hx1' : decide (x < 1) = false := decide_eq_false hx1
            by_cases hx2 : 1024 * b < x
            · have hx2' : decide (wrap64 (1024 * b) < x) = true := by rw [hwr]; exact decide_eq_true hx2
              have hx2'' : decide (1024 * b < x) = true := decide_eq_true hx2
              have hno : ¬ fits b l := fun h => absurd (h x HK.out.1).2 (Int.not_le.mpr hx2)
              clear hwr hbl hbh
              go_wp2
              repeat (go_quiet (fail); try go_wp2)
              go_ret2
              exact ⟨none, by unfold newE; rw [if_pos rfl, if_pos hlen, if_neg hno]; rfl, by unfold newE; rw [if_pos rfl, if_pos hlen, if_neg hno]; simp, by first | exact HBW.out | exact pw_below_drewN HBW.out _⟩
            · have hx2' : decide (wrap64 (1024 * b) < x) = false := by rw [hwr]; exact decide_eq_false hx2
              have hx2'' : decide (1024 * b < x) = false := decide_eq_false hx2
              have hfx : fits b (l.take (j + 1)) := by
                rw [HK.out.2.1]
                intro y hy
                rcases List.mem_append.1 hy with hy | hy
                · exact HFT.out y hy
                · have e : y = x := by simpa using hy
                  exact e ▸ ⟨Int.not_lt.mp hx1, Int.not_lt.mp hx2⟩
              have HF := Aside0.mk hfx
              clear hwr hfx hbl hbh
              go_wp2
              go_quiet (fail)
              go_wp2
              obtain ⟨wq, hq, f1, f2, f3, f4, f5⟩ : ∃ wq, wr.drewN nq = wq ∧ Below (w.heap.size + 1 + 1) w1 wq ∧ Blk 34 64 wq B ∧ wq.cell? ⟨B, 22, none⟩ = some v ∧ Kd.R (Kd.int .i64) 3 wq (w.heap.size + 1 + 1) (fun k => k ≠ B) v (l.take j) ∧ wq.cell? (ad.add j) = some (.int .i64 x) := ⟨_, rfl, pw_below_drewN HBEL.out _, HBK.out, HV.out, Kd.R_drewN HRW.out _, hx⟩
              rw [hq]
              clear hq
              obtain ⟨wd, hd, HF1, HF2, HF4⟩ : ∃ wd, wq.drew = wd ∧ Aside0 (Below (w.heap.size + 1 + 1) w1 wd) ∧ Aside0 (Blk 34 64 wd B) ∧ Aside0 (Kd.R (Kd.int .i64) 3 wd (w.heap.size + 1 + 1) (fun k => k ≠ B) v (l.take j)) := ⟨_, rfl, ⟨below_drew f1⟩, ⟨f2⟩, ⟨Kd.R_drew f4⟩⟩
              clear HBEL HBK HV HRW hx HBW hbx f1 f2 f4
              refine start_ (n := 14) (S := fun w' => w'.cell? ⟨B, 22, none⟩ = some v ∧ w'.cell? (ad.add j) = some (.int .i64 x)) (ds := [10, 13]) #[false, false, false, false, false, false, false, false, false, false, false, false, false, false] (by kernel_rfl) rfl rfl (⟨f3, f5⟩) (fun hHeld => ?_)
              rw [hd] at hHeld ⊢
              clear hd
              refine pure_ (i := 0) (N := some 45) (v := ?_) (a' := ?_) #[true, false, false, false, false, false, false, false, false, false, false, false, false, false] rfl rfl (by kernel_rfl) (fun _ _ _ h => h) (Or.inl ⟨by rfl, ?_⟩) ?_ ?_
              rotate_left
              · intro w'
                go_simp
                with_reducible rfl
              rotate_left
              · simp only [Act.put, List.setIfInBounds_toArray, List.set_cons_zero, List.set_cons_succ, i64_w, i32_w]
                rfl
              refine pure_ (i := 1) (N := some 46) (v := ?_) (a' := ?_) #[true, true, false, false, false, false, false, false, false, false, false, false, false, false] rfl rfl (by kernel_rfl) (fun _ _ _ h => h) (Or.inl ⟨by rfl, ?_⟩) ?_ ?_
              rotate_left
              · intro w'
                go_simp
                with_reducible rfl
              rotate_left
              · simp only [Act.put, List.setIfInBounds_toArray, List.set_cons_zero, List.set_cons_succ, i64_w, i32_w]
                rfl
              refine pure_ (i := 2) (N := some 47) (v := ?_) (a' := ?_) #[true, true, true, false, false, false, false, false, false, false, false, false, false, false] rfl rfl (by kernel_rfl) (fun _ _ _ h => h) (Or.inl ⟨by rfl, ?_⟩) ?_ ?_
              rotate_left
              · intro w'
                go_simp
                with_reducible rfl
              rotate_left
              · simp only [Act.put, List.setIfInBounds_toArray, List.set_cons_zero, List.set_cons_succ, i64_w, i32_w]
                rfl
              refine pure_ (i := 3) (N := some 48) (v := ?_) (a' := ?_) #[true, true, true, true, false, false, false, false, false, false, false, false, false, false] rfl rfl (by kernel_rfl) (fun _ _ _ h => h) (Or.inl ⟨by rfl, ?_⟩) ?_ ?_
              rotate_left
              · intro w'
                go_simp
                with_reducible rfl
              rotate_left
              · simp only [Act.put, List.setIfInBounds_toArray, List.set_cons_zero, List.set_cons_succ, i64_w, i32_w]
                rfl
              refine pure_ (i := 5) (N := some 50) (v := ?_) (a' := ?_) #[true, true, true, true, false, true, false, false, false, false, false, false, false, false] rfl rfl (by kernel_rfl) (fun _ _ _ h => h) (Or.inl ⟨by rfl, ?_⟩) ?_ ?_
              rotate_left
              · intro w'
                go_simp
                with_reducible rfl
              rotate_left
              · simp only [Act.put, List.setIfInBounds_toArray, List.set_cons_zero, List.set_cons_succ, i64_w, i32_w]
                rfl
              refine pure_ (i := 6) (N := some 51) (v := ?_) (a' := ?_) #[true, true, true, true, false, true, true, false, false, false, false, false, false, false] rfl rfl (by kernel_rfl) (fun _ _ _ h => h) (Or.inl ⟨by rfl, ?_⟩) ?_ ?_
              rotate_left
              · intro w'
                go_simp
                with_reducible rfl
              rotate_left
              · simp only [Act.put, List.setIfInBounds_toArray, List.set_cons_zero, List.set_cons_succ, i64_w, i32_w]
                rfl
              refine pure_ (i := 7) (N := some 52) (v := ?_) (a' := ?_) #[true, true, true, true, false, true, true, true, false, false, false, false, false, false] rfl rfl (by kernel_rfl) (fun _ _ _ h => h) (Or.inl ⟨by rfl, ?_⟩) ?_ ?_
              rotate_left
              · intro w'
                go_simp
                with_reducible rfl
              rotate_left
              · simp only [Act.put, List.setIfInBounds_toArray, List.set_cons_zero, List.set_cons_succ, i64_w, i32_w]
                rfl
              refine take_ (i := 4) (N := some 49) (v := ?_) (a' := ?_) #[true, true, true, true, true, true, true, true, false, false, false, false, false, false] rfl rfl (by kernel_rfl) (fun _ _ _ h => h) (Or.inl ⟨by rfl, ?_⟩) hHeld ?_ ?_
              rotate_left
              · intro w' s0
                obtain ⟨s1, s2⟩ := s0
                go_simp
                with_reducible rfl
              rotate_left
              · simp only [Act.put, List.setIfInBounds_toArray, List.set_cons_zero, List.set_cons_succ, i64_w, i32_w]
                rfl
              refine take_ (i := 8) (N := some 53) (v := ?_) (a' := ?_) #[true, true, true, true, true, true, true, true, true, false, false, false, false, false] rfl rfl (by kernel_rfl) (fun _ _ _ h => h) (Or.inl ⟨by rfl, ?_⟩) hHeld ?_ ?_
              rotate_left
              · intro w' s0
                obtain ⟨s1, s2⟩ := s0
                go_simp
                with_reducible rfl
              rotate_left
              · simp only [Act.put, List.setIfInBounds_toArray, List.set_cons_zero, List.set_cons_succ, i64_w, i32_w]
                rfl
              refine one_ (i := 9) (N := some 54) #[true, true, true, true, true, true, true, true, true, true, false, false, false, false] rfl rfl (by kernel_rfl) (by decide) (fun K hK => ?_)
              refine value_ (w1 := ?_) (v := ?_) (by rfl) rfl ?_ ?_
              rotate_left 2
              · go_simp
                constructor
                · rfl
                · rfl
              refine hK.out _ _ ⟨(World.cell?_alloc_lt _ _ _ (World.block_lt_of_cell? _ _ hHeld.1)).trans hHeld.1, (World.cell?_alloc_lt _ _ _ (World.block_lt_of_cell? _ _ hHeld.2)).trans hHeld.2⟩ (fun hHeld => ?_)
              clear hK K
              refine norm_ (a' := ?_) ?_ ?_
              rotate_left
              · show Act.put _ (some 54) _ = _
                simp only [Act.put, List.setIfInBounds_toArray, List.set_cons_zero, List.set_cons_succ, i64_w, i32_w]
                rfl
              refine last_ (i := 10) (N := some 55) #[true, true, true, true, true, true, true, true, true, true, true, false, false, false] rfl rfl (by kernel_rfl) (by decide) (fun K hK => ?_)
              refine Kd.R_append_step (Kd.int .i64) (w0 := w1) (w.heap.size + 1 + 1) (by rfl) (.tmp 49) (.tmp 54) 26 3 (.int .i64 0) 8 rfl Tryz.underlying26 info3 rfl (by decide) (by decide) v (l.take j) x [.int .i64 x] (fun k => k ≠ B) (fun _ => False) rfl rfl ?aP (fun _ hk => hk.elim) ?aF ?aO ?aB ?aS ?aL ?_
              (case aP => exact rfl)
              (case aF => exact fun k hk e => Nat.lt_irrefl _ (Nat.lt_of_lt_of_le (HF2.out.lt) (e ▸ hk)))
              (case aO => exact HF4.out)
              (case aB => exact HF1.out)
              (case aS => exact (Nat.le_trans HS1.out (Nat.le_of_lt HF2.out.lt)))
              (case aL => exact takelen j hlen)
              intro v2 w2 ho hb hg hat
              obtain ⟨A2, c2, rfl⟩ := Kd.R_slice ho
              have hBo : some B ≠ v.ownBlock := fun e => HF4.out.1 B e.symm rfl
              have hblk2 : w2.heap[B]? = wd.heap[B]? := hg.block B HF2.out.lt hBo
              have hk2 : Blk 34 64 w2 B := by obtain ⟨cells, h1, h2⟩ := HF2.out; exact ⟨cells, hblk2.trans h1, h2⟩
              obtain ⟨v22, hc22⟩ := hk2.cell 22 (by decide)
              have hf22 := hk2.frozen 22
              have HK2 := Aside0.mk hk2
              have HB2 := Aside0.mk hb
              have HO2 := Aside0.mk ho
              clear hk2 hb ho hg hat hBo hblk2 HF1 HF2 HF4 f3 f5 hHeld
              refine hK.out _ _ ?_
              clear hK K
              refine norm_ (a' := ?_) ?_ ?_
              rotate_left
              · show Act.put _ (some 55) _ = _
                simp only [Act.put, List.setIfInBounds_toArray, List.set_cons_zero, List.set_cons_succ, i64_w, i32_w]
                rfl
              refine pure_ (i := 11) (N := some 56) (v := ?_) (a' := ?_) #[true, true, true, true, true, true, true, true, true, true, true, true, false, false] rfl rfl (by kernel_rfl) (fun _ _ _ h => h) (Or.inl ⟨by rfl, ?_⟩) ?_ ?_
              rotate_left
              · intro w'
                go_simp
                with_reducible rfl
              rotate_left
              · simp only [Act.put, List.setIfInBounds_toArray, List.set_cons_zero, List.set_cons_succ, i64_w, i32_w]
                rfl
              refine pure_ (i := 12) (N := some 57) (v := ?_) (a' := ?_) #[true, true, true, true, true, true, true, true, true, true, true, true, true, false] rfl rfl (by kernel_rfl) (fun _ _ _ h => h) (Or.inl ⟨by rfl, ?_⟩) ?_ ?_
              rotate_left
              · intro w'
                go_simp
                with_reducible rfl
              rotate_left
              · simp only [Act.put, List.setIfInBounds_toArray, List.set_cons_zero, List.set_cons_succ, i64_w, i32_w]
                rfl
              refine last_ (i := 13) (N := none) #[true, true, true, true, true, true, true, true, true, true, true, true, true, true] rfl rfl (by kernel_rfl) (by decide) (fun K hK => ?_)
              refine skip_ (w1 := ?_) (by rfl) rfl ?_ ?_
              rotate_left
              · go_simp
                rfl
              refine hK.out _ _ ?_
              clear hK K
              refine done_ (by kernel_rfl) ?_
              go_wp2
              go_roundw
              case rel => exact ⟨j + 1, _, by first | rfl | rw [HK.out.2.2.1], hlt, HF, ⟨HB2.out.setCell (p := ⟨B, 22, none⟩) HS1.out _⟩, ⟨HK2.out.set 22 _⟩, ⟨HK2.out.setcell 22 (by decide) _⟩, ⟨by rw [HK.out.2.1]; have h := HO2.out; rw [snoc_len l j x] at h; exact Kd.R_far (p := ⟨B, 22, none⟩) h (fun k hk => hk) _⟩⟩
              case measure => first | exact meas hlt | (rw [HK.out.2.2.1]; exact meas hlt)
        · have hjl : decide ((j : Int) < (l.length : Int)) = false := dge hlt
          have hfl : fits b l := by
            have h := HFT.out
            rwa [List.take_of_length_le (Nat.le_of_not_lt hlt)] at h
          have HFL := Aside0.mk hfl
          clear hfl HFT HV HRW
          go_wp2
          have HIFW := Aside0.mk (fun (W : World) (h : Below (w.heap.size + 1 + 1) w1 W) => (h.block (w.heap.size + 1) (lt12 _)).trans HIF.out)
          clear HIF hjl hlt HJ HBX
          go_loopw [11] (fun i W => ∃ n : Nat, i = .int .i64 n ∧ n ≤ 20 ∧ Aside0 (Below (w.heap.size + 1 + 1) w1 W) ∧ Aside0 (Blk 34 64 W B)) (fun i _ => 20 - (intOf i).toNat)
          case atStart => exact ⟨0, rfl, Nat.zero_le _, ⟨HBEL.out⟩, ⟨HBK.out⟩⟩
          case round =>
            clear HBEL HBK HBW
            obtain ⟨n, rfl, hn, HBEL, HBK⟩ := hrel
            by_cases h20 : n < 20
            · have hn0 := eq_true (Int.natCast_nonneg n)
              have hn1 : ((n : Int) < 20) = True := eq_true (by clear hn; exact Int.ofNat_lt.mpr h20)
              have hn2 : ((n : Int) < 32) = True := eq_true (Int.lt_trans (Int.ofNat_lt.mpr h20) (by decide))
              obtain ⟨z, hz⟩ := HCS.out.2 n (Nat.lt_trans h20 (by decide))
              have hinfo := info_cell (HIFW.out wr HBEL.out) n _ hz
              have hinfo2 : wr.cell? ⟨w.heap.size + 1, n, none⟩ = some (.int .u8 z) := cell_form hinfo
              obtain ⟨vb, hvb⟩ := HBK.out.cell (2 + n) (Nat.lt_of_lt_of_le (Nat.add_lt_add_left h20 2) (by decide))
              have hfb := HBK.out.frozen (2 + n)
              have hinc := inc n (Nat.lt_trans h20 (by decide))
              have HINC := Aside0.mk hinc
              clear hinc hinfo hz
              go_wp2
              refine start_ (n := 9) (S := fun w' => w'.cell? ⟨w.heap.size + 1, n, none⟩ = some (.int .u8 z)) (ds := [8]) #[false, false, false, false, false, false, false, false, false] (by kernel_rfl) rfl rfl (hinfo2) (fun hHeld => ?_)
              refine pure_ (i := 0) (N := some 62) (v := ?_) (a' := ?_) #[true, false, false, false, false, false, false, false, false] rfl rfl (by kernel_rfl) (fun _ _ _ h => h) (Or.inl ⟨by rfl, ?_⟩) ?_ ?_
              rotate_left
              · intro w'
                go_simp
                with_reducible rfl
              rotate_left
              · simp only [Act.put, List.setIfInBounds_toArray, List.set_cons_zero, List.set_cons_succ, i64_w, i32_w]
                rfl
              refine pure_ (i := 1) (N := some 63) (v := ?_) (a' := ?_) #[true, true, false, false, false, false, false, false, false] rfl rfl (by kernel_rfl) (fun _ _ _ h => h) (Or.inl ⟨by rfl, ?_⟩) ?_ ?_
              rotate_left
              · intro w'
                go_simp
                with_reducible rfl
              rotate_left
              · simp only [Act.put, List.setIfInBounds_toArray, List.set_cons_zero, List.set_cons_succ, i64_w, i32_w]
                rfl
              refine pure_ (i := 2) (N := some 64) (v := ?_) (a' := ?_) #[true, true, true, false, false, false, false, false, false] rfl rfl (by kernel_rfl) (fun _ _ _ h => h) (Or.inl ⟨by rfl, ?_⟩) ?_ ?_
              rotate_left
              · intro w'
                go_simp
                with_reducible rfl
              rotate_left
              · simp only [Act.put, List.setIfInBounds_toArray, List.set_cons_zero, List.set_cons_succ, i64_w, i32_w]
                rfl
              refine pure_ (i := 3) (N := some 65) (v := ?_) (a' := ?_) #[true, true, true, true, false, false, false, false, false] rfl rfl (by kernel_rfl) (fun _ _ _ h => h) (Or.inl ⟨by rfl, ?_⟩) ?_ ?_
              rotate_left
              · intro w'
                go_simp
                with_reducible rfl
              rotate_left
              · simp only [Act.put, List.setIfInBounds_toArray, List.set_cons_zero, List.set_cons_succ, i64_w, i32_w]
                rfl
              refine take_ (i := 4) (N := some 66) (v := ?_) (a' := ?_) #[true, true, true, true, true, false, false, false, false] rfl rfl (by kernel_rfl) (fun _ _ _ h => h) (Or.inl ⟨by rfl, ?_⟩) hHeld ?_ ?_
              rotate_left
              · intro w' s0
                go_simp
                with_reducible rfl
              rotate_left
              · simp only [Act.put, List.setIfInBounds_toArray, List.set_cons_zero, List.set_cons_succ, i64_w, i32_w]
                rfl
              refine pure_ (i := 5) (N := some 67) (v := ?_) (a' := ?_) #[true, true, true, true, true, true, false, false, false] rfl rfl (by kernel_rfl) (fun _ _ _ h => h) (Or.inl ⟨by rfl, ?_⟩) ?_ ?_
              rotate_left
              · intro w'
                go_simp
                with_reducible rfl
              rotate_left
              · simp only [Act.put, List.setIfInBounds_toArray, List.set_cons_zero, List.set_cons_succ, i64_w, i32_w]
                rfl
              refine pure_ (i := 6) (N := some 68) (v := ?_) (a' := ?_) #[true, true, true, true, true, true, true, false, false] rfl rfl (by kernel_rfl) (fun _ _ _ h => h) (Or.inl ⟨by rfl, ?_⟩) ?_ ?_
              rotate_left
              · intro w'
                go_simp
                with_reducible rfl
              rotate_left
              · simp only [Act.put, List.setIfInBounds_toArray, List.set_cons_zero, List.set_cons_succ, i64_w, i32_w]
                rfl
              refine pure_ (i := 7) (N := some 69) (v := ?_) (a' := ?_) #[true, true, true, true, true, true, true, true, false] rfl rfl (by kernel_rfl) (fun _ _ _ h => h) (Or.inl ⟨by rfl, ?_⟩) ?_ ?_
              rotate_left
              · intro w'
                go_simp
                with_reducible rfl
              rotate_left
              · simp only [Act.put, List.setIfInBounds_toArray, List.set_cons_zero, List.set_cons_succ, i64_w, i32_w]
                rfl
              refine last_ (i := 8) (N := none) #[true, true, true, true, true, true, true, true, true] rfl rfl (by kernel_rfl) (by decide) (fun K hK => ?_)
              refine skip_ (w1 := ?_) (by rfl) rfl ?_ ?_
              rotate_left
              · go_simp
                rfl
              refine hK.out _ _ ?_
              clear hK K
              refine done_ (by kernel_rfl) ?_
              go_wp2
              exact ⟨⟨n + 1, by first | rfl | rw [HINC.out], h20, ⟨below_drew (HBEL.out.setCell (p := ⟨B, 2 + n, none⟩) HS1.out _)⟩, ⟨HBK.out.set (2 + n) _⟩⟩, by first | exact meas h20 | (rw [HINC.out]; exact meas h20)⟩
            · have hn1 : decide ((n : Int) < 20) = false := dge h20
              obtain ⟨rm, hrm⟩ := HMK0.out hlen
              have HMK := Aside0.mk hrm
              have HWB := Aside0.mk (base2 HS1.out)
              have HB5 := Aside0.mk (HB1.out.trans (HBEL.out.mono (le2 _)))
              clear hrm HMK0 HBEL hn
              go_wp2_with (first
                | ((with_reducible refine gate_callee (f := 13) rfl ?_); refine goesL_ (some 71) rfl rfl Tryz.func13 (by kernel_rfl) rfl #[.bool true] rfl (by (try simp only [List.map_toArray, List.map_cons, List.map_nil]); first | done | rfl) ?_; (with_reducible refine (torrentref10_New.calls true true [] 0 _ _ (Below.refl _ _) rfl).mono ?_); rintro e w6 ⟨g6, rfl, _, _, hb6⟩; refine ⟨_, rfl, ?_⟩
                   have hK6 : Blk 34 64 w6 B := Blk.below (by repeat (first | exact HBK.out | refine Blk.set ?_ _ _ | refine Blk.alloc ?_ _)) hb6
                   have HB6 := Aside0.mk (below_step (show Below w.heap.size w _ by repeat (first | exact HB5.out | refine Below.setCell (p := ⟨B, _, none⟩) ?_ HWB.out _ | refine below_alloc ?_ _)) hb6)
                   obtain ⟨v23, hc23⟩ := hK6.cell 23 (by decide)
                   obtain ⟨v27, hc27⟩ := hK6.cell 27 (by decide)
                   obtain ⟨v29, hc29⟩ := hK6.cell 29 (by decide)
                   have hf23 := hK6.frozen 23
                   have hf27 := hK6.frozen 27
                   have hf29 := hK6.frozen 29
                   have HK6 := Aside0.mk hK6
                   clear hK6 hb6 HB5 HBK)
                | ((with_reducible refine gate_callee (f := 14) rfl ?_); refine goesL_ (some 85) rfl rfl Tryz.func14 (by kernel_rfl) rfl #[.int .i64 (l.length : Int)] rfl (by (try simp only [List.map_toArray, List.map_cons, List.map_nil]); first | done | rfl) ?_; (with_reducible refine (torrentref4_Make.calls k (l.length : Int) _ _ _ HMK.out).mono ?_); rintro e w7 ⟨vm, rfl, hvm, hb7⟩; refine ⟨_, rfl, ?_⟩
                   obtain ⟨Am, cm, rfl⟩ := Kd.R_slice hvm
                   have hK7 : Blk 34 64 w7 B := Blk.below (by repeat (first | exact HK6.out | refine Blk.set ?_ _ _ | refine Blk.alloc ?_ _)) hb7
                   have HB7 := Aside0.mk (below_step (show Below w.heap.size w _ by repeat (first | exact HB6.out | refine Below.setCell (p := ⟨B, _, none⟩) ?_ HWB.out _ | refine below_alloc ?_ _)) hb7)
                   obtain ⟨v31, hc31⟩ := hK7.cell 31 (by decide)
                   have hf31 := hK7.frozen 31
                   clear hK7 hb7 hc23 hc27 hc29 hf23 hf27 hf29 HB6 HK6 hvm))
              go_ret2
              exact ⟨some ⟨B, 0, none⟩, by unfold newE; rw [if_pos rfl, if_pos hlen, if_pos HFL.out]; rfl, by unfold newE; rw [if_pos rfl, if_pos hlen, if_pos HFL.out]; simp, HB7.out.setCell (p := ⟨B, 31, none⟩) HWB.out _⟩
    · have hl1 : decide ((65536 : Int) < (l.length : Int)) = true := decide_eq_true (by omega)
      go_enter Tryz.func6, Tryz.ntmps6
      go_wp2_with (first | ((with_reducible refine gate_callee (f := 12) rfl ?_); refine goesL_ (some 15) rfl rfl Tryz.func12 (by kernel_rfl) rfl #[.agg #[.int .i64 b, .int .i64 wd]] rfl (by (try simp only [List.map_toArray, List.map_cons, List.map_nil]); first | done | rfl) ?_; (with_reducible refine (torrentref1_Good.calls k b wd _ _ HG.out).mono ?_); rintro e w1 ⟨rfl, hb1⟩; refine ⟨_, rfl, ?_⟩; have HB1 := Aside0.mk (below_step HB0.out hb1); have HX1 := Aside0.mk hb1; have hbx := (hb1.cell (p := ⟨w.heap.size, 0, none⟩) (by show w.heap.size < _; simp only [World.size_alloc]; exact lt2 (Nat.le_refl _))).trans (show _ = some (.int .i64 b) by go_simp); have hby := (hb1.cell (p := ⟨w.heap.size, 1, none⟩) (by show w.heap.size < _; simp only [World.size_alloc]; exact lt2 (Nat.le_refl _))).trans (show _ = some (.int .i64 wd) by go_simp); clear hb1))
      go_ret2
      exact ⟨none, by unfold newE; rw [if_pos rfl, if_neg hlen]; rfl, by unfold newE; rw [if_pos rfl, if_neg hlen]; simp, HB1.out⟩
  · have hgb : (g != 0) = true := by simpa using h0
    go_enter Tryz.func6, Tryz.ntmps6
    go_wp2_with (first | ((with_reducible refine gate_callee (f := 12) rfl ?_); refine goesL_ (some 15) rfl rfl Tryz.func12 (by kernel_rfl) rfl #[.agg #[.int .i64 b, .int .i64 wd]] rfl (by (try simp only [List.map_toArray, List.map_cons, List.map_nil]); first | done | rfl) ?_; (with_reducible refine (torrentref1_Good.calls k b wd _ _ HG.out).mono ?_); rintro e w1 ⟨rfl, hb1⟩; refine ⟨_, rfl, ?_⟩; have HB1 := Aside0.mk (below_step HB0.out hb1); have HX1 := Aside0.mk hb1; have hbx := (hb1.cell (p := ⟨w.heap.size, 0, none⟩) (by show w.heap.size < _; simp only [World.size_alloc]; exact lt2 (Nat.le_refl _))).trans (show _ = some (.int .i64 b) by go_simp); have hby := (hb1.cell (p := ⟨w.heap.size, 1, none⟩) (by show w.heap.size < _; simp only [World.size_alloc]; exact lt2 (Nat.le_refl _))).trans (show _ = some (.int .i64 wd) by go_simp); clear hb1))
    go_ret2
    exact ⟨none, by unfold newE; rw [if_neg h0]; rfl, by unfold newE; rw [if_neg h0]; simp, HB1.out⟩
end Go.Proofs.YtbmjcbbgjnfkfaaGreatDoor.P
