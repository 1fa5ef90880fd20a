/-
  The reference's Change, of two fields that are right and of one side.
-/
import Derived.Test.YtomildjihlbbmaaChg
namespace Go.Proofs.Ytomildjihlbbmaa
open Go.RowKit Flt Num Go.Proofs.YtomildjihlbbmaaW.PrintWords Go.Proofs.YtomildjihlbbmaaW.PrintLast Go.Proofs.YtomildjihlbbmaaW.PrintMore Go.Proofs.Ytomildjihlbbmaa.PPackUnpacks
set_option linter.unusedVariables false
set_option linter.unusedSimpArgs false
attribute [local go_sem] run_f64bits run_f64from run_f32bits run_f32from
/-- the state of the loop of the reference's Change -/
structure RChgS (H hb N : Nat) (A A' : Option Addr) (c c' : Nat) (L L' : List (Nat × Nat)) (w wr : World) (i : Nat) (v : Value) : Prop where
  below : Below H w wr
  f : wr.heap[H]? = some (.cells #[.int .i64 N, .slice A L.length c] 26)
  g : wr.heap[H + 1]? = some (.cells #[.int .i64 N, .slice A' L'.length c'] 26)
  res : wr.heap[H + 1 + 1]? = some (.cells #[.int .i64 0, .slice none 0 0] 26)
  h : wr.heap[hb]? = some (.cells #[.int .i64 N, v] 26)
  row : kc.R 42 wr H (fun _ => True) v ((xorL L L').take i)
  hb : H + 1 + 1 < hb
theorem RChgS.drew {H hb N : Nat} {A A' : Option Addr} {c c' : Nat} {L L' : List (Nat × Nat)} {w wr : World} {i : Nat} {v : Value} (h : RChgS H hb N A A' c c' L L' w wr i v) (n : Nat) : RChgS H hb N A A' c c' L L' w (wr.drewN n) i v :=
  { below := below_drewN h.below n, f := h.f, g := h.g, res := h.res, h := h.h, row := Kd.R_drewN h.row n, hb := h.hb }
theorem xor_take {L L' : List (Nat × Nat)} (hl : L'.length = L.length) {i : Nat} (hi : i < L.length) : (xorL L L').take i ++ [((L.getD i (0, 0)).1 ^^^ (L'.getD i (0, 0)).1, (L.getD i (0, 0)).2 ^^^ (L'.getD i (0, 0)).2)] = (xorL L L').take (i + 1) := by
  have hx : (xorL L L').length = L.length := xorL_len hl
  rw [List.take_succ_eq_append_getElem (by omega)]
  congr 2
  unfold xorL
  rw [List.getElem_zipWith]
  simp [List.getD, hi, show i < L'.length by omega, xorC]
theorem RChgS.next {H hb N : Nat} {A A' : Option Addr} {c c' : Nat} {L L' : List (Nat × Nat)} {w wr w8 : World} {i : Nat} {v v8 : Value} {x : Nat × Nat} (h : RChgS H hb N A A' c c' L L' w wr i v) (hx : (xorL L L').take i ++ [x] = (xorL L L').take (i + 1))
    (hr : kc.R 42 w8 H (fun _ => True) v8 ((xorL L L').take i ++ [x])) (hB : Below H w w8) (hg : wr.grownBy w8 v.ownBlock) : RChgS H hb N A A' c c' L L' w (w8.setCell ⟨hb, 1, none⟩ v8) (i + 1) v8 := by
  have hhb := h.hb
  have mv : ∀ {k : Nat} {cells : Array Value}, wr.heap[k]? = some (.cells cells 26 (0, 0)) → w8.heap[k]? = some (.cells cells 26 (0, 0)) := fun {k cells} hk => (hg.block k (blk_lt hk) (Kd.R_ne h.row hk (by decide))).trans hk
  have hf := mv h.h
  rw [hx] at hr
  exact
    { below := hB.setCell (show H ≤ hb by omega) _
      f := (Below.heap_setCell w8 ⟨hb, 1, none⟩ _ _ (show H ≠ hb by omega)).trans (mv h.f)
      g := (Below.heap_setCell w8 ⟨hb, 1, none⟩ _ _ (show H + 1 ≠ hb by omega)).trans (mv h.g)
      res := (Below.heap_setCell w8 ⟨hb, 1, none⟩ _ _ (show H + 1 + 1 ≠ hb by omega)).trans (mv h.res)
      h := by rw [setCell_eq_setRow w8 hb 1 _ 26 (0, 0) _ hf, setRow_heap w8 hb _ _ 26 (0, 0) hf]; rfl
      row := Kd.R_set hr hf (by decide) 1 _
      hb := hhb }
set_option maxHeartbeats 8000000 in
set_option maxRecDepth 100000 in
theorem rchange_any (N : Nat) (hN : 1 ≤ N ∧ N ≤ 64) (A A' : Option Addr) (c c' : Nat) (L L' : List (Nat × Nat)) (hL : L.length = N * N) (hL' : L'.length = N * N) (hW : Words L) (hW' : Words L') (w : World) (hA : kc.C w A L.length L) (hA' : kc.C w A' L'.length L') :
    Calls Try.prog 57 #[.agg #[.int .i64 N, .slice A L.length c], .agg #[.int .i64 N, .slice A' L'.length c']] w fun e w' => ∃ B cb, e = .returned (.tuple #[.agg #[.int .i64 N, .slice B (xorL L L').length cb], .int .i64 0]) ∧ Below w.heap.size w w' ∧ kc.R 42 w' w.heap.size (fun _ => True) (.slice B (xorL L L').length cb) (xorL L L') := by
  have HN := Lib.hid hN
  have HL := Lib.hid hL
  have HL' := Lib.hid hL'
  have HLL := Lib.hid (hL'.trans hL.symm)
  have HL4 := Lib.hid (show L.length ≤ 4096 by rw [hL]; exact Nat.mul_le_mul hN.2 hN.2)
  have HW := Lib.hid hW
  have HW' := Lib.hid hW'
  have HA := Lib.hid hA
  have HA' := Lib.hid hA'
  have hne1 : decide ((N : Int) = (N : Int)) = true := decide_eq_true rfl
  have hne2 : ((N : Int) == (N : Int)) = true := beq_self_eq_true _
  have hne3 : ((N : Int) != (N : Int)) = false := by rw [bne, hne2]; rfl
  clear hN hL hL' hW hW' hA hA'
  go_enter Try.func57, Try.ntmps57
  obtain ⟨w1, hw1⟩ : ∃ w1 : World, w1 = ((w.alloc (.cells #[.int .i64 N, .slice A L.length c] 26)).alloc (.cells #[.int .i64 N, .slice A' L'.length c'] 26)).alloc (.cells #[.int .i64 0, .slice none 0 0] 26) := ⟨_, rfl⟩
  have HB1 := Lib.hid (show Below w.heap.size w w1 by rw [hw1]; exact below_alloc (below_alloc (below_alloc (Below.refl _ _) _) _) _)
  have HX1 := Lib.hid (show w1.heap[w.heap.size]? = some (.cells #[.int .i64 N, .slice A L.length c] 26) by rw [hw1]; exact blk_below (heap_alloc2_old w _ _) (below_alloc (Below.refl _ _) _))
  have HY1 := Lib.hid (show w1.heap[w.heap.size + 1]? = some (.cells #[.int .i64 N, .slice A' L'.length c'] 26) by rw [hw1]; exact blk_below (heap_alloc2_new w _ _) (below_alloc (Below.refl _ _) _))
  have HZ1 := Lib.hid (show w1.heap[w.heap.size + 1 + 1]? = some (.cells #[.int .i64 0, .slice none 0 0] 26) by rw [hw1]; exact heap_alloc_new' _ _ _ (by rw [World.size_alloc, World.size_alloc]))
  have HW1 := Lib.hid hw1.symm
  clear hw1
  go_wp2_with (first | (rw [HW1.out]; (with_reducible refine gate_dst (N := 10) rfl ?_); refine load_grid rfl (.tmp 2) rfl (g := w.heap.size) ?hx (u := .int .i64 N) (v := .slice A L.length c) HX1.out ?_; (case hx => go_simp)))
  refine (rright_yes N L.length HN.out HL.out A c _).mono ?_
  rintro e w2 ⟨rfl, hb2⟩
  have HD2 := Lib.hid (HB1.out.trans (hb2.mono (HB1.out.size)))
  have HX2 := Lib.hid (blk_below HX1.out hb2)
  have HY2 := Lib.hid (blk_below HY1.out hb2)
  have HZ2 := Lib.hid (blk_below HZ1.out hb2)
  clear hb2
  go_wp2_with (first | ((with_reducible refine gate_dst (N := 14) rfl ?_); refine gate_guard ?hgd ?_; (case hgd => go_simp); refine load_grid rfl (.tmp 3) rfl (g := w.heap.size + 1) ?hx (u := .int .i64 N) (v := .slice A' L'.length c') HY2.out ?_; (case hx => go_simp)))
  refine (rright_yes N L'.length HN.out HL'.out A' c' _).mono ?_
  rintro e w3 ⟨rfl, hb3⟩
  have HD3 := Lib.hid (HD2.out.trans (hb3.mono (HD2.out.size)))
  have HX3 := Lib.hid (blk_below HX2.out hb3)
  have HY3 := Lib.hid (blk_below HY2.out hb3)
  have HZ3 := Lib.hid (blk_below HZ2.out hb3)
  obtain ⟨x1, x2, x3, x4⟩ := two_cells HX3.out
  obtain ⟨y1, y2, y3, y4⟩ := two_cells HY3.out
  clear hb3
  go_wp2_with fail
  obtain ⟨hb, hhb⟩ : ∃ hb : Nat, hb = w3.heap.size := ⟨_, rfl⟩
  rw [← hhb]
  obtain ⟨w4, hw4⟩ : ∃ w4 : World, w4 = w3.alloc (.cells #[.int .i64 N, .slice none 0 0] 26) := ⟨_, rfl⟩
  rw [← hw4]
  have HS0 := Lib.hid (show RChgS w.heap.size hb N A A' c c' L L' w w4 0 (.slice none 0 0) from
    { below := by rw [hw4]; exact HD3.out.alloc HD3.out.size _
      f := by rw [hw4]; exact blk_below HX3.out (below_alloc (Below.refl _ _) _)
      g := by rw [hw4]; exact blk_below HY3.out (below_alloc (Below.refl _ _) _)
      res := by rw [hw4]; exact blk_below HZ3.out (below_alloc (Below.refl _ _) _)
      h := by rw [hw4, hhb]; exact heap_alloc_new w3 _
      row := Kd.R_nil _ _ _ _ _
      hb := by rw [hhb]; exact blk_lt HZ3.out })
  clear hw4 hhb x1 x2 x3 x4 y1 y2 y3 y4
  go_loopg [7] (L.length + 1) (fun gk v7 wr => ∃ (i : Nat) (v : Value), v7 = .int .i64 (i : Int) ∧ Hid (i + gk = L.length + 1) ∧ Hid (i ≤ L.length) ∧ Hid (RChgS w.heap.size hb N A A' c c' L L' w wr i v))
  case atStart => exact ⟨0, _, rfl, Lib.hid (by omega), Lib.hid (by omega), HS0⟩
  case round =>
    obtain ⟨i, v, rfl, hg, hi, hS⟩ := hrel
    clear HS0
    obtain ⟨x1, x2, x3, x4⟩ := two_cells hS.out.f
    by_cases hlt : i < L.length
    · have hlt' : (i : Int) < (L.length : Int) := by omega
      have hlt2 : (i : Int) < (L'.length : Int) := by have := HLL.out; omega
      have hnn : (0 : Int) ≤ (i : Int) := by omega
      obtain ⟨AV, cv, hv⟩ := Kd.R_slice hS.out.row
      have hil : ((xorL L L').take i).length = i := by rw [List.length_take, xorL_len HLL.out]; omega
      have HIL := Lib.hid hil
      rw [hil] at hv
      subst hv
      obtain ⟨ad, hA1, hcell⟩ := at_kc (Kd.C_below HA.out hS.out.below) i hlt
      subst hA1
      obtain ⟨bd, hA2, hcell2⟩ := at_kc (Kd.C_below HA'.out hS.out.below) i (by have := HLL.out; omega)
      subst hA2
      obtain ⟨⟨p1, p2⟩, hp⟩ : ∃ v : Nat × Nat, v = L.getD i (0, 0) := ⟨_, rfl⟩
      obtain ⟨⟨q1, q2⟩, hq⟩ : ∃ v : Nat × Nat, v = L'.getD i (0, 0) := ⟨_, rfl⟩
      have HPW := Lib.hid (words_at HW.out hlt)
      have HQW := Lib.hid (words_at HW'.out (show i < L'.length by have := HLL.out; omega))
      have HXT := Lib.hid (xor_take HLL.out hlt)
      rw [← hp] at hcell HPW HXT
      rw [← hq] at hcell2 HQW HXT
      clear hp hq hil
      dsimp only at hcell hcell2 HPW HQW HXT
      have hx1 : bits .xor .u64 (p1 : Int) (q1 : Int) = ((p1 ^^^ q1 : Nat) : Int) := u64_xor_nat p1 q1 HPW.out.1 HQW.out.1
      have hx2 : bits .xor .u64 (p2 : Int) (q2 : Int) = ((p2 ^^^ q2 : Nat) : Int) := u64_xor_nat p2 q2 HPW.out.2 HQW.out.2
      have hi1 : wrap64 ((i : Int) + 1) = ((i + 1 : Nat) : Int) := wrap64_id (by have := HL4.out; omega) (by have := HL4.out; omega)
      have HI1 := Lib.hid hi1
      have HL16 := Lib.hid (show (((xorL L L').take i).length + 1) * 16 ≤ 140737488355328 by have := HIL.out; have := HL4.out; omega)
      clear hi1
      go_upto_region 7 with (fail)
      refine start_ (n := 16) (S := fun w' => w'.cell? ⟨w.heap.size, 1, none⟩ = some (.slice (some ad) L.length c) ∧ w'.cell? ⟨w.heap.size + 1, 1, none⟩ = some (.slice (some bd) L'.length c') ∧ w'.cell? (ad.add i) = some (.complex .f64 p1 p2) ∧ w'.cell? (bd.add i) = some (.complex .f64 q1 q2)) (ds := []) #[false, false, false, false, false, false, false, false, false, false, false, false, false, false, false, false] (by kernel_rfl) rfl rfl ⟨(two_cells hS.out.f).2.1, (two_cells hS.out.g).2.1, hcell, hcell2⟩ (fun hHeld => ?_)
      refine pure_ (i := 0) (N := some 36) (v := ?_) (a' := ?_) #[true, false, false, false, false, false, false, false, false, false, false, false, false, false, false, false] rfl rfl (by kernel_rfl) (fun _ _ _ h => h) (Or.inl ⟨by rfl, ?_⟩) ?_ ?_
      rotate_left
      · intro w'
        go_simp
        with_reducible rfl
      rotate_left
      · simp only [Act.put, List.setIfInBounds_toArray, List.set_cons_zero, List.set_cons_succ, i64_w, i32_w]
        rfl
      refine pure_ (i := 2) (N := some 38) (v := ?_) (a' := ?_) #[true, false, true, false, false, false, false, false, false, false, false, false, false, false, false, false] rfl rfl (by kernel_rfl) (fun _ _ _ h => h) (Or.inl ⟨by rfl, ?_⟩) ?_ ?_
      rotate_left
      · intro w'
        go_simp
        with_reducible rfl
      rotate_left
      · simp only [Act.put, List.setIfInBounds_toArray, List.set_cons_zero, List.set_cons_succ, i64_w, i32_w]
        rfl
      refine pure_ (i := 7) (N := some 43) (v := ?_) (a' := ?_) #[true, false, true, false, false, false, false, true, false, false, false, false, false, false, false, false] rfl rfl (by kernel_rfl) (fun _ _ _ h => h) (Or.inl ⟨by rfl, ?_⟩) ?_ ?_
      rotate_left
      · intro w'
        go_simp
        with_reducible rfl
      rotate_left
      · simp only [Act.put, List.setIfInBounds_toArray, List.set_cons_zero, List.set_cons_succ, i64_w, i32_w]
        rfl
      refine pure_ (i := 9) (N := some 45) (v := ?_) (a' := ?_) #[true, false, true, false, false, false, false, true, false, true, false, false, false, false, false, false] rfl rfl (by kernel_rfl) (fun _ _ _ h => h) (Or.inl ⟨by rfl, ?_⟩) ?_ ?_
      rotate_left
      · intro w'
        go_simp
        with_reducible rfl
      rotate_left
      · simp only [Act.put, List.setIfInBounds_toArray, List.set_cons_zero, List.set_cons_succ, i64_w, i32_w]
        rfl
      refine take_ (i := 1) (N := some 37) (v := ?_) (a' := ?_) #[true, true, true, false, false, false, false, true, false, true, false, false, false, false, false, false] rfl rfl (by kernel_rfl) (fun _ _ _ h => h) (Or.inl ⟨by rfl, ?_⟩) hHeld ?_ ?_
      rotate_left
      · rintro w' ⟨s0, s1, s2, s3⟩
        go_simp
        with_reducible rfl
      rotate_left
      · simp only [Act.put, List.setIfInBounds_toArray, List.set_cons_zero, List.set_cons_succ, i64_w, i32_w]
        rfl
      refine pure_ (i := 3) (N := some 39) (v := ?_) (a' := ?_) #[true, true, true, true, false, false, false, true, false, true, false, false, false, false, false, false] rfl rfl (by kernel_rfl) (fun _ _ _ h => h) (Or.inl ⟨by rfl, ?_⟩) ?_ ?_
      rotate_left
      · intro w'
        go_simp
        with_reducible rfl
      rotate_left
      · simp only [Act.put, List.setIfInBounds_toArray, List.set_cons_zero, List.set_cons_succ, i64_w, i32_w]
        rfl
      refine take_ (i := 4) (N := some 40) (v := ?_) (a' := ?_) #[true, true, true, true, true, false, false, true, false, true, false, false, false, false, false, false] rfl rfl (by kernel_rfl) (fun _ _ _ h => h) (Or.inl ⟨by rfl, ?_⟩) hHeld ?_ ?_
      rotate_left
      · rintro w' ⟨s0, s1, s2, s3⟩
        go_simp
        with_reducible rfl
      rotate_left
      · simp only [Act.put, List.setIfInBounds_toArray, List.set_cons_zero, List.set_cons_succ, i64_w, i32_w]
        rfl
      refine pure_ (i := 5) (N := some 41) (v := ?_) (a' := ?_) #[true, true, true, true, true, true, false, true, false, true, false, false, false, false, false, false] rfl rfl (by kernel_rfl) (fun _ _ _ h => h) (Or.inl ⟨by rfl, ?_⟩) ?_ ?_
      rotate_left
      · intro w'
        go_simp
        with_reducible rfl
      rotate_left
      · simp only [Act.put, List.setIfInBounds_toArray, List.set_cons_zero, List.set_cons_succ, i64_w, i32_w]
        rfl
      refine pure_ (i := 6) (N := some 42) (v := ?_) (a' := ?_) #[true, true, true, true, true, true, true, true, false, true, false, false, false, false, false, false] rfl rfl (by kernel_rfl) (fun _ _ _ h => h) (Or.inl ⟨by rfl, ?_⟩) ?_ ?_
      rotate_left
      · intro w'
        go_simp
        with_reducible rfl
      rotate_left
      · simp only [Act.put, List.setIfInBounds_toArray, List.set_cons_zero, List.set_cons_succ, i64_w, i32_w]
        rfl
      refine take_ (i := 8) (N := some 44) (v := ?_) (a' := ?_) #[true, true, true, true, true, true, true, true, true, true, false, false, false, false, false, false] rfl rfl (by kernel_rfl) (fun _ _ _ h => h) (Or.inl ⟨by rfl, ?_⟩) hHeld ?_ ?_
      rotate_left
      · rintro w' ⟨s0, s1, s2, s3⟩
        go_simp
        with_reducible rfl
      rotate_left
      · simp only [Act.put, List.setIfInBounds_toArray, List.set_cons_zero, List.set_cons_succ, i64_w, i32_w]
        rfl
      refine pure_ (i := 10) (N := some 46) (v := ?_) (a' := ?_) #[true, true, true, true, true, true, true, true, true, true, true, false, false, false, false, false] rfl rfl (by kernel_rfl) (fun _ _ _ h => h) (Or.inl ⟨by rfl, ?_⟩) ?_ ?_
      rotate_left
      · intro w'
        go_simp
        with_reducible rfl
      rotate_left
      · simp only [Act.put, List.setIfInBounds_toArray, List.set_cons_zero, List.set_cons_succ, i64_w, i32_w]
        rfl
      refine take_ (i := 11) (N := some 47) (v := ?_) (a' := ?_) #[true, true, true, true, true, true, true, true, true, true, true, true, false, false, false, false] rfl rfl (by kernel_rfl) (fun _ _ _ h => h) (Or.inl ⟨by rfl, ?_⟩) hHeld ?_ ?_
      rotate_left
      · rintro w' ⟨s0, s1, s2, s3⟩
        go_simp
        with_reducible rfl
      rotate_left
      · simp only [Act.put, List.setIfInBounds_toArray, List.set_cons_zero, List.set_cons_succ, i64_w, i32_w]
        rfl
      refine pure_ (i := 12) (N := some 48) (v := ?_) (a' := ?_) #[true, true, true, true, true, true, true, true, true, true, true, true, true, false, false, false] rfl rfl (by kernel_rfl) (fun _ _ _ h => h) (Or.inl ⟨by rfl, ?_⟩) ?_ ?_
      rotate_left
      · intro w'
        go_simp
        with_reducible rfl
      rotate_left
      · simp only [Act.put, List.setIfInBounds_toArray, List.set_cons_zero, List.set_cons_succ, i64_w, i32_w]
        rfl
      refine pure_ (i := 13) (N := some 49) (v := ?_) (a' := ?_) #[true, true, true, true, true, true, true, true, true, true, true, true, true, true, false, false] rfl rfl (by kernel_rfl) (fun _ _ _ h => h) (Or.inl ⟨by rfl, ?_⟩) ?_ ?_
      rotate_left
      · intro w'
        go_simp
        with_reducible rfl
      rotate_left
      · simp only [Act.put, List.setIfInBounds_toArray, List.set_cons_zero, List.set_cons_succ, i64_w, i32_w]
        rfl
      refine pure_ (i := 14) (N := some 50) (v := ?_) (a' := ?_) #[true, true, true, true, true, true, true, true, true, true, true, true, true, true, true, false] rfl rfl (by kernel_rfl) (fun _ _ _ h => h) (Or.inl ⟨by rfl, ?_⟩) ?_ ?_
      rotate_left
      · intro w'
        go_simp
        with_reducible rfl
      rotate_left
      · simp only [Act.put, List.setIfInBounds_toArray, List.set_cons_zero, List.set_cons_succ, i64_w, i32_w]
        rfl
      refine pure_ (i := 15) (N := some 8) (v := ?_) (a' := ?_) #[true, true, true, true, true, true, true, true, true, true, true, true, true, true, true, true] rfl rfl (by kernel_rfl) (fun _ _ _ h => h) (Or.inl ⟨by rfl, ?_⟩) ?_ ?_
      rotate_left
      · intro w'
        go_simp
        with_reducible rfl
      rotate_left
      · simp only [Act.put, List.setIfInBounds_toArray, List.set_cons_zero, List.set_cons_succ, i64_w, i32_w]
        rfl
      refine done_ (by kernel_rfl) ?_
      go_upto_region 8 with (fail)
      refine start_ (n := 16) (S := fun w' => w'.cell? ⟨w.heap.size, 1, none⟩ = some (.slice (some ad) L.length c) ∧ w'.cell? ⟨w.heap.size + 1, 1, none⟩ = some (.slice (some bd) L'.length c') ∧ w'.cell? (ad.add i) = some (.complex .f64 p1 p2) ∧ w'.cell? (bd.add i) = some (.complex .f64 q1 q2)) (ds := []) #[false, false, false, false, false, false, false, false, false, false, false, false, false, false, false, false] (by kernel_rfl) rfl rfl ⟨(two_cells hS.out.f).2.1, (two_cells hS.out.g).2.1, hcell, hcell2⟩ (fun hHeld => ?_)
      refine pure_ (i := 0) (N := some 51) (v := ?_) (a' := ?_) #[true, false, false, false, false, false, false, false, false, false, false, false, false, false, false, false] rfl rfl (by kernel_rfl) (fun _ _ _ h => h) (Or.inl ⟨by rfl, ?_⟩) ?_ ?_
      rotate_left
      · intro w'
        go_simp
        with_reducible rfl
      rotate_left
      · simp only [Act.put, List.setIfInBounds_toArray, List.set_cons_zero, List.set_cons_succ, i64_w, i32_w]
        rfl
      refine pure_ (i := 2) (N := some 53) (v := ?_) (a' := ?_) #[true, false, true, false, false, false, false, false, false, false, false, false, false, false, false, false] rfl rfl (by kernel_rfl) (fun _ _ _ h => h) (Or.inl ⟨by rfl, ?_⟩) ?_ ?_
      rotate_left
      · intro w'
        go_simp
        with_reducible rfl
      rotate_left
      · simp only [Act.put, List.setIfInBounds_toArray, List.set_cons_zero, List.set_cons_succ, i64_w, i32_w]
        rfl
      refine pure_ (i := 7) (N := some 58) (v := ?_) (a' := ?_) #[true, false, true, false, false, false, false, true, false, false, false, false, false, false, false, false] rfl rfl (by kernel_rfl) (fun _ _ _ h => h) (Or.inl ⟨by rfl, ?_⟩) ?_ ?_
      rotate_left
      · intro w'
        go_simp
        with_reducible rfl
      rotate_left
      · simp only [Act.put, List.setIfInBounds_toArray, List.set_cons_zero, List.set_cons_succ, i64_w, i32_w]
        rfl
      refine pure_ (i := 9) (N := some 60) (v := ?_) (a' := ?_) #[true, false, true, false, false, false, false, true, false, true, false, false, false, false, false, false] rfl rfl (by kernel_rfl) (fun _ _ _ h => h) (Or.inl ⟨by rfl, ?_⟩) ?_ ?_
      rotate_left
      · intro w'
        go_simp
        with_reducible rfl
      rotate_left
      · simp only [Act.put, List.setIfInBounds_toArray, List.set_cons_zero, List.set_cons_succ, i64_w, i32_w]
        rfl
      refine take_ (i := 1) (N := some 52) (v := ?_) (a' := ?_) #[true, true, true, false, false, false, false, true, false, true, false, false, false, false, false, false] rfl rfl (by kernel_rfl) (fun _ _ _ h => h) (Or.inl ⟨by rfl, ?_⟩) hHeld ?_ ?_
      rotate_left
      · rintro w' ⟨s0, s1, s2, s3⟩
        go_simp
        with_reducible rfl
      rotate_left
      · simp only [Act.put, List.setIfInBounds_toArray, List.set_cons_zero, List.set_cons_succ, i64_w, i32_w]
        rfl
      refine pure_ (i := 3) (N := some 54) (v := ?_) (a' := ?_) #[true, true, true, true, false, false, false, true, false, true, false, false, false, false, false, false] rfl rfl (by kernel_rfl) (fun _ _ _ h => h) (Or.inl ⟨by rfl, ?_⟩) ?_ ?_
      rotate_left
      · intro w'
        go_simp
        with_reducible rfl
      rotate_left
      · simp only [Act.put, List.setIfInBounds_toArray, List.set_cons_zero, List.set_cons_succ, i64_w, i32_w]
        rfl
      refine take_ (i := 4) (N := some 55) (v := ?_) (a' := ?_) #[true, true, true, true, true, false, false, true, false, true, false, false, false, false, false, false] rfl rfl (by kernel_rfl) (fun _ _ _ h => h) (Or.inl ⟨by rfl, ?_⟩) hHeld ?_ ?_
      rotate_left
      · rintro w' ⟨s0, s1, s2, s3⟩
        go_simp
        with_reducible rfl
      rotate_left
      · simp only [Act.put, List.setIfInBounds_toArray, List.set_cons_zero, List.set_cons_succ, i64_w, i32_w]
        rfl
      refine pure_ (i := 5) (N := some 56) (v := ?_) (a' := ?_) #[true, true, true, true, true, true, false, true, false, true, false, false, false, false, false, false] rfl rfl (by kernel_rfl) (fun _ _ _ h => h) (Or.inl ⟨by rfl, ?_⟩) ?_ ?_
      rotate_left
      · intro w'
        go_simp
        with_reducible rfl
      rotate_left
      · simp only [Act.put, List.setIfInBounds_toArray, List.set_cons_zero, List.set_cons_succ, i64_w, i32_w]
        rfl
      refine pure_ (i := 6) (N := some 57) (v := ?_) (a' := ?_) #[true, true, true, true, true, true, true, true, false, true, false, false, false, false, false, false] rfl rfl (by kernel_rfl) (fun _ _ _ h => h) (Or.inl ⟨by rfl, ?_⟩) ?_ ?_
      rotate_left
      · intro w'
        go_simp
        with_reducible rfl
      rotate_left
      · simp only [Act.put, List.setIfInBounds_toArray, List.set_cons_zero, List.set_cons_succ, i64_w, i32_w]
        rfl
      refine take_ (i := 8) (N := some 59) (v := ?_) (a' := ?_) #[true, true, true, true, true, true, true, true, true, true, false, false, false, false, false, false] rfl rfl (by kernel_rfl) (fun _ _ _ h => h) (Or.inl ⟨by rfl, ?_⟩) hHeld ?_ ?_
      rotate_left
      · rintro w' ⟨s0, s1, s2, s3⟩
        go_simp
        with_reducible rfl
      rotate_left
      · simp only [Act.put, List.setIfInBounds_toArray, List.set_cons_zero, List.set_cons_succ, i64_w, i32_w]
        rfl
      refine pure_ (i := 10) (N := some 61) (v := ?_) (a' := ?_) #[true, true, true, true, true, true, true, true, true, true, true, false, false, false, false, false] rfl rfl (by kernel_rfl) (fun _ _ _ h => h) (Or.inl ⟨by rfl, ?_⟩) ?_ ?_
      rotate_left
      · intro w'
        go_simp
        with_reducible rfl
      rotate_left
      · simp only [Act.put, List.setIfInBounds_toArray, List.set_cons_zero, List.set_cons_succ, i64_w, i32_w]
        rfl
      refine take_ (i := 11) (N := some 62) (v := ?_) (a' := ?_) #[true, true, true, true, true, true, true, true, true, true, true, true, false, false, false, false] rfl rfl (by kernel_rfl) (fun _ _ _ h => h) (Or.inl ⟨by rfl, ?_⟩) hHeld ?_ ?_
      rotate_left
      · rintro w' ⟨s0, s1, s2, s3⟩
        go_simp
        with_reducible rfl
      rotate_left
      · simp only [Act.put, List.setIfInBounds_toArray, List.set_cons_zero, List.set_cons_succ, i64_w, i32_w]
        rfl
      refine pure_ (i := 12) (N := some 63) (v := ?_) (a' := ?_) #[true, true, true, true, true, true, true, true, true, true, true, true, true, false, false, false] rfl rfl (by kernel_rfl) (fun _ _ _ h => h) (Or.inl ⟨by rfl, ?_⟩) ?_ ?_
      rotate_left
      · intro w'
        go_simp
        with_reducible rfl
      rotate_left
      · simp only [Act.put, List.setIfInBounds_toArray, List.set_cons_zero, List.set_cons_succ, i64_w, i32_w]
        rfl
      refine pure_ (i := 13) (N := some 64) (v := ?_) (a' := ?_) #[true, true, true, true, true, true, true, true, true, true, true, true, true, true, false, false] rfl rfl (by kernel_rfl) (fun _ _ _ h => h) (Or.inl ⟨by rfl, ?_⟩) ?_ ?_
      rotate_left
      · intro w'
        go_simp
        with_reducible rfl
      rotate_left
      · simp only [Act.put, List.setIfInBounds_toArray, List.set_cons_zero, List.set_cons_succ, i64_w, i32_w]
        rfl
      refine pure_ (i := 14) (N := some 65) (v := ?_) (a' := ?_) #[true, true, true, true, true, true, true, true, true, true, true, true, true, true, true, false] rfl rfl (by kernel_rfl) (fun _ _ _ h => h) (Or.inl ⟨by rfl, ?_⟩) ?_ ?_
      rotate_left
      · intro w'
        go_simp
        with_reducible rfl
      rotate_left
      · simp only [Act.put, List.setIfInBounds_toArray, List.set_cons_zero, List.set_cons_succ, i64_w, i32_w]
        rfl
      refine pure_ (i := 15) (N := some 9) (v := ?_) (a' := ?_) #[true, true, true, true, true, true, true, true, true, true, true, true, true, true, true, true] rfl rfl (by kernel_rfl) (fun _ _ _ h => h) (Or.inl ⟨by rfl, ?_⟩) ?_ ?_
      rotate_left
      · intro w'
        go_simp
        with_reducible rfl
      rotate_left
      · simp only [Act.put, List.setIfInBounds_toArray, List.set_cons_zero, List.set_cons_succ, i64_w, i32_w]
        rfl
      refine done_ (by kernel_rfl) ?_
      go_upto_region 9 with (fail)
      refine start_ (n := 11) (S := fun w' => w'.cell? ⟨hb, 1, none⟩ = some (.slice AV i cv)) (ds := [10]) #[false, false, false, false, false, false, false, false, false, false, false] (by kernel_rfl) rfl rfl ((two_cells hS.out.h).2.1) (fun hHeld => ?_)
      refine pure_ (i := 0) (N := some 66) (v := ?_) (a' := ?_) #[true, false, false, false, false, false, false, false, false, false, false] rfl rfl (by kernel_rfl) (fun _ _ _ h => h) (Or.inl ⟨by rfl, ?_⟩) ?_ ?_
      rotate_left
      · intro w'
        go_simp
        with_reducible rfl
      rotate_left
      · simp only [Act.put, List.setIfInBounds_toArray, List.set_cons_zero, List.set_cons_succ, i64_w, i32_w]
        rfl
      refine pure_ (i := 2) (N := some 68) (v := ?_) (a' := ?_) #[true, false, true, false, false, false, false, false, false, false, false] rfl rfl (by kernel_rfl) (fun _ _ _ h => h) (Or.inl ⟨by rfl, ?_⟩) ?_ ?_
      rotate_left
      · intro w'
        go_simp
        with_reducible rfl
      rotate_left
      · simp only [Act.put, List.setIfInBounds_toArray, List.set_cons_zero, List.set_cons_succ, i64_w, i32_w]
        rfl
      refine pure_ (i := 3) (N := some 69) (v := ?_) (a' := ?_) #[true, false, true, true, false, false, false, false, false, false, false] rfl rfl (by kernel_rfl) (fun _ _ _ h => h) (Or.inl ⟨by rfl, ?_⟩) ?_ ?_
      rotate_left
      · intro w'
        go_simp
        with_reducible rfl
      rotate_left
      · simp only [Act.put, List.setIfInBounds_toArray, List.set_cons_zero, List.set_cons_succ, i64_w, i32_w]
        rfl
      refine pure_ (i := 4) (N := some 70) (v := ?_) (a' := ?_) #[true, false, true, true, true, false, false, false, false, false, false] rfl rfl (by kernel_rfl) (fun _ _ _ h => h) (Or.inl ⟨by rfl, ?_⟩) ?_ ?_
      rotate_left
      · intro w'
        go_simp
        with_reducible rfl
      rotate_left
      · simp only [Act.put, List.setIfInBounds_toArray, List.set_cons_zero, List.set_cons_succ, i64_w, i32_w]
        rfl
      refine pure_ (i := 5) (N := some 71) (v := ?_) (a' := ?_) #[true, false, true, true, true, true, false, false, false, false, false] rfl rfl (by kernel_rfl) (fun _ _ _ h => h) (Or.inl ⟨by rfl, ?_⟩) ?_ ?_
      rotate_left
      · intro w'
        go_simp
        with_reducible rfl
      rotate_left
      · simp only [Act.put, List.setIfInBounds_toArray, List.set_cons_zero, List.set_cons_succ, i64_w, i32_w]
        rfl
      refine pure_ (i := 6) (N := some 72) (v := ?_) (a' := ?_) #[true, false, true, true, true, true, true, false, false, false, false] rfl rfl (by kernel_rfl) (fun _ _ _ h => h) (Or.inl ⟨by rfl, ?_⟩) ?_ ?_
      rotate_left
      · intro w'
        go_simp
        with_reducible rfl
      rotate_left
      · simp only [Act.put, List.setIfInBounds_toArray, List.set_cons_zero, List.set_cons_succ, i64_w, i32_w]
        rfl
      refine take_ (i := 1) (N := some 67) (v := ?_) (a' := ?_) #[true, true, true, true, true, true, true, false, false, false, false] rfl rfl (by kernel_rfl) (fun _ _ _ h => h) (Or.inl ⟨by rfl, ?_⟩) hHeld ?_ ?_
      rotate_left
      · intro w' s0
        go_simp
        with_reducible rfl
      rotate_left
      · simp only [Act.put, List.setIfInBounds_toArray, List.set_cons_zero, List.set_cons_succ, i64_w, i32_w]
        rfl
      refine one_ (i := 7) (N := some 73) #[true, true, true, true, true, true, true, true, false, false, false] rfl rfl (by kernel_rfl) (by decide) (fun K hK => ?_)
      refine value_ (w1 := ?_) (v := ?_) (by rfl) rfl ?_ ?_
      rotate_left 2
      · go_simp
        constructor
        · rfl
        · rfl
      refine hK.out _ _ ((two_cells (blk_below (hS.out.drew 3).h (below_alloc (Below.refl _ _) _))).2.1) (fun hHeld => ?_)
      clear hK K
      refine norm_ (a' := ?_) ?_ ?_
      rotate_left
      · show Act.put _ (some 73) _ = _
        simp only [Act.put, List.setIfInBounds_toArray, List.set_cons_zero, List.set_cons_succ, i64_w, i32_w]
        rfl
      refine one_ (i := 8) (N := some 74) #[true, true, true, true, true, true, true, true, true, false, false] rfl rfl (by kernel_rfl) (by decide) (fun K hK => ?_)
      refine Kd.R_append_step kc (w0 := w) w.heap.size (by rfl) (.tmp 67) (.tmp 73) 24 42 (.complex .f64 0 0) 16 (by rfl) und24 info42 rfl (by decide) (by decide) (.slice AV i cv) ((xorL L L').take i) (p1 ^^^ q1, p2 ^^^ q2) [.complex .f64 (p1 ^^^ q1) (p2 ^^^ q2)] (fun _ => True) (fun _ => False) (by rfl) (by rfl) rfl (fun _ hk => hk.elim) (fun _ _ => trivial) (hS.out.drew 3).row (hS.out.drew 3).below (hS.out.drew 3).below.size HL16.out ?_
      intro v1 w8 ho hbb hgr hat
      have HR8 := Lib.hid ho
      have HB8 := Lib.hid hbb
      have HG8 := Lib.hid hgr
      have ht2 := (two_cells (show w8.heap[hb]? = _ from (hgr.block hb (blk_lt (hS.out.drew 3).h) (Kd.R_ne (hS.out.drew 3).row (hS.out.drew 3).h (by decide))).trans (hS.out.drew 3).h))
      obtain ⟨t1, t2, t3, t4⟩ := ht2
      obtain ⟨VB, vd, hv1⟩ := Kd.R_slice ho
      rw [List.length_append, HIL.out, List.length_singleton] at hv1
      subst hv1
      clear ho hbb hgr hat
      refine hK.out _ _ (t2) (fun hHeld => ?_)
      clear hK K
      refine norm_ (a' := ?_) ?_ ?_
      rotate_left
      · show Act.put _ (some 74) _ = _
        simp only [Act.put, List.setIfInBounds_toArray, List.set_cons_zero, List.set_cons_succ, i64_w, i32_w]
        rfl
      refine pure_ (i := 9) (N := some 75) (v := ?_) (a' := ?_) #[true, true, true, true, true, true, true, true, true, true, false] rfl rfl (by kernel_rfl) (fun _ _ _ h => h) (Or.inl ⟨by rfl, ?_⟩) ?_ ?_
      rotate_left
      · intro w'
        go_simp
        with_reducible rfl
      rotate_left
      · simp only [Act.put, List.setIfInBounds_toArray, List.set_cons_zero, List.set_cons_succ, i64_w, i32_w]
        rfl
      refine last_ (i := 10) (N := none) #[true, true, true, true, true, true, true, true, true, true, true] rfl rfl (by kernel_rfl) (by decide) (fun K hK => ?_)
      refine skip_ (w1 := ?_) (by rfl) rfl ?_ ?_
      rotate_left
      · go_simp
        rfl
      refine hK.out _ _ ?_
      clear hK K
      refine done_ (by kernel_rfl) ?_
      have hi1 := HI1.out
      clear hx1 hx2 hcell hcell2 x1 x2 x3 x4
      go_wp2_with fail
      go_roundg (gk - 1)
      case measure => have := hg.out; omega
      case rel => exact ⟨i + 1, _, by rw [hi1], Lib.hid (by have := hg.out; omega), Lib.hid (by omega), Lib.hid ((hS.out.drew 3).next HXT.out HR8.out HB8.out HG8.out)⟩
    · have hlt' : ¬ (i : Int) < (L.length : Int) := by omega
      obtain rfl : i = L.length := by have := hi.out; omega
      have hrow := hS.out.row
      rw [List.take_of_length_le (by rw [xorL_len HLL.out]; exact Nat.le_refl _)] at hrow
      obtain ⟨AX, cx, rfl⟩ := Kd.R_slice hrow
      have HROW := Lib.hid hrow
      clear hrow
      go_wp2_with (first
        | ((with_reducible refine gate_dst (N := 76) rfl ?_); refine load_grid rfl (.tmp 6) rfl (g := hb) ?hx (u := .int .i64 N) (v := .slice AX (xorL L L').length cx) hS.out.h ?_; (case hx => go_simp))
        | ((with_reducible refine gate_store (t := 26) (p := 4) rfl ?_); refine store_grid rfl rfl (.tmp 4) (.tmp 76) rfl (g := w.heap.size + 1 + 1) ?hp (u := (N : Int)) (A := AX) (n := (xorL L L').length) (c := cx) ?hv hS.out.res ?_; (case hp => go_simp); (case hv => go_simp); intro w8 hh8 hk8 hb8; have HR8 := Lib.hid hh8; have HK8 := Lib.hid hk8; have HB8 := Lib.hid (hS.out.below.trans (hb8.mono (by omega))); clear hh8 hk8 hb8))
      obtain ⟨r1, r2, -, -⟩ := two_cells HR8.out
      refine bodyPost_ret (v := .tuple #[.agg #[.int .i64 N, .slice AX (xorL L L').length cx], .int .i64 0]) (by simp [results, Try.results57, go_sem, r1, r2]) rfl ⟨AX, cx, rfl, HB8.out, ?_⟩
      exact Kd.R_mono (Kd.R_kept (Kd.R_types HROW.out hS.out.res (by decide)) HK8.out (fun k ho he => ho.2 he)) (fun _ _ => trivial)
end Go.Proofs.Ytomildjihlbbmaa
