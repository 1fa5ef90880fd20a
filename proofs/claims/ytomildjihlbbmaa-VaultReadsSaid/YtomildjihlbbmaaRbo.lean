/-
  The reference's body and record of a field, behind the ones ahead.
-/
import Derived.Test.YtomildjihlbbmaaRco
namespace Go.Proofs.Ytomildjihlbbmaa
open Go.RowKit Flt Num Go.Proofs.YtomildjihlbbmaaW.PrintWords Go.Proofs.YtomildjihlbbmaaW.PrintLast Go.Proofs.YtomildjihlbbmaaW.PrintMore Go.Proofs.Ytomildjihlbbmaa.PVaultReads
set_option linter.unusedVariables false
set_option linter.unusedSimpArgs false
attribute [local go_sem] run_f64bits run_f64from run_f32bits run_f32from
/-- the list of the slices ahead, as far as its last one is asked -/
def Lst (ah : Option Fld) (v : Value) (w : World) : Prop :=
  match ah with
  | none => ∃ A c, v = .slice A 0 c
  | some g => ∃ b n cap A c, v = .slice (some ⟨b, 0, none⟩) (n + 1) cap ∧ n ≤ 64 ∧ w.cell? ⟨b, n * 2, none⟩ = some (.int .i64 g.1) ∧ w.cell? ⟨b, n * 2 + 1, none⟩ = some (.slice A g.2.length c) ∧ kc.C w A g.2.length g.2
theorem Lst.below {ah : Option Fld} {v : Value} {w w' : World} (h : Lst ah v w) (hb : Below w.heap.size w w') : Lst ah v w' := by
  cases ah with
  | none => exact h
  | some g => obtain ⟨b, n, cap, A, c, h1, h2, h3, h4, h5⟩ := h; exact ⟨b, n, cap, A, c, h1, h2, pw_cell_below hb h3, pw_cell_below hb h4, Kd.C_below h5 hb⟩
theorem grown_lit {W w3 : World} {o : Obj} (hg : (W.alloc o).grownBy w3 (some W.heap.size)) : Below W.heap.size W w3 := ((Below.refl W.heap.size W).alloc (Nat.le_refl _) o).grown hg (by rw [World.size_alloc]; omega) (fun k e => by injection e with e; omega)
set_option maxHeartbeats 16000000 in
set_option maxRecDepth 100000 in
theorem rbody_any (ah : Option Fld) (v : Value) (N : Nat) (A : Option Addr) (c : Nat) (L : List (Nat × Nat)) (hf : FOk (N, L)) (ha : ∀ g, ah = some g → FOk g) (w : World) (hC : kc.C w A L.length L) (hK : Lst ah v w) :
    Calls Try.prog 68 #[v, .agg #[.int .i64 N, .slice A L.length c]] w fun e w' => ∃ u, e = .returned u ∧ kb.R 5 w' w.heap.size (fun _ => True) u (bodyL ah (N, L)) ∧ Below w.heap.size w w' := by
  have HF := Lib.hid hf
  have HAH := Lib.hid ha
  have HC := Lib.hid hC
  have HK := Lib.hid hK
  have HN := Lib.hid (show 1 ≤ N ∧ N ≤ 64 from hf.side)
  have HL := Lib.hid (show L.length = N * N from hf.len)
  have HW := Lib.hid (show Words L from hf.words)
  have HX1 := Lib.hid (heap_alloc_new w (.cells #[.int .i64 N, .slice A L.length c] 26))
  have HB1 := Lib.hid (show Below w.heap.size w (w.alloc (.cells #[.int .i64 N, .slice A L.length c] 26)) from below_alloc (Below.refl _ _) _)
  clear hf ha hC hK
  rcases ah with _ | ⟨N', L'⟩
  · obtain ⟨LA, lc, rfl⟩ := HK.out
    go_enter Try.func68, Try.ntmps68
    go_wp2_with (first | ((with_reducible refine gate_dst (N := 13) rfl ?_); refine load_grid rfl (.tmp 3) rfl (g := w.heap.size) ?hx (u := .int .i64 N) (v := .slice A L.length c) HX1.out ?_; (case hx => go_simp)))
    refine (rpack_any N HN.out A c L _ (Kd.C_below HC.out HB1.out) HW.out HL.out).mono ?_
    rintro e w2 ⟨v5, rfl, hb2, hr2⟩
    have HB2 := Lib.hid (HB1.out.trans (hb2.mono HB1.out.size))
    have HX2 := Lib.hid (blk_below HX1.out hb2)
    obtain ⟨PA, pc, rfl⟩ := Kd.R_slice hr2
    have HR2 := Lib.hid (Kd.R_lower hr2 HB1.out.size)
    obtain ⟨sl, hsl⟩ : ∃ sl, sl = shortL N L := ⟨_, rfl⟩
    rw [← hsl] at HR2
    rw [← hsl]
    replace hsl := Lib.hid hsl
    have HSL := Lib.hid (show sl.length ≤ 65538 by rw [hsl.out]; exact (short_ok (f := (N, L)) HF.out).1)
    clear hb2 hr2
    go_upto_region 3 with (first
      | ((with_reducible refine gate_builtin (b := .append) (xs := #[.tmp 17, .tmp 18]) rfl ?_); at_builtin; refine Kd.R_append_row (Value.int .u8) (0 : Int) (h1 := fun _ => rfl) (w0 := w) w.heap.size rfl (.tmp 17) (.tmp 18) 22 5 (.int .u8 0) 1 rfl Try.underlying22 info5v rfl (by decide) (.slice (some ⟨w2.heap.size, 0, none⟩) 1 1) [(0 : Int)] sl PA sl.length pc (fun _ => True) rfl rfl (fun _ _ => trivial) ?aO ?aR ?aB ?aS ?aL ?_; (case aO => exact lit_R1 w2 0 _ HB2.out.size); (case aR => exact (Kd.R_reads' (Kd.R_alloc HR2.out _)).2.2); (case aB => exact HB2.out.alloc HB2.out.size _); (case aS => exact (HB2.out.alloc HB2.out.size _).size); (case aL => exact (by have := HSL.out; simp; omega)); intro v7 w3 hr3 hb3 hgr hat; have hr4 : kb.R 5 w3 w.heap.size (fun _ => True) v7 (0 :: sl) := (by exact hr3); obtain ⟨QA, qc, rfl⟩ := Kd.R_slice hr4; have HR3 := Lib.hid hr4; have HB3 := Lib.hid hb3; have HX3 := Lib.hid (blk_below HX2.out (grown_lit hgr)); have HP3 := Lib.hid (Kd.C_below (Kd.R_reads' HR2.out).2.2 (grown_lit hgr)); clear hr3 hr4 hb3 hgr hat))
    obtain ⟨x1, x2, x3, x4⟩ := two_cells HX3.out
    refine start_ (n := 15) (S := fun w' => True) (ds := []) #[false, false, false, false, false, false, false, false, false, false, false, false, false, false, false] (by kernel_rfl) rfl rfl trivial (fun hHeld => ?_)
    refine pure_ (i := 0) (N := some 20) (v := ?_) (a' := ?_) #[true, false, false, false, false, false, false, false, false, false, false, false, false, false, false] rfl rfl (by kernel_rfl) (fun _ _ _ h => h) (Or.inl ⟨by rfl, ?_⟩) ?_ ?_
    rotate_left
    · intro w'
      go_simp
      with_reducible rfl
    rotate_left
    · simp only [Act.put, List.setIfInBounds_toArray, List.set_cons_zero, List.set_cons_succ, i64_w, i32_w]
      rfl
    refine pure_ (i := 1) (N := some 21) (v := ?_) (a' := ?_) #[true, true, false, false, false, false, false, false, false, false, false, false, false, false, false] rfl rfl (by kernel_rfl) (fun _ _ _ h => h) (Or.inl ⟨by rfl, ?_⟩) ?_ ?_
    rotate_left
    · intro w'
      go_simp
      with_reducible rfl
    rotate_left
    · simp only [Act.put, List.setIfInBounds_toArray, List.set_cons_zero, List.set_cons_succ, i64_w, i32_w]
      rfl
    refine pure_ (i := 2) (N := some 22) (v := ?_) (a' := ?_) #[true, true, true, false, false, false, false, false, false, false, false, false, false, false, false] rfl rfl (by kernel_rfl) (fun _ _ _ h => h) (Or.inl ⟨by rfl, ?_⟩) ?_ ?_
    rotate_left
    · intro w'
      go_simp
      with_reducible rfl
    rotate_left
    · simp only [Act.put, List.setIfInBounds_toArray, List.set_cons_zero, List.set_cons_succ, i64_w, i32_w]
      rfl
    refine pure_ (i := 3) (N := some 23) (v := ?_) (a' := ?_) #[true, true, true, true, false, false, false, false, false, false, false, false, false, false, false] rfl rfl (by kernel_rfl) (fun _ _ _ h => h) (Or.inl ⟨by rfl, ?_⟩) ?_ ?_
    rotate_left
    · intro w'
      go_simp
      with_reducible rfl
    rotate_left
    · simp only [Act.put, List.setIfInBounds_toArray, List.set_cons_zero, List.set_cons_succ, i64_w, i32_w]
      rfl
    refine pure_ (i := 4) (N := some 24) (v := undef) (a' := ?_) #[true, true, true, true, true, false, false, false, false, false, false, false, false, false, false] rfl rfl (by kernel_rfl) (fun _ _ _ h => h) (Or.inr ⟨by rfl, rfl⟩) ?_ ?_
    rotate_left
    · simp only [Act.put, List.setIfInBounds_toArray, List.set_cons_zero, List.set_cons_succ, i64_w, i32_w]
      rfl
    refine pure_ (i := 5) (N := some 25) (v := undef) (a' := ?_) #[true, true, true, true, true, true, false, false, false, false, false, false, false, false, false] rfl rfl (by kernel_rfl) (fun _ _ _ h => h) (Or.inr ⟨by rfl, rfl⟩) ?_ ?_
    rotate_left
    · simp only [Act.put, List.setIfInBounds_toArray, List.set_cons_zero, List.set_cons_succ, i64_w, i32_w]
      rfl
    refine pure_ (i := 6) (N := some 26) (v := undef) (a' := ?_) #[true, true, true, true, true, true, true, false, false, false, false, false, false, false, false] rfl rfl (by kernel_rfl) (fun _ _ _ h => h) (Or.inr ⟨by rfl, rfl⟩) ?_ ?_
    rotate_left
    · simp only [Act.put, List.setIfInBounds_toArray, List.set_cons_zero, List.set_cons_succ, i64_w, i32_w]
      rfl
    refine pure_ (i := 7) (N := some 27) (v := undef) (a' := ?_) #[true, true, true, true, true, true, true, true, false, false, false, false, false, false, false] rfl rfl (by kernel_rfl) (fun _ _ _ h => h) (Or.inr ⟨by rfl, rfl⟩) ?_ ?_
    rotate_left
    · simp only [Act.put, List.setIfInBounds_toArray, List.set_cons_zero, List.set_cons_succ, i64_w, i32_w]
      rfl
    refine pure_ (i := 8) (N := some 28) (v := undef) (a' := ?_) #[true, true, true, true, true, true, true, true, true, false, false, false, false, false, false] rfl rfl (by kernel_rfl) (fun _ _ _ h => h) (Or.inr ⟨by rfl, rfl⟩) ?_ ?_
    rotate_left
    · simp only [Act.put, List.setIfInBounds_toArray, List.set_cons_zero, List.set_cons_succ, i64_w, i32_w]
      rfl
    refine pure_ (i := 9) (N := some 29) (v := undef) (a' := ?_) #[true, true, true, true, true, true, true, true, true, true, false, false, false, false, false] rfl rfl (by kernel_rfl) (fun _ _ _ h => h) (Or.inr ⟨by rfl, rfl⟩) ?_ ?_
    rotate_left
    · simp only [Act.put, List.setIfInBounds_toArray, List.set_cons_zero, List.set_cons_succ, i64_w, i32_w]
      rfl
    refine pure_ (i := 10) (N := some 30) (v := undef) (a' := ?_) #[true, true, true, true, true, true, true, true, true, true, true, false, false, false, false] rfl rfl (by kernel_rfl) (fun _ _ _ h => h) (Or.inr ⟨by rfl, rfl⟩) ?_ ?_
    rotate_left
    · simp only [Act.put, List.setIfInBounds_toArray, List.set_cons_zero, List.set_cons_succ, i64_w, i32_w]
      rfl
    refine pure_ (i := 11) (N := some 31) (v := undef) (a' := ?_) #[true, true, true, true, true, true, true, true, true, true, true, true, false, false, false] rfl rfl (by kernel_rfl) (fun _ _ _ h => h) (Or.inr ⟨by rfl, rfl⟩) ?_ ?_
    rotate_left
    · simp only [Act.put, List.setIfInBounds_toArray, List.set_cons_zero, List.set_cons_succ, i64_w, i32_w]
      rfl
    refine pure_ (i := 12) (N := some 32) (v := undef) (a' := ?_) #[true, true, true, true, true, true, true, true, true, true, true, true, true, false, false] rfl rfl (by kernel_rfl) (fun _ _ _ h => h) (Or.inr ⟨by rfl, rfl⟩) ?_ ?_
    rotate_left
    · simp only [Act.put, List.setIfInBounds_toArray, List.set_cons_zero, List.set_cons_succ, i64_w, i32_w]
      rfl
    refine pure_ (i := 13) (N := some 33) (v := undef) (a' := ?_) #[true, true, true, true, true, true, true, true, true, true, true, true, true, true, false] rfl rfl (by kernel_rfl) (fun _ _ _ h => h) (Or.inr ⟨by rfl, rfl⟩) ?_ ?_
    rotate_left
    · simp only [Act.put, List.setIfInBounds_toArray, List.set_cons_zero, List.set_cons_succ, i64_w, i32_w]
      rfl
    refine pure_ (i := 14) (N := some 34) (v := ?_) (a' := ?_) #[true, true, true, true, true, true, true, true, true, true, true, true, true, true, true] rfl rfl (by kernel_rfl) (fun _ _ _ h => h) (Or.inl ⟨by rfl, ?_⟩) ?_ ?_
    rotate_left
    · intro w'
      go_simp
      with_reducible rfl
    rotate_left
    · simp only [Act.put, List.setIfInBounds_toArray, List.set_cons_zero, List.set_cons_succ, i64_w, i32_w]
      rfl
    refine done_ (by kernel_rfl) ?_
    go_wp2_with fail
    go_ret
    refine ⟨.slice QA (sl.length + 1) qc, rfl, ?_, below_drewN HB3.out 1⟩
    have h := Kd.R_drewN HR3.out 1
    unfold bodyL
    dsimp only
    rw [← hsl.out]
    exact h
  · obtain ⟨b, n, cap, A', c', hv, hn, hi0, hj0, hkc⟩ := HK.out
    subst hv
    have HI0 := Lib.hid hi0
    have HJ0 := Lib.hid hj0
    have HKC := Lib.hid hkc
    have hnn : (0 : Int) ≤ (n : Int) := by omega
    have hn64 : (n : Int) ≤ 64 := by omega
    have hw64 : wrap64 (n : Int) = (n : Int) := wrap64_id (by omega) (by omega)
    have HW64 := Lib.hid hw64
    clear hw64
    clear hi0 hj0 hkc hn
    by_cases hNN : N' = N
    · subst hNN
      have HF' := Lib.hid (HAH.out _ rfl)
      have HL' := Lib.hid (show L'.length = N' * N' from HF'.out.len)
      have HW' := Lib.hid (show Words L' from HF'.out.words)
      have hne1 : decide ((N' : Int) = (N' : Int)) = true := decide_eq_true rfl
      have hne2 : ((N' : Int) == (N' : Int)) = true := beq_self_eq_true _
      go_enter Try.func68, Try.ntmps68
      go_wp2_with (first | ((with_reducible refine gate_dst (N := 13) rfl ?_); refine load_grid rfl (.tmp 3) rfl (g := w.heap.size) ?hx (u := .int .i64 N') (v := .slice A L.length c) HX1.out ?_; (case hx => go_simp)))
      refine (rpack_any N' HN.out A c L _ (Kd.C_below HC.out HB1.out) HW.out HL.out).mono ?_
      rintro e w2 ⟨v5, rfl, hb2, hr2⟩
      have HB2 := Lib.hid (HB1.out.trans (hb2.mono HB1.out.size))
      have HX2 := Lib.hid (blk_below HX1.out hb2)
      obtain ⟨PA, pc, rfl⟩ := Kd.R_slice hr2
      have HR2 := Lib.hid (Kd.R_lower hr2 HB1.out.size)
      obtain ⟨sl, hsl⟩ : ∃ sl, sl = shortL N' L := ⟨_, rfl⟩
      rw [← hsl] at HR2
      rw [← hsl]
      replace hsl := Lib.hid hsl
      have HSL := Lib.hid (show sl.length ≤ 65538 by rw [hsl.out]; exact (short_ok (f := (N', L)) HF.out).1)
      clear hb2 hr2
      go_upto_region 3 with (first
        | ((with_reducible refine gate_builtin (b := .append) (xs := #[.tmp 17, .tmp 18]) rfl ?_); at_builtin; refine Kd.R_append_row (Value.int .u8) (0 : Int) (h1 := fun _ => rfl) (w0 := w) w.heap.size rfl (.tmp 17) (.tmp 18) 22 5 (.int .u8 0) 1 rfl Try.underlying22 info5v rfl (by decide) (.slice (some ⟨w2.heap.size, 0, none⟩) 1 1) [(0 : Int)] sl PA sl.length pc (fun _ => True) rfl rfl (fun _ _ => trivial) ?aO ?aR ?aB ?aS ?aL ?_; (case aO => exact lit_R1 w2 0 _ HB2.out.size); (case aR => exact (Kd.R_reads' (Kd.R_alloc HR2.out _)).2.2); (case aB => exact HB2.out.alloc HB2.out.size _); (case aS => exact (HB2.out.alloc HB2.out.size _).size); (case aL => exact (by have := HSL.out; simp; omega)); intro v7 w2b hr3 hb3 hgr hat; have hr4 : kb.R 5 w2b w.heap.size (fun _ => True) v7 (0 :: sl) := (by exact hr3); obtain ⟨QA, qc, rfl⟩ := Kd.R_slice hr4; have HR3 := Lib.hid hr4; have HB3 := Lib.hid hb3; have HX3 := Lib.hid (blk_below HX2.out (grown_lit hgr)); have HP3 := Lib.hid (Kd.C_below (Kd.R_reads' HR2.out).2.2 (grown_lit hgr)); clear hr3 hr4 hb3 hgr hat))
      obtain ⟨i1, j1⟩ := And.intro (pw_cell_below HB3.out HI0.out) (pw_cell_below HB3.out HJ0.out)
      obtain ⟨x1, x2, x3, x4⟩ := two_cells HX3.out
      have hw64 := HW64.out
      have hlt1 : (n : Int) < (n : Int) + 1 := by omega
      refine start_ (n := 15) (S := fun w' => w'.cell? ⟨b, n * 2, none⟩ = some (.int .i64 N') ∧ w'.cell? ⟨w.heap.size, 0, none⟩ = some (.int .i64 N')) (ds := []) #[false, false, false, false, false, false, false, false, false, false, false, false, false, false, false] (by kernel_rfl) rfl rfl ⟨i1, x1⟩ (fun hHeld => ?_)
      refine pure_ (i := 0) (N := some 20) (v := ?_) (a' := ?_) #[true, false, false, false, false, false, false, false, false, false, false, false, false, false, false] rfl rfl (by kernel_rfl) (fun _ _ _ h => h) (Or.inl ⟨by rfl, ?_⟩) ?_ ?_
      rotate_left
      · intro w'
        go_simp
        with_reducible rfl
      rotate_left
      · simp only [Act.put, List.setIfInBounds_toArray, List.set_cons_zero, List.set_cons_succ, i64_w, i32_w]
        rfl
      refine pure_ (i := 1) (N := some 21) (v := ?_) (a' := ?_) #[true, true, false, false, false, false, false, false, false, false, false, false, false, false, false] rfl rfl (by kernel_rfl) (fun _ _ _ h => h) (Or.inl ⟨by rfl, ?_⟩) ?_ ?_
      rotate_left
      · intro w'
        go_simp
        with_reducible rfl
      rotate_left
      · simp only [Act.put, List.setIfInBounds_toArray, List.set_cons_zero, List.set_cons_succ, i64_w, i32_w]
        rfl
      refine pure_ (i := 2) (N := some 22) (v := ?_) (a' := ?_) #[true, true, true, false, false, false, false, false, false, false, false, false, false, false, false] rfl rfl (by kernel_rfl) (fun _ _ _ h => h) (Or.inl ⟨by rfl, ?_⟩) ?_ ?_
      rotate_left
      · intro w'
        go_simp
        with_reducible rfl
      rotate_left
      · simp only [Act.put, List.setIfInBounds_toArray, List.set_cons_zero, List.set_cons_succ, i64_w, i32_w]
        rfl
      refine pure_ (i := 3) (N := some 23) (v := ?_) (a' := ?_) #[true, true, true, true, false, false, false, false, false, false, false, false, false, false, false] rfl rfl (by kernel_rfl) (fun _ _ _ h => h) (Or.inl ⟨by rfl, ?_⟩) ?_ ?_
      rotate_left
      · intro w'
        go_simp
        with_reducible rfl
      rotate_left
      · simp only [Act.put, List.setIfInBounds_toArray, List.set_cons_zero, List.set_cons_succ, i64_w, i32_w]
        rfl
      refine pure_ (i := 4) (N := some 24) (v := ?_) (a' := ?_) #[true, true, true, true, true, false, false, false, false, false, false, false, false, false, false] rfl rfl (by kernel_rfl) (fun _ _ _ h => h) (Or.inl ⟨by rfl, ?_⟩) ?_ ?_
      rotate_left
      · intro w'
        go_simp
        with_reducible rfl
      rotate_left
      · simp only [Act.put, List.setIfInBounds_toArray, List.set_cons_zero, List.set_cons_succ, i64_w, i32_w]
        rfl
      refine pure_ (i := 5) (N := some 25) (v := ?_) (a' := ?_) #[true, true, true, true, true, true, false, false, false, false, false, false, false, false, false] rfl rfl (by kernel_rfl) (fun _ _ _ h => h) (Or.inl ⟨by rfl, ?_⟩) ?_ ?_
      rotate_left
      · intro w'
        go_simp
        with_reducible rfl
      rotate_left
      · simp only [Act.put, List.setIfInBounds_toArray, List.set_cons_zero, List.set_cons_succ, i64_w, i32_w]
        rfl
      refine pure_ (i := 6) (N := some 26) (v := ?_) (a' := ?_) #[true, true, true, true, true, true, true, false, false, false, false, false, false, false, false] rfl rfl (by kernel_rfl) (fun _ _ _ h => h) (Or.inl ⟨by rfl, ?_⟩) ?_ ?_
      rotate_left
      · intro w'
        go_simp
        with_reducible rfl
      rotate_left
      · simp only [Act.put, List.setIfInBounds_toArray, List.set_cons_zero, List.set_cons_succ, i64_w, i32_w]
        rfl
      refine pure_ (i := 7) (N := some 27) (v := ?_) (a' := ?_) #[true, true, true, true, true, true, true, true, false, false, false, false, false, false, false] rfl rfl (by kernel_rfl) (fun _ _ _ h => h) (Or.inl ⟨by rfl, ?_⟩) ?_ ?_
      rotate_left
      · intro w'
        go_simp
        with_reducible rfl
      rotate_left
      · simp only [Act.put, List.setIfInBounds_toArray, List.set_cons_zero, List.set_cons_succ, i64_w, i32_w]
        rfl
      refine pure_ (i := 8) (N := some 28) (v := ?_) (a' := ?_) #[true, true, true, true, true, true, true, true, true, false, false, false, false, false, false] rfl rfl (by kernel_rfl) (fun _ _ _ h => h) (Or.inl ⟨by rfl, ?_⟩) ?_ ?_
      rotate_left
      · intro w'
        go_simp
        with_reducible rfl
      rotate_left
      · simp only [Act.put, List.setIfInBounds_toArray, List.set_cons_zero, List.set_cons_succ, i64_w, i32_w]
        rfl
      refine pure_ (i := 9) (N := some 29) (v := ?_) (a' := ?_) #[true, true, true, true, true, true, true, true, true, true, false, false, false, false, false] rfl rfl (by kernel_rfl) (fun _ _ _ h => h) (Or.inl ⟨by rfl, ?_⟩) ?_ ?_
      rotate_left
      · intro w'
        go_simp
        with_reducible rfl
      rotate_left
      · simp only [Act.put, List.setIfInBounds_toArray, List.set_cons_zero, List.set_cons_succ, i64_w, i32_w]
        rfl
      refine pure_ (i := 11) (N := some 31) (v := ?_) (a' := ?_) #[true, true, true, true, true, true, true, true, true, true, false, true, false, false, false] rfl rfl (by kernel_rfl) (fun _ _ _ h => h) (Or.inl ⟨by rfl, ?_⟩) ?_ ?_
      rotate_left
      · intro w'
        go_simp
        with_reducible rfl
      rotate_left
      · simp only [Act.put, List.setIfInBounds_toArray, List.set_cons_zero, List.set_cons_succ, i64_w, i32_w]
        rfl
      refine take_ (i := 10) (N := some 30) (v := ?_) (a' := ?_) #[true, true, true, true, true, true, true, true, true, true, true, true, false, false, false] rfl rfl (by kernel_rfl) (fun _ _ _ h => h) (Or.inl ⟨by rfl, ?_⟩) hHeld ?_ ?_
      rotate_left
      · rintro w' ⟨s0, s1⟩
        go_simp
        with_reducible rfl
      rotate_left
      · simp only [Act.put, List.setIfInBounds_toArray, List.set_cons_zero, List.set_cons_succ, i64_w, i32_w]
        rfl
      refine take_ (i := 12) (N := some 32) (v := ?_) (a' := ?_) #[true, true, true, true, true, true, true, true, true, true, true, true, true, false, false] rfl rfl (by kernel_rfl) (fun _ _ _ h => h) (Or.inl ⟨by rfl, ?_⟩) hHeld ?_ ?_
      rotate_left
      · rintro w' ⟨s0, s1⟩
        go_simp
        with_reducible rfl
      rotate_left
      · simp only [Act.put, List.setIfInBounds_toArray, List.set_cons_zero, List.set_cons_succ, i64_w, i32_w]
        rfl
      refine pure_ (i := 13) (N := some 33) (v := ?_) (a' := ?_) #[true, true, true, true, true, true, true, true, true, true, true, true, true, true, false] rfl rfl (by kernel_rfl) (fun _ _ _ h => h) (Or.inl ⟨by rfl, ?_⟩) ?_ ?_
      rotate_left
      · intro w'
        go_simp
        with_reducible rfl
      rotate_left
      · simp only [Act.put, List.setIfInBounds_toArray, List.set_cons_zero, List.set_cons_succ, i64_w, i32_w]
        rfl
      refine pure_ (i := 14) (N := some 34) (v := ?_) (a' := ?_) #[true, true, true, true, true, true, true, true, true, true, true, true, true, true, true] rfl rfl (by kernel_rfl) (fun _ _ _ h => h) (Or.inl ⟨by rfl, ?_⟩) ?_ ?_
      rotate_left
      · intro w'
        go_simp
        with_reducible rfl
      rotate_left
      · simp only [Act.put, List.setIfInBounds_toArray, List.set_cons_zero, List.set_cons_succ, i64_w, i32_w]
        rfl
      refine done_ (by kernel_rfl) ?_
      obtain ⟨w3, hw3⟩ : ∃ w3 : World, w3 = w2b.drew := ⟨_, rfl⟩
      rw [← hw3]
      have HB3b := Lib.hid (show Below w.heap.size w w3 by rw [hw3]; exact below_drewN HB3.out 1)
      have HR3b := Lib.hid (show kb.R 5 w3 w.heap.size (fun _ => True) (.slice QA (0 :: sl).length qc) (0 :: sl) by rw [hw3]; exact Kd.R_drewN HR3.out 1)
      have HX3b := Lib.hid (show w3.heap[w.heap.size]? = some (.cells #[.int .i64 N', .slice A L.length c] 26 (0, 0)) by rw [hw3]; exact HX3.out)
      clear hw3 HB3 HR3 HX3 i1 j1 x1 x2 x3 x4 hw64 hlt1
      have HB3 := HB3b
      have HR3 := HR3b
      have HX3 := HX3b
      have HI3 := Lib.hid (pw_cell_below HB3.out HI0.out)
      have HJ3 := Lib.hid (pw_cell_below HB3.out HJ0.out)
      have HC3 := Lib.hid (Kd.C_below HC.out HB3.out)
      have HC3' := Lib.hid (Kd.C_below HKC.out HB3.out)
      have HA0 := Lib.hid (show Below w3.heap.size w3 w3.drew from below_drewN (Below.refl _ _) 1)
      have HA1 := Lib.hid (show Below w3.heap.size w3 (w3.alloc (.cells #[.int .i64 0, .slice none 0 0] 26)).drew from below_drewN (below_alloc (Below.refl _ _) _) 1)
      clear HB3b HR3b HX3b hne1 hne2
      have hlt1 : (n : Int) < (n : Int) + 1 := by omega
      have hw64 := HW64.out
      go_upto_region 4 with (fail)
      refine start_ (n := 14) (S := fun w' => w'.heap[w.heap.size]? = some (.cells #[.int .i64 N', .slice A L.length c] 26 (0, 0)) ∧ w'.cell? ⟨b, n * 2, none⟩ = some (.int .i64 N') ∧ w'.cell? ⟨b, n * 2 + 1, none⟩ = some (.slice A' L'.length c')) (ds := [12]) #[false, false, false, false, false, false, false, false, false, false, false, false, false, false] (by kernel_rfl) rfl rfl ⟨(blk_below HX3.out HA0.out), (pw_cell_below HA0.out HI3.out), (pw_cell_below HA0.out HJ3.out)⟩ (fun hHeld => ?_)
      refine pure_ (i := 1) (N := some 37) (v := ?_) (a' := ?_) #[false, true, false, false, false, false, false, false, false, false, false, false, false, false] rfl rfl (by kernel_rfl) (fun _ _ _ h => h) (Or.inl ⟨by rfl, ?_⟩) ?_ ?_
      rotate_left
      · intro w'
        go_simp
        with_reducible rfl
      rotate_left
      · simp only [Act.put, List.setIfInBounds_toArray, List.set_cons_zero, List.set_cons_succ, i64_w, i32_w]
        rfl
      refine pure_ (i := 2) (N := some 38) (v := ?_) (a' := ?_) #[false, true, true, false, false, false, false, false, false, false, false, false, false, false] rfl rfl (by kernel_rfl) (fun _ _ _ h => h) (Or.inl ⟨by rfl, ?_⟩) ?_ ?_
      rotate_left
      · intro w'
        go_simp
        with_reducible rfl
      rotate_left
      · simp only [Act.put, List.setIfInBounds_toArray, List.set_cons_zero, List.set_cons_succ, i64_w, i32_w]
        rfl
      refine pure_ (i := 3) (N := some 39) (v := ?_) (a' := ?_) #[false, true, true, true, false, false, false, false, false, false, false, false, false, false] rfl rfl (by kernel_rfl) (fun _ _ _ h => h) (Or.inl ⟨by rfl, ?_⟩) ?_ ?_
      rotate_left
      · intro w'
        go_simp
        with_reducible rfl
      rotate_left
      · simp only [Act.put, List.setIfInBounds_toArray, List.set_cons_zero, List.set_cons_succ, i64_w, i32_w]
        rfl
      refine pure_ (i := 4) (N := some 40) (v := ?_) (a' := ?_) #[false, true, true, true, true, false, false, false, false, false, false, false, false, false] rfl rfl (by kernel_rfl) (fun _ _ _ h => h) (Or.inl ⟨by rfl, ?_⟩) ?_ ?_
      rotate_left
      · intro w'
        go_simp
        with_reducible rfl
      rotate_left
      · simp only [Act.put, List.setIfInBounds_toArray, List.set_cons_zero, List.set_cons_succ, i64_w, i32_w]
        rfl
      refine pure_ (i := 5) (N := some 41) (v := ?_) (a' := ?_) #[false, true, true, true, true, true, false, false, false, false, false, false, false, false] rfl rfl (by kernel_rfl) (fun _ _ _ h => h) (Or.inl ⟨by rfl, ?_⟩) ?_ ?_
      rotate_left
      · intro w'
        go_simp
        with_reducible rfl
      rotate_left
      · simp only [Act.put, List.setIfInBounds_toArray, List.set_cons_zero, List.set_cons_succ, i64_w, i32_w]
        rfl
      refine take_ (i := 0) (N := some 36) (v := ?_) (a' := ?_) #[true, true, true, true, true, true, false, false, false, false, false, false, false, false] rfl rfl (by kernel_rfl) (fun _ _ _ h => h) (Or.inl ⟨by rfl, ?_⟩) hHeld ?_ ?_
      rotate_left
      · rintro w' ⟨s0, s1, s2⟩
        refine Eq.trans (exec_load_grid (by rfl) (by rfl) s0) ?_
        with_reducible rfl
      rotate_left
      · simp only [Act.put, List.setIfInBounds_toArray, List.set_cons_zero, List.set_cons_succ, i64_w, i32_w]
        rfl
      refine take_ (i := 6) (N := some 42) (v := ?_) (a' := ?_) #[true, true, true, true, true, true, true, false, false, false, false, false, false, false] rfl rfl (by kernel_rfl) (fun _ _ _ h => h) (Or.inl ⟨by rfl, ?_⟩) hHeld ?_ ?_
      rotate_left
      · rintro w' ⟨s0, s1, s2⟩
        refine Eq.trans (exec_load2 (by rfl) (by rfl) s1 s2) ?_
        with_reducible rfl
      rotate_left
      · simp only [Act.put, List.setIfInBounds_toArray, List.set_cons_zero, List.set_cons_succ, i64_w, i32_w]
        rfl
      refine join_ (σ := Option Addr × Nat × Nat) 2 #[true, true, true, true, true, true, true, true, true, true, true, true, false, false] (fun s => [(43, .tuple #[.agg #[.int .i64 N', .slice s.1 (xorL L L').length s.2.1], .int .i64 0]), (35, .tuple #[.agg #[.int .i64 N', .slice s.1 (xorL L L').length s.2.1], .int .i64 0]), (44, .agg #[.int .i64 N', .slice s.1 (xorL L L').length s.2.1]), (45, .int .i64 0), (8, .pointer (some ⟨s.2.2, 0, none⟩))]) (fun s w' => Below w3.heap.size w3 w' ∧ w'.heap[s.2.2]? = some (.cells #[.int .i64 0, .slice none 0 0] 26 (0, 0)) ∧ w3.heap.size ≤ s.2.2 ∧ kc.R 42 w' w3.heap.size (fun _ => True) (.slice s.1 (xorL L L').length s.2.1) (xorL L L')) ?_ ?_
      rotate_left
      · intro hCont
        refine two_ (i := 7) (j := 11) (Ni := some 43) (Nj := some 8) #[true, true, true, true, true, true, true, true, false, false, false, false, false, false] #[true, true, true, true, true, true, true, false, false, false, false, true, false, false] rfl rfl rfl rfl (by kernel_rfl) (by decide) (by decide) (fun K hK => ?_) (fun K hK => ?_)
        · skip
          refine goes_ Try.func57 (by kernel_rfl) rfl #[.agg #[.int .i64 N', .slice A L.length c], .agg #[.int .i64 N', .slice A' L'.length c']] (by rfl) rfl rfl (by simp only [List.map_toArray, List.map_cons, List.map_nil]; rfl) ?_
          with_reducible refine (rchange_any N' HN.out A A' c c' L L' HL.out HL'.out HW.out HW'.out _ (Kd.C_below HC3.out HA0.out) (Kd.C_below HC3'.out HA0.out)).mono ?_
          rintro e w4 ⟨CB, cb, rfl, hb4, hr4⟩
          refine ⟨_, rfl, ?_⟩
          have hb4x := Lib.hid hb4
          have HB4 := Lib.hid (below_then3 HA0.out hb4)
          have HR4 := Lib.hid (Kd.R_lower hr4 HA0.out.size)
          clear hb4 hr4
          refine hK.out _ _ ⟨(blk_below HX3.out HB4.out), (pw_cell_below HB4.out HI3.out), (pw_cell_below HB4.out HJ3.out)⟩ (fun hHeld => ?_)
          clear hK K
          refine norm_ (a' := ?_) ?_ ?_
          rotate_left
          · show Act.put _ (some 43) _ = _
            simp only [Act.put, List.setIfInBounds_toArray, List.set_cons_zero, List.set_cons_succ, i64_w, i32_w]
            rfl
          refine pure_ (i := 8) (N := some 35) (v := ?_) (a' := ?_) #[true, true, true, true, true, true, true, true, true, false, false, false, false, false] rfl rfl (by kernel_rfl) (fun _ _ _ h => h) (Or.inl ⟨by rfl, ?_⟩) ?_ ?_
          rotate_left
          · intro w'
            go_simp
            with_reducible rfl
          rotate_left
          · simp only [Act.put, List.setIfInBounds_toArray, List.set_cons_zero, List.set_cons_succ, i64_w, i32_w]
            rfl
          refine pure_ (i := 9) (N := some 44) (v := ?_) (a' := ?_) #[true, true, true, true, true, true, true, true, true, true, false, false, false, false] rfl rfl (by kernel_rfl) (fun _ _ _ h => h) (Or.inl ⟨by rfl, ?_⟩) ?_ ?_
          rotate_left
          · intro w'
            go_simp
            with_reducible rfl
          rotate_left
          · simp only [Act.put, List.setIfInBounds_toArray, List.set_cons_zero, List.set_cons_succ, i64_w, i32_w]
            rfl
          refine pure_ (i := 10) (N := some 45) (v := ?_) (a' := ?_) #[true, true, true, true, true, true, true, true, true, true, true, false, false, false] rfl rfl (by kernel_rfl) (fun _ _ _ h => h) (Or.inl ⟨by rfl, ?_⟩) ?_ ?_
          rotate_left
          · intro w'
            go_simp
            with_reducible rfl
          rotate_left
          · simp only [Act.put, List.setIfInBounds_toArray, List.set_cons_zero, List.set_cons_succ, i64_w, i32_w]
            rfl
          refine one_ (i := 11) (N := some 8) #[true, true, true, true, true, true, true, true, true, true, true, true, false, false] rfl rfl (by kernel_rfl) (by decide) (fun K hK => ?_)
          refine value_ (w1 := ?_) (v := ?_) (by rfl) rfl ?_ ?_
          rotate_left 2
          · go_simp
            constructor
            · rfl
            · rfl
          refine hK.out _ _ ⟨(blk_below HX3.out (HB4.out.alloc HB4.out.size _)), (pw_cell_below (HB4.out.alloc HB4.out.size _) HI3.out), (pw_cell_below (HB4.out.alloc HB4.out.size _) HJ3.out)⟩ (fun hHeld => ?_)
          clear hK K
          refine norm_ (a' := ?_) ?_ ?_
          rotate_left
          · show Act.put _ (some 8) _ = _
            simp only [Act.put, List.setIfInBounds_toArray, List.set_cons_zero, List.set_cons_succ, i64_w, i32_w]
            rfl
          exact norm_ (by simp only [putAll, Act.put, List.setIfInBounds_toArray, List.set_cons_zero, List.set_cons_succ]) (hCont (CB, cb, w4.heap.size) _ ⟨HB4.out.alloc HB4.out.size _, heap_alloc_new w4 _, HB4.out.size, Kd.R_alloc HR4.out _⟩)
        · skip
          refine value_ (w1 := ?_) (v := ?_) (by rfl) rfl ?_ ?_
          rotate_left 2
          · go_simp
            constructor
            · rfl
            · rfl
          refine hK.out _ _ ⟨(blk_below HX3.out HA1.out), (pw_cell_below HA1.out HI3.out), (pw_cell_below HA1.out HJ3.out)⟩ (fun hHeld => ?_)
          clear hK K
          refine norm_ (a' := ?_) ?_ ?_
          rotate_left
          · show Act.put _ (some 8) _ = _
            simp only [Act.put, List.setIfInBounds_toArray, List.set_cons_zero, List.set_cons_succ, i64_w, i32_w]
            rfl
          refine one_ (i := 7) (N := some 43) #[true, true, true, true, true, true, true, true, false, false, false, true, false, false] rfl rfl (by kernel_rfl) (by decide) (fun K hK => ?_)
          refine goes_ Try.func57 (by kernel_rfl) rfl #[.agg #[.int .i64 N', .slice A L.length c], .agg #[.int .i64 N', .slice A' L'.length c']] (by rfl) rfl rfl (by simp only [List.map_toArray, List.map_cons, List.map_nil]; rfl) ?_
          with_reducible refine (rchange_any N' HN.out A A' c c' L L' HL.out HL'.out HW.out HW'.out _ (Kd.C_below HC3.out HA1.out) (Kd.C_below HC3'.out HA1.out)).mono ?_
          rintro e w4 ⟨CB, cb, rfl, hb4, hr4⟩
          refine ⟨_, rfl, ?_⟩
          have hb4x := Lib.hid hb4
          have HB4 := Lib.hid (below_then3 HA1.out hb4)
          have HR4 := Lib.hid (Kd.R_lower hr4 HA1.out.size)
          clear hb4 hr4
          refine hK.out _ _ ⟨(blk_below HX3.out HB4.out), (pw_cell_below HB4.out HI3.out), (pw_cell_below HB4.out HJ3.out)⟩ (fun hHeld => ?_)
          clear hK K
          refine norm_ (a' := ?_) ?_ ?_
          rotate_left
          · show Act.put _ (some 43) _ = _
            simp only [Act.put, List.setIfInBounds_toArray, List.set_cons_zero, List.set_cons_succ, i64_w, i32_w]
            rfl
          refine pure_ (i := 8) (N := some 35) (v := ?_) (a' := ?_) #[true, true, true, true, true, true, true, true, true, false, false, true, false, false] rfl rfl (by kernel_rfl) (fun _ _ _ h => h) (Or.inl ⟨by rfl, ?_⟩) ?_ ?_
          rotate_left
          · intro w'
            go_simp
            with_reducible rfl
          rotate_left
          · simp only [Act.put, List.setIfInBounds_toArray, List.set_cons_zero, List.set_cons_succ, i64_w, i32_w]
            rfl
          refine pure_ (i := 9) (N := some 44) (v := ?_) (a' := ?_) #[true, true, true, true, true, true, true, true, true, true, false, true, false, false] rfl rfl (by kernel_rfl) (fun _ _ _ h => h) (Or.inl ⟨by rfl, ?_⟩) ?_ ?_
          rotate_left
          · intro w'
            go_simp
            with_reducible rfl
          rotate_left
          · simp only [Act.put, List.setIfInBounds_toArray, List.set_cons_zero, List.set_cons_succ, i64_w, i32_w]
            rfl
          refine pure_ (i := 10) (N := some 45) (v := ?_) (a' := ?_) #[true, true, true, true, true, true, true, true, true, true, true, true, false, false] rfl rfl (by kernel_rfl) (fun _ _ _ h => h) (Or.inl ⟨by rfl, ?_⟩) ?_ ?_
          rotate_left
          · intro w'
            go_simp
            with_reducible rfl
          rotate_left
          · simp only [Act.put, List.setIfInBounds_toArray, List.set_cons_zero, List.set_cons_succ, i64_w, i32_w]
            rfl
          exact norm_ (by simp only [putAll, Act.put, List.setIfInBounds_toArray, List.set_cons_zero, List.set_cons_succ]) (hCont (CB, cb, w3.heap.size) _ ⟨HB4.out, blk_below (show (w3.alloc (.cells #[.int .i64 0, .slice none 0 0] 26)).drew.heap[w3.heap.size]? = _ from heap_alloc_new w3 _) (below_back hb4x.out), Nat.le_refl _, HR4.out⟩)
      rintro ⟨CB, cb, hb⟩ w5 ⟨hb5, hh5, hs5, hc5⟩
      have hHeld := And.intro (blk_below HX3.out hb5) (And.intro (pw_cell_below hb5 HI3.out) (pw_cell_below hb5 HJ3.out))
      refine norm_ (a' := ?_) ?_ ?_
      rotate_left
      · simp only [putAll, Act.put, List.setIfInBounds_toArray, List.set_cons_zero, List.set_cons_succ]
        rfl
      refine last_ (i := 12) (N := none) #[true, true, true, true, true, true, true, true, true, true, true, true, true, false] rfl rfl (by kernel_rfl) (by decide) (fun K hK => ?_)
      refine store_grid_step (by rfl) rfl (.tmp 8) (.tmp 44) rfl (g := hb) (by rfl) (u := (N' : Int)) (A := CB) (n := (xorL L L').length) (c := cb) (by rfl) hh5 ?_
      intro w6 hh6 hk6 hb6
      refine hK.out _ _ ?_
      clear hK K
      refine pure_ (i := 13) (N := some 9) (v := ?_) (a' := ?_) #[true, true, true, true, true, true, true, true, true, true, true, true, true, true] rfl rfl (by kernel_rfl) (fun _ _ _ h => h) (Or.inl ⟨by rfl, ?_⟩) ?_ ?_
      rotate_left
      · intro w'
        go_simp
        with_reducible rfl
      rotate_left
      · simp only [Act.put, List.setIfInBounds_toArray, List.set_cons_zero, List.set_cons_succ, i64_w, i32_w]
        rfl
      refine done_ (by kernel_rfl) ?_
      have HH6 := Lib.hid hh6
      have HB6 := Lib.hid (HB3.out.trans (hb5.mono HB3.out.size) |>.trans (hb6.mono (Nat.le_trans HB3.out.size hs5)))
      have HR6 := Lib.hid (Kd.R_mono (ok' := fun _ => True) (Kd.R_kept (Kd.R_types (Kd.R_below HR3.out hb5) hh5 (by decide)) hk6 (fun k ho he => ho.2 he)) (fun _ _ => trivial))
      have HC6 := Lib.hid (Kd.R_reads' (Kd.R_kept (Kd.R_types hc5 hh5 (by decide)) hk6 (fun k ho he => ho.2 he))).2.2
      have HXO := Lib.hid (show FOk (N', xorL L L') from xor_ok ⟨HN.out, HL.out, HW.out⟩ ⟨HN.out, HL'.out, HW'.out⟩)
      clear hb5 hh5 hs5 hc5 hh6 hk6 hb6 hw64
      go_wp2_with (first | ((with_reducible refine gate_dst (N := 47) rfl ?_); refine load_grid rfl (.tmp 8) rfl (g := hb) ?hx (u := .int .i64 N') (v := .slice CB (xorL L L').length cb) HH6.out ?_; (case hx => go_simp)))
      refine (rpack_any N' HN.out CB cb (xorL L L') _ HC6.out HXO.out.words HXO.out.len).mono ?_
      rintro e w7 ⟨v10, rfl, hb7, hr7⟩
      obtain ⟨DA, dc, rfl⟩ := Kd.R_slice hr7
      have HB7 := Lib.hid (HB6.out.trans (hb7.mono HB6.out.size))
      have HR7 := Lib.hid (Kd.R_lower hr7 HB6.out.size)
      have HQ7 := Lib.hid (Kd.R_below HR6.out hb7)
      obtain ⟨sx, hsx⟩ : ∃ sx, sx = shortL N' (xorL L L') := ⟨_, rfl⟩
      rw [← hsx] at HR7
      rw [← hsx]
      replace hsx := Lib.hid hsx
      have HSX := Lib.hid (show sx.length ≤ 65538 by rw [hsx.out]; exact (short_ok (f := (N', xorL L L')) HXO.out).1)
      clear hb7 hr7 HH6 HR6 HC6 HX3 HR3 HC3 HC3' HB6
      by_cases hlt : sx.length < sl.length
      · have hlt' : (sx.length : Int) < (sl.length : Int) := by omega
        have HLTT := Lib.hid hlt
        clear hlt
        go_wp2_with (first
          | ((with_reducible refine gate_builtin (b := .append) (xs := #[.tmp 56, .tmp 57]) rfl ?_); at_builtin; refine Kd.R_append_row (Value.int .u8) (0 : Int) (h1 := fun _ => rfl) (w0 := w) w.heap.size rfl (.tmp 56) (.tmp 57) 22 5 (.int .u8 0) 1 rfl Try.underlying22 info5v rfl (by decide) (.slice (some ⟨w7.heap.size, 0, none⟩) 1 1) [(1 : Int)] sx DA sx.length dc (fun _ => True) rfl rfl (fun _ _ => trivial) ?aO ?aR ?aB ?aS ?aL ?_; (case aO => exact lit_R1 w7 1 _ HB7.out.size); (case aR => exact (Kd.R_reads' (Kd.R_alloc HR7.out _)).2.2); (case aB => exact HB7.out.alloc HB7.out.size _); (case aS => exact (HB7.out.alloc HB7.out.size _).size); (case aL => exact (by have := HSX.out; simp; omega)); intro v8 w8 hr8 hb8 hgr hat; have HR8 := Lib.hid (show kb.R 5 w8 w.heap.size (fun _ => True) v8 (1 :: sx) from hr8); have HB8 := Lib.hid hb8; clear hr8 hb8 hgr hat))
        go_ret
        refine ⟨v8, rfl, ?_, HB8.out⟩
        have h := HR8.out
        unfold bodyL
        dsimp only
        rw [if_pos rfl, ← hsx.out, ← hsl.out, if_pos HLTT.out]
        exact h
      · have hlt' : ¬ (sx.length : Int) < (sl.length : Int) := by omega
        have HLTT := Lib.hid hlt
        clear hlt
        go_wp2_with fail
        go_ret
        refine ⟨.slice QA (sl.length + 1) qc, rfl, ?_, HB7.out⟩
        have h := HQ7.out
        unfold bodyL
        dsimp only
        rw [if_pos rfl, ← hsx.out, ← hsl.out, if_neg HLTT.out]
        exact h
    · have hne1 : decide ((N' : Int) = (N : Int)) = false := decide_eq_false (by omega)
      have hne2 : ((N' : Int) == (N : Int)) = false := by rw [beq_eq_false_iff_ne]; omega
      have HNE := Lib.hid hNN
      clear hNN
      go_enter Try.func68, Try.ntmps68
      go_wp2_with (first | ((with_reducible refine gate_dst (N := 13) rfl ?_); refine load_grid rfl (.tmp 3) rfl (g := w.heap.size) ?hx (u := .int .i64 N) (v := .slice A L.length c) HX1.out ?_; (case hx => go_simp)))
      refine (rpack_any N HN.out A c L _ (Kd.C_below HC.out HB1.out) HW.out HL.out).mono ?_
      rintro e w2 ⟨v5, rfl, hb2, hr2⟩
      have HB2 := Lib.hid (HB1.out.trans (hb2.mono HB1.out.size))
      have HX2 := Lib.hid (blk_below HX1.out hb2)
      obtain ⟨PA, pc, rfl⟩ := Kd.R_slice hr2
      have HR2 := Lib.hid (Kd.R_lower hr2 HB1.out.size)
      obtain ⟨sl, hsl⟩ : ∃ sl, sl = shortL N L := ⟨_, rfl⟩
      rw [← hsl] at HR2
      rw [← hsl]
      replace hsl := Lib.hid hsl
      have HSL := Lib.hid (show sl.length ≤ 65538 by rw [hsl.out]; exact (short_ok (f := (N, L)) HF.out).1)
      clear hb2 hr2
      go_upto_region 3 with (first
        | ((with_reducible refine gate_builtin (b := .append) (xs := #[.tmp 17, .tmp 18]) rfl ?_); at_builtin; refine Kd.R_append_row (Value.int .u8) (0 : Int) (h1 := fun _ => rfl) (w0 := w) w.heap.size rfl (.tmp 17) (.tmp 18) 22 5 (.int .u8 0) 1 rfl Try.underlying22 info5v rfl (by decide) (.slice (some ⟨w2.heap.size, 0, none⟩) 1 1) [(0 : Int)] sl PA sl.length pc (fun _ => True) rfl rfl (fun _ _ => trivial) ?aO ?aR ?aB ?aS ?aL ?_; (case aO => exact lit_R1 w2 0 _ HB2.out.size); (case aR => exact (Kd.R_reads' (Kd.R_alloc HR2.out _)).2.2); (case aB => exact HB2.out.alloc HB2.out.size _); (case aS => exact (HB2.out.alloc HB2.out.size _).size); (case aL => exact (by have := HSL.out; simp; omega)); intro v7 w3 hr3 hb3 hgr hat; have hr4 : kb.R 5 w3 w.heap.size (fun _ => True) v7 (0 :: sl) := (by exact hr3); obtain ⟨QA, qc, rfl⟩ := Kd.R_slice hr4; have HR3 := Lib.hid hr4; have HB3 := Lib.hid hb3; have HX3 := Lib.hid (blk_below HX2.out (grown_lit hgr)); have HP3 := Lib.hid (Kd.C_below (Kd.R_reads' HR2.out).2.2 (grown_lit hgr)); clear hr3 hr4 hb3 hgr hat))
      obtain ⟨i1, j1⟩ := And.intro (pw_cell_below HB3.out HI0.out) (pw_cell_below HB3.out HJ0.out)
      obtain ⟨x1, x2, x3, x4⟩ := two_cells HX3.out
      have hw64 := HW64.out
      have hlt1 : (n : Int) < (n : Int) + 1 := by omega
      refine start_ (n := 15) (S := fun w' => w'.cell? ⟨b, n * 2, none⟩ = some (.int .i64 N') ∧ w'.cell? ⟨w.heap.size, 0, none⟩ = some (.int .i64 N)) (ds := []) #[false, false, false, false, false, false, false, false, false, false, false, false, false, false, false] (by kernel_rfl) rfl rfl ⟨i1, x1⟩ (fun hHeld => ?_)
      refine pure_ (i := 0) (N := some 20) (v := ?_) (a' := ?_) #[true, false, false, false, false, false, false, false, false, false, false, false, false, false, false] rfl rfl (by kernel_rfl) (fun _ _ _ h => h) (Or.inl ⟨by rfl, ?_⟩) ?_ ?_
      rotate_left
      · intro w'
        go_simp
        with_reducible rfl
      rotate_left
      · simp only [Act.put, List.setIfInBounds_toArray, List.set_cons_zero, List.set_cons_succ, i64_w, i32_w]
        rfl
      refine pure_ (i := 1) (N := some 21) (v := ?_) (a' := ?_) #[true, true, false, false, false, false, false, false, false, false, false, false, false, false, false] rfl rfl (by kernel_rfl) (fun _ _ _ h => h) (Or.inl ⟨by rfl, ?_⟩) ?_ ?_
      rotate_left
      · intro w'
        go_simp
        with_reducible rfl
      rotate_left
      · simp only [Act.put, List.setIfInBounds_toArray, List.set_cons_zero, List.set_cons_succ, i64_w, i32_w]
        rfl
      refine pure_ (i := 2) (N := some 22) (v := ?_) (a' := ?_) #[true, true, true, false, false, false, false, false, false, false, false, false, false, false, false] rfl rfl (by kernel_rfl) (fun _ _ _ h => h) (Or.inl ⟨by rfl, ?_⟩) ?_ ?_
      rotate_left
      · intro w'
        go_simp
        with_reducible rfl
      rotate_left
      · simp only [Act.put, List.setIfInBounds_toArray, List.set_cons_zero, List.set_cons_succ, i64_w, i32_w]
        rfl
      refine pure_ (i := 3) (N := some 23) (v := ?_) (a' := ?_) #[true, true, true, true, false, false, false, false, false, false, false, false, false, false, false] rfl rfl (by kernel_rfl) (fun _ _ _ h => h) (Or.inl ⟨by rfl, ?_⟩) ?_ ?_
      rotate_left
      · intro w'
        go_simp
        with_reducible rfl
      rotate_left
      · simp only [Act.put, List.setIfInBounds_toArray, List.set_cons_zero, List.set_cons_succ, i64_w, i32_w]
        rfl
      refine pure_ (i := 4) (N := some 24) (v := ?_) (a' := ?_) #[true, true, true, true, true, false, false, false, false, false, false, false, false, false, false] rfl rfl (by kernel_rfl) (fun _ _ _ h => h) (Or.inl ⟨by rfl, ?_⟩) ?_ ?_
      rotate_left
      · intro w'
        go_simp
        with_reducible rfl
      rotate_left
      · simp only [Act.put, List.setIfInBounds_toArray, List.set_cons_zero, List.set_cons_succ, i64_w, i32_w]
        rfl
      refine pure_ (i := 5) (N := some 25) (v := ?_) (a' := ?_) #[true, true, true, true, true, true, false, false, false, false, false, false, false, false, false] rfl rfl (by kernel_rfl) (fun _ _ _ h => h) (Or.inl ⟨by rfl, ?_⟩) ?_ ?_
      rotate_left
      · intro w'
        go_simp
        with_reducible rfl
      rotate_left
      · simp only [Act.put, List.setIfInBounds_toArray, List.set_cons_zero, List.set_cons_succ, i64_w, i32_w]
        rfl
      refine pure_ (i := 6) (N := some 26) (v := ?_) (a' := ?_) #[true, true, true, true, true, true, true, false, false, false, false, false, false, false, false] rfl rfl (by kernel_rfl) (fun _ _ _ h => h) (Or.inl ⟨by rfl, ?_⟩) ?_ ?_
      rotate_left
      · intro w'
        go_simp
        with_reducible rfl
      rotate_left
      · simp only [Act.put, List.setIfInBounds_toArray, List.set_cons_zero, List.set_cons_succ, i64_w, i32_w]
        rfl
      refine pure_ (i := 7) (N := some 27) (v := ?_) (a' := ?_) #[true, true, true, true, true, true, true, true, false, false, false, false, false, false, false] rfl rfl (by kernel_rfl) (fun _ _ _ h => h) (Or.inl ⟨by rfl, ?_⟩) ?_ ?_
      rotate_left
      · intro w'
        go_simp
        with_reducible rfl
      rotate_left
      · simp only [Act.put, List.setIfInBounds_toArray, List.set_cons_zero, List.set_cons_succ, i64_w, i32_w]
        rfl
      refine pure_ (i := 8) (N := some 28) (v := ?_) (a' := ?_) #[true, true, true, true, true, true, true, true, true, false, false, false, false, false, false] rfl rfl (by kernel_rfl) (fun _ _ _ h => h) (Or.inl ⟨by rfl, ?_⟩) ?_ ?_
      rotate_left
      · intro w'
        go_simp
        with_reducible rfl
      rotate_left
      · simp only [Act.put, List.setIfInBounds_toArray, List.set_cons_zero, List.set_cons_succ, i64_w, i32_w]
        rfl
      refine pure_ (i := 9) (N := some 29) (v := ?_) (a' := ?_) #[true, true, true, true, true, true, true, true, true, true, false, false, false, false, false] rfl rfl (by kernel_rfl) (fun _ _ _ h => h) (Or.inl ⟨by rfl, ?_⟩) ?_ ?_
      rotate_left
      · intro w'
        go_simp
        with_reducible rfl
      rotate_left
      · simp only [Act.put, List.setIfInBounds_toArray, List.set_cons_zero, List.set_cons_succ, i64_w, i32_w]
        rfl
      refine pure_ (i := 11) (N := some 31) (v := ?_) (a' := ?_) #[true, true, true, true, true, true, true, true, true, true, false, true, false, false, false] rfl rfl (by kernel_rfl) (fun _ _ _ h => h) (Or.inl ⟨by rfl, ?_⟩) ?_ ?_
      rotate_left
      · intro w'
        go_simp
        with_reducible rfl
      rotate_left
      · simp only [Act.put, List.setIfInBounds_toArray, List.set_cons_zero, List.set_cons_succ, i64_w, i32_w]
        rfl
      refine take_ (i := 10) (N := some 30) (v := ?_) (a' := ?_) #[true, true, true, true, true, true, true, true, true, true, true, true, false, false, false] rfl rfl (by kernel_rfl) (fun _ _ _ h => h) (Or.inl ⟨by rfl, ?_⟩) hHeld ?_ ?_
      rotate_left
      · rintro w' ⟨s0, s1⟩
        go_simp
        with_reducible rfl
      rotate_left
      · simp only [Act.put, List.setIfInBounds_toArray, List.set_cons_zero, List.set_cons_succ, i64_w, i32_w]
        rfl
      refine take_ (i := 12) (N := some 32) (v := ?_) (a' := ?_) #[true, true, true, true, true, true, true, true, true, true, true, true, true, false, false] rfl rfl (by kernel_rfl) (fun _ _ _ h => h) (Or.inl ⟨by rfl, ?_⟩) hHeld ?_ ?_
      rotate_left
      · rintro w' ⟨s0, s1⟩
        go_simp
        with_reducible rfl
      rotate_left
      · simp only [Act.put, List.setIfInBounds_toArray, List.set_cons_zero, List.set_cons_succ, i64_w, i32_w]
        rfl
      refine pure_ (i := 13) (N := some 33) (v := ?_) (a' := ?_) #[true, true, true, true, true, true, true, true, true, true, true, true, true, true, false] rfl rfl (by kernel_rfl) (fun _ _ _ h => h) (Or.inl ⟨by rfl, ?_⟩) ?_ ?_
      rotate_left
      · intro w'
        go_simp
        with_reducible rfl
      rotate_left
      · simp only [Act.put, List.setIfInBounds_toArray, List.set_cons_zero, List.set_cons_succ, i64_w, i32_w]
        rfl
      refine pure_ (i := 14) (N := some 34) (v := ?_) (a' := ?_) #[true, true, true, true, true, true, true, true, true, true, true, true, true, true, true] rfl rfl (by kernel_rfl) (fun _ _ _ h => h) (Or.inl ⟨by rfl, ?_⟩) ?_ ?_
      rotate_left
      · intro w'
        go_simp
        with_reducible rfl
      rotate_left
      · simp only [Act.put, List.setIfInBounds_toArray, List.set_cons_zero, List.set_cons_succ, i64_w, i32_w]
        rfl
      refine done_ (by kernel_rfl) ?_
      go_wp2_with fail
      go_ret
      refine ⟨.slice QA (sl.length + 1) qc, rfl, ?_, below_drewN HB3.out 1⟩
      have h := Kd.R_drewN HR3.out 1
      unfold bodyL
      dsimp only
      rw [if_neg HNE.out, ← hsl.out]
      exact h
end Go.Proofs.Ytomildjihlbbmaa
