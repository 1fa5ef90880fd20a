/-
  The program's Slices, Cut and Get.
-/
import Derived.Test.YtomildjihlbbmaaWlk
namespace Go.Proofs.Ytomildjihlbbmaa
open Go.RowKit Flt Num Go.Proofs.YtomildjihlbbmaaW.PrintWords Go.Proofs.YtomildjihlbbmaaW.PrintLast Go.Proofs.YtomildjihlbbmaaW.PrintMore Go.Proofs.Ytomildjihlbbmaa.PVaultReads
set_option linter.unusedVariables false
set_option linter.unusedSimpArgs false
set_option maxHeartbeats 4000000 in
set_option maxRecDepth 100000 in
theorem slices_any (A : Option Addr) (c : Nat) (b : List Int) (w : World) (hA : kb.C w A b.length b) (hc : b.length ≤ c) (hb : Bytes b) :
    Calls Try.prog 10 #[.slice A b.length c] w fun e w' => SlcOut b w e w' := by
  obtain ⟨wb, hwb⟩ : ∃ wb : World, wb = (w.alloc (.cells #[.slice none 0 0] 32)).alloc (.cells #[.int .i64 0] 3) := ⟨_, rfl⟩
  have HB := Lib.hid (show Below w.heap.size w wb by rw [hwb]; exact (below_alloc (Below.refl _ w) _).trans ((below_alloc (Below.refl _ _) _).mono (by rw [World.size_alloc]; omega)))
  have HT := Lib.hid (show TldS w.heap.size w.heap.size (w.heap.size + 1) [] 0 wb by
    rw [hwb]
    have h1 := blk_below (heap_alloc_new w (.cells #[.slice none 0 0] 32)) (below_alloc (Below.refl _ _) (.cells #[.int .i64 0] 3))
    have h2 := heap_alloc_new (w.alloc (.cells #[.slice none 0 0] 32)) (.cells #[.int .i64 0] 3)
    rw [World.size_alloc] at h2
    exact ⟨⟨_, h1, Kd.R_nil _ _ _ _ _⟩, h2⟩)
  have HCALL := Lib.hid (walkS_any w w.heap.size (w.heap.size + 1) (Nat.le_refl _) (by omega) A c b hA hc hb wb HB.out HT.out)
  have HWB := Lib.hid hwb.symm
  clear hA hc hb hwb
  have hmf : ∀ (fn : Fn) (first cap : Array Value) (w : World), (Instr.makeFunc fn first cap).run Try.prog w = .ok (.func fn first cap) w := fun _ _ _ _ => rfl
  go_enter Try.func10, Try.ntmps10
  go_wp2_with fail
  rw [HWB.out]
  refine HCALL.out.mono ?_
  rintro e w2 ⟨rfl, ⟨⟨v, h1, hr⟩, h2⟩, hb2⟩
  obtain ⟨LA, lc, rfl⟩ := Kd.R_slice hr
  have HB2 := Lib.hid hb2
  have HR := Lib.hid hr
  obtain ⟨x1, -⟩ := one_cell h1
  obtain ⟨y1, -⟩ := one_cell h2
  obtain ⟨at_, hat⟩ : ∃ a, a = (cutAll b).2 := ⟨_, rfl⟩
  rw [← hat] at y1
  have HAT := Lib.hid hat
  clear hb2 hr hat h1 h2
  by_cases he : at_ = b.length
  · have h1 : ((at_ : Int) == (b.length : Int)) = true := by rw [beq_iff_eq]; omega
    have h2 : ((at_ : Int) != (b.length : Int)) = false := by rw [bne, h1]; rfl
    have HE := Lib.hid he
    clear he
    go_wp2_with fail
    go_ret2
    exact ⟨HB2.out, .inr ⟨by rw [← HAT.out]; exact HE.out, _, rfl, HR.out⟩⟩
  · have h1 : ((at_ : Int) == (b.length : Int)) = false := by rw [beq_eq_false_iff_ne]; omega
    have h2 : ((at_ : Int) != (b.length : Int)) = true := by rw [bne, h1]; rfl
    have HE := Lib.hid he
    clear he
    go_wp2_with fail
    go_ret2
    exact ⟨HB2.out, .inl ⟨by rw [← HAT.out]; exact HE.out, rfl⟩⟩
set_option maxHeartbeats 4000000 in
set_option maxRecDepth 100000 in
theorem cut_any (A : Option Addr) (c : Nat) (b : List Int) (w : World) (hA : kb.C w A b.length b) (hc : b.length ≤ c) (hb : Bytes b) :
    Calls Try.prog 14 #[.slice A b.length c] w fun e w' => CtOut b w e w' := by
  obtain ⟨wb, hwb⟩ : ∃ wb : World, wb = (w.alloc (.cells #[.int .i64 0] 3)).alloc (.cells #[.int .i64 0] 3) := ⟨_, rfl⟩
  have HB := Lib.hid (show Below w.heap.size w wb by rw [hwb]; exact (below_alloc (Below.refl _ w) _).trans ((below_alloc (Below.refl _ _) _).mono (by rw [World.size_alloc]; omega)))
  have HT := Lib.hid (show TldC w.heap.size (w.heap.size + 1) [] 0 wb by
    rw [hwb]
    have h1 := blk_below (heap_alloc_new w (.cells #[.int .i64 0] 3)) (below_alloc (Below.refl _ _) (.cells #[.int .i64 0] 3))
    have h2 := heap_alloc_new (w.alloc (.cells #[.int .i64 0] 3)) (.cells #[.int .i64 0] 3)
    rw [World.size_alloc] at h2
    exact ⟨h1, h2⟩)
  have HCALL := Lib.hid (walkC_any w w.heap.size (w.heap.size + 1) (Nat.le_refl _) (by omega) A c b hA hc hb wb HB.out HT.out)
  have HWB := Lib.hid hwb.symm
  clear hA hc hb hwb
  have hmf : ∀ (fn : Fn) (first cap : Array Value) (w : World), (Instr.makeFunc fn first cap).run Try.prog w = .ok (.func fn first cap) w := fun _ _ _ _ => rfl
  go_enter Try.func14, Try.ntmps14
  go_wp2_with fail
  rw [HWB.out]
  refine HCALL.out.mono ?_
  rintro e w2 ⟨rfl, ⟨h1, h2⟩, hb2⟩
  have HB2 := Lib.hid hb2
  have H1 := Lib.hid h1
  have H2 := Lib.hid h2
  obtain ⟨x1, x2⟩ := one_cell h1
  obtain ⟨y1, y2⟩ := one_cell h2
  clear hb2 h1 h2
  go_wp2_with fail
  go_region
  have r1 : ((w2.setCell { block := w.heap.size, off := 0 } (.int .i64 ((cutAll b).1.length : Int))).setCell { block := w.heap.size + 1, off := 0 } (.int .i64 ((cutAll b).2 : Int))).drew.cell? ⟨w.heap.size, 0, none⟩ = some (.int .i64 ((cutAll b).1.length : Int)) := (one_cell (w := ((w2.setCell { block := w.heap.size, off := 0 } (.int .i64 ((cutAll b).1.length : Int))).setCell { block := w.heap.size + 1, off := 0 } (.int .i64 ((cutAll b).2 : Int))).drew) ((Below.heap_setCell _ _ _ _ (show w.heap.size ≠ w.heap.size + 1 by omega)).trans (one_set H1.out))).1
  have r2 : ((w2.setCell { block := w.heap.size, off := 0 } (.int .i64 ((cutAll b).1.length : Int))).setCell { block := w.heap.size + 1, off := 0 } (.int .i64 ((cutAll b).2 : Int))).drew.cell? ⟨w.heap.size + 1, 0, none⟩ = some (.int .i64 ((cutAll b).2 : Int)) := (one_cell (w := ((w2.setCell { block := w.heap.size, off := 0 } (.int .i64 ((cutAll b).1.length : Int))).setCell { block := w.heap.size + 1, off := 0 } (.int .i64 ((cutAll b).2 : Int))).drew) (one_set ((Below.heap_setCell _ _ _ _ (show w.heap.size + 1 ≠ w.heap.size by omega)).trans H2.out))).1
  have HBE := Lib.hid (show Below w.heap.size w ((w2.setCell { block := w.heap.size, off := 0 } (.int .i64 ((cutAll b).1.length : Int))).setCell { block := w.heap.size + 1, off := 0 } (.int .i64 ((cutAll b).2 : Int))).drew from below_drew ((HB2.out.setCell (Nat.le_refl _) _).setCell (Nat.le_succ _) _))
  go_wp2
  exact bodyPost_ret (v := .tuple #[.int .i64 ((cutAll b).1.length : Int), .int .i64 ((cutAll b).2 : Int)]) (by simp [results, Try.results14, go_sem, r1, r2]) rfl ⟨HBE.out, rfl⟩
set_option maxHeartbeats 8000000 in
set_option maxRecDepth 100000 in
theorem get_any (A : Option Addr) (c : Nat) (b : List Int) (i : Int) (w : World) (hA : kb.C w A b.length b) (hc : b.length ≤ c) (hb : Bytes b) :
    Calls Try.prog 12 #[.slice A b.length c, .int .i64 i] w fun e w' => GetOut b i w e w' := by
  have HZ0 := Lib.hid (heap_alloc_new w (.cells #[.int .i64 0, .slice none 0 0] 26))
  have HB0 := Lib.hid (show Below w.heap.size w (w.alloc (.cells #[.int .i64 0, .slice none 0 0] 26)) from below_alloc (Below.refl _ _) _)
  have HCALL := Lib.hid (slices_any A c b _ (Kd.C_below hA HB0.out) hc hb)
  clear hA hc hb
  go_enter Try.func12, Try.ntmps12
  go_wp2_with fail
  refine HCALL.out.mono ?_
  rintro e w2 ⟨hb2, ⟨hne, rfl⟩ | ⟨heq, v, rfl, hr⟩⟩
  · have HB2 := Lib.hid (HB0.out.trans (hb2.mono HB0.out.size))
    have HZ2 := Lib.hid (blk_below HZ0.out hb2)
    have HNE := Lib.hid hne
    clear hb2 hne
    go_wp2_with (first | ((with_reducible refine gate_store (t := 26) (p := 4) rfl ?_); refine store_grid rfl rfl (.tmp 4) (.tmp 16) rfl (g := w.heap.size) ?hp (u := 0) (A := none) (n := 0) (c := 0) ?hv HZ2.out ?_; (case hp => go_simp); (case hv => go_simp); intro wE hhE hkE hbE; have HRE := Lib.hid hhE; have HBE := Lib.hid hbE; clear hhE hkE hbE))
    obtain ⟨r1, r2, -, -⟩ := two_cells HRE.out
    exact bodyPost_ret (v := .tuple #[.agg #[.int .i64 0, .slice none 0 0], .int .i64 220]) (by simp [results, Try.results12, go_sem, r1, r2]) rfl ⟨HB2.out.trans (HBE.out.mono (Nat.le_refl _)), .inl ⟨HNE.out, rfl⟩⟩
  · have HB2 := Lib.hid (HB0.out.trans (hb2.mono HB0.out.size))
    have HZ2 := Lib.hid (blk_below HZ0.out hb2)
    have HEQ := Lib.hid heq
    have HR2 := Lib.hid hr
    obtain ⟨l, hl⟩ : ∃ l, l = (cutAll b).1 := ⟨_, rfl⟩
    rw [← hl] at HR2 hr
    have HLD := Lib.hid hl
    obtain ⟨LA, lc, rfl⟩ := Kd.R_slice hr
    clear hb2 heq hr hl
    by_cases hi : i < 0 ∨ (l.length : Int) ≤ i
    · have HI := Lib.hid hi
      rcases hi with hi | hi
      · go_wp2_with (first | ((with_reducible refine gate_store (t := 26) (p := 4) rfl ?_); refine store_grid rfl rfl (.tmp 4) (.tmp 27) rfl (g := w.heap.size) ?hp (u := 0) (A := none) (n := 0) (c := 0) ?hv HZ2.out ?_; (case hp => go_simp); (case hv => go_simp); intro wE hhE hkE hbE; have HRE := Lib.hid hhE; have HBE := Lib.hid hbE; clear hhE hkE hbE))
        obtain ⟨r1, r2, -, -⟩ := two_cells HRE.out
        exact bodyPost_ret (v := .tuple #[.agg #[.int .i64 0, .slice none 0 0], .int .i64 1]) (by simp [results, Try.results12, go_sem, r1, r2]) rfl ⟨HB2.out.trans (HBE.out.mono (Nat.le_refl _)), .inr (.inl ⟨HEQ.out, by rw [← HLD.out]; exact HI.out, rfl⟩)⟩
      · have hi0 : ¬ i < 0 := by omega
        go_wp2_with (first | ((with_reducible refine gate_store (t := 26) (p := 4) rfl ?_); refine store_grid rfl rfl (.tmp 4) (.tmp 27) rfl (g := w.heap.size) ?hp (u := 0) (A := none) (n := 0) (c := 0) ?hv HZ2.out ?_; (case hp => go_simp); (case hv => go_simp); intro wE hhE hkE hbE; have HRE := Lib.hid hhE; have HBE := Lib.hid hbE; clear hhE hkE hbE))
        obtain ⟨r1, r2, -, -⟩ := two_cells HRE.out
        exact bodyPost_ret (v := .tuple #[.agg #[.int .i64 0, .slice none 0 0], .int .i64 1]) (by simp [results, Try.results12, go_sem, r1, r2]) rfl ⟨HB2.out.trans (HBE.out.mono (Nat.le_refl _)), .inr (.inl ⟨HEQ.out, by rw [← HLD.out]; exact HI.out, rfl⟩)⟩
    · have HI := Lib.hid hi
      obtain ⟨k, rfl⟩ := Int.eq_ofNat_of_zero_le (show 0 ≤ i by omega)
      have hk : k < l.length := by omega
      obtain ⟨g, cap, B, cb, hv, c1, c2, c3⟩ := load_l HR2.out k hk
      injection hv with hv1 _ hv3
      subst hv1 hv3
      have hi0 : ¬ ((k : Nat) : Int) < 0 := by omega
      have hnn : (0 : Int) ≤ (k : Int) := by omega
      have hi1 : ¬ (l.length : Int) ≤ (k : Int) := by omega
      have hi2 : (k : Int) < (l.length : Int) := by omega
      have C1 := Lib.hid c1
      have C2 := Lib.hid c2
      have C3 := Lib.hid c3
      obtain ⟨⟨N, L⟩, hf⟩ : ∃ f : Fld, f = l.getD k (0, []) := ⟨_, rfl⟩
      rw [← hf] at C1 C2 C3
      replace hf := Lib.hid hf
      clear c1 c2 c3 hi hk
      go_wp2_with (first
        | ((with_reducible refine gate_dst (N := 31) rfl ?_); refine load_two rfl (.tmp 30) rfl (b := g) (off := k * 2) ?hx C1.out C2.out ?_; (case hx => go_simp))
        | ((with_reducible refine gate_store (t := 26) (p := 4) rfl ?_); refine store_grid rfl rfl (.tmp 4) (.tmp 31) rfl (g := w.heap.size) ?hp (u := (N : Int)) (A := B) (n := L.length) (c := cb) ?hv HZ2.out ?_; (case hp => go_simp); (case hv => go_simp); intro wE hhE hkE hbE; have HRE := Lib.hid hhE; have HKE := Lib.hid hkE; have HBE := Lib.hid hbE; clear hhE hkE hbE))
      obtain ⟨r1, r2, -, -⟩ := two_cells HRE.out
      refine bodyPost_ret (v := .tuple #[.agg #[.int .i64 N, .slice B L.length cb], .int .i64 0]) (by simp [results, Try.results12, go_sem, r1, r2]) rfl ⟨HB2.out.trans (HBE.out.mono (Nat.le_refl _)), .inr (.inr ⟨HEQ.out, by rw [← HLD.out]; exact HI.out, B, cb, ?_, ?_⟩)⟩
      · rw [← HLD.out, Int.toNat_natCast, ← hf.out]
      · rw [← HLD.out, Int.toNat_natCast, ← hf.out]
        exact (Kd.R_reads' (Kd.R_kept (Kd.R_bound C3.out) HKE.out (fun k ho he => by have h1 := ho.2.1; have h2 : k = w.heap.size := he; rw [World.size_alloc] at h1; omega))).2.2
end Go.Proofs.Ytomildjihlbbmaa

/-
  The law's Same, at two rows of the same fields.
-/
namespace Go.Proofs.Ytomildjihlbbmaa
open Go.RowKit Flt Num Go.Proofs.YtomildjihlbbmaaW.PrintWords Go.Proofs.YtomildjihlbbmaaW.PrintLast Go.Proofs.YtomildjihlbbmaaW.PrintMore Go.Proofs.Ytomildjihlbbmaa.PVaultReads
set_option linter.unusedVariables false
set_option linter.unusedSimpArgs false
set_option maxHeartbeats 8000000 in
set_option maxRecDepth 100000 in
theorem sames_any (A A' : Option Addr) (c c' : Nat) (b1 b2 : Nat) (l : List Fld) (w : World) (hA : kg.R 26 w b1 (fun _ => True) (.slice A l.length c) l) (hB : kg.R 26 w b2 (fun _ => True) (.slice A' l.length c') l) (hl : l.length ≤ 64) :
    Calls Try.prog 16 #[.slice A l.length c, .slice A' l.length c'] w fun e w' => e = .returned (.bool true) ∧ Below w.heap.size w w' := by
  have HA := Lib.hid hA
  have HB := Lib.hid hB
  have HL := Lib.hid hl
  have hq1 : ((l.length : Int) == (l.length : Int)) = true := beq_self_eq_true _
  have hq2 : ((l.length : Int) != (l.length : Int)) = false := by rw [bne, hq1]; rfl
  clear hA hB hl
  go_enter Try.func16, Try.ntmps16
  go_wp2_with fail
  clear hq1 hq2
  go_loopg [5] 66 (fun gk v5 wr => ∃ i : Nat, v5 = .int .i64 (i : Int) ∧ Hid (i + gk = 66) ∧ Hid (i ≤ l.length) ∧ Hid (Below w.heap.size w wr))
  case atStart => exact ⟨0, rfl, Lib.hid rfl, Lib.hid (Nat.zero_le _), Lib.hid (Below.refl _ _)⟩
  case round =>
    obtain ⟨i, rfl, hg, hle, hbr⟩ := hrel
    by_cases hi : i < l.length
    · have hi2 : (i : Int) < (l.length : Int) := by omega
      have hnn : (0 : Int) ≤ (i : Int) := by omega
      have hsum : wrap64 ((i : Int) + 1) = ((i + 1 : Nat) : Int) := wrap64_id (by have := HL.out; omega) (by have := HL.out; omega)
      have HS := Lib.hid hsum
      have HI := Lib.hid hi
      obtain ⟨g, cap, B1, c1, hv, x1, x2, x3⟩ := load_l (Kd.R_below HA.out hbr.out) i hi
      injection hv with hv1 _ hv3
      subst hv1 hv3
      obtain ⟨g', cap', B2, c2, hv, y1, y2, y3⟩ := load_l (Kd.R_below HB.out hbr.out) i hi
      injection hv with hv1 _ hv3
      subst hv1 hv3
      have X1 := Lib.hid x1
      have X2 := Lib.hid x2
      have X3 := Lib.hid (Kd.R_reads' x3).2.2
      have Y1 := Lib.hid y1
      have Y2 := Lib.hid y2
      have Y3 := Lib.hid (Kd.R_reads' y3).2.2
      obtain ⟨⟨N, L⟩, hf⟩ : ∃ f : Fld, f = l.getD i (0, []) := ⟨_, rfl⟩
      rw [← hf] at X1 X2 X3 Y1 Y2 Y3
      clear x1 x2 x3 y1 y2 y3 hf hi hsum
      have HA0 := Lib.hid (show Below wr.heap.size wr wr.drew from below_drewN (Below.refl _ _) 1)
      go_upto_region 6 with (fail)
      refine start_ (n := 10) (S := fun w' => w'.cell? ⟨g, i * 2, none⟩ = some (.int .i64 N) ∧ w'.cell? ⟨g, i * 2 + 1, none⟩ = some (.slice B1 L.length c1) ∧ w'.cell? ⟨g', i * 2, none⟩ = some (.int .i64 N) ∧ w'.cell? ⟨g', i * 2 + 1, none⟩ = some (.slice B2 L.length c2)) (ds := []) #[false, false, false, false, false, false, false, false, false, false] (by kernel_rfl) rfl rfl ⟨(pw_cell_below HA0.out X1.out), (pw_cell_below HA0.out X2.out), (pw_cell_below HA0.out Y1.out), (pw_cell_below HA0.out Y2.out)⟩ (fun hHeld => ?_)
      refine pure_ (i := 0) (N := some 17) (v := ?_) (a' := ?_) #[true, false, false, false, false, false, false, false, false, false] rfl rfl (by kernel_rfl) (fun _ _ _ h => h) (Or.inl ⟨by rfl, ?_⟩) ?_ ?_
      rotate_left
      · intro w'
        go_simp
        with_reducible rfl
      rotate_left
      · simp only [Act.put, List.setIfInBounds_toArray, List.set_cons_zero, List.set_cons_succ, i64_w, i32_w]
        rfl
      refine pure_ (i := 1) (N := some 18) (v := ?_) (a' := ?_) #[true, true, false, false, false, false, false, false, false, false] rfl rfl (by kernel_rfl) (fun _ _ _ h => h) (Or.inl ⟨by rfl, ?_⟩) ?_ ?_
      rotate_left
      · intro w'
        go_simp
        with_reducible rfl
      rotate_left
      · simp only [Act.put, List.setIfInBounds_toArray, List.set_cons_zero, List.set_cons_succ, i64_w, i32_w]
        rfl
      refine pure_ (i := 2) (N := some 19) (v := ?_) (a' := ?_) #[true, true, true, false, false, false, false, false, false, false] rfl rfl (by kernel_rfl) (fun _ _ _ h => h) (Or.inl ⟨by rfl, ?_⟩) ?_ ?_
      rotate_left
      · intro w'
        go_simp
        with_reducible rfl
      rotate_left
      · simp only [Act.put, List.setIfInBounds_toArray, List.set_cons_zero, List.set_cons_succ, i64_w, i32_w]
        rfl
      refine pure_ (i := 4) (N := some 21) (v := ?_) (a' := ?_) #[true, true, true, false, true, false, false, false, false, false] rfl rfl (by kernel_rfl) (fun _ _ _ h => h) (Or.inl ⟨by rfl, ?_⟩) ?_ ?_
      rotate_left
      · intro w'
        go_simp
        with_reducible rfl
      rotate_left
      · simp only [Act.put, List.setIfInBounds_toArray, List.set_cons_zero, List.set_cons_succ, i64_w, i32_w]
        rfl
      refine pure_ (i := 5) (N := some 22) (v := ?_) (a' := ?_) #[true, true, true, false, true, true, false, false, false, false] rfl rfl (by kernel_rfl) (fun _ _ _ h => h) (Or.inl ⟨by rfl, ?_⟩) ?_ ?_
      rotate_left
      · intro w'
        go_simp
        with_reducible rfl
      rotate_left
      · simp only [Act.put, List.setIfInBounds_toArray, List.set_cons_zero, List.set_cons_succ, i64_w, i32_w]
        rfl
      refine pure_ (i := 6) (N := some 23) (v := ?_) (a' := ?_) #[true, true, true, false, true, true, true, false, false, false] rfl rfl (by kernel_rfl) (fun _ _ _ h => h) (Or.inl ⟨by rfl, ?_⟩) ?_ ?_
      rotate_left
      · intro w'
        go_simp
        with_reducible rfl
      rotate_left
      · simp only [Act.put, List.setIfInBounds_toArray, List.set_cons_zero, List.set_cons_succ, i64_w, i32_w]
        rfl
      refine take_ (i := 3) (N := some 20) (v := ?_) (a' := ?_) #[true, true, true, true, true, true, true, false, false, false] rfl rfl (by kernel_rfl) (fun _ _ _ h => h) (Or.inl ⟨by rfl, ?_⟩) hHeld ?_ ?_
      rotate_left
      · rintro w' ⟨s0, s1, s2, s3⟩
        refine Eq.trans (exec_load2 (by rfl) (by rfl) s0 s1) ?_
        with_reducible rfl
      rotate_left
      · simp only [Act.put, List.setIfInBounds_toArray, List.set_cons_zero, List.set_cons_succ, i64_w, i32_w]
        rfl
      refine take_ (i := 7) (N := some 24) (v := ?_) (a' := ?_) #[true, true, true, true, true, true, true, true, false, false] rfl rfl (by kernel_rfl) (fun _ _ _ h => h) (Or.inl ⟨by rfl, ?_⟩) hHeld ?_ ?_
      rotate_left
      · rintro w' ⟨s0, s1, s2, s3⟩
        refine Eq.trans (exec_load2 (by rfl) (by rfl) s2 s3) ?_
        with_reducible rfl
      rotate_left
      · simp only [Act.put, List.setIfInBounds_toArray, List.set_cons_zero, List.set_cons_succ, i64_w, i32_w]
        rfl
      refine one_ (i := 8) (N := some 25) #[true, true, true, true, true, true, true, true, true, false] rfl rfl (by kernel_rfl) (by decide) (fun K hK => ?_)
      refine goes_ Try.func8 (by kernel_rfl) rfl #[.agg #[.int .i64 N, .slice B1 L.length c1], .agg #[.int .i64 N, .slice B2 L.length c2]] (by rfl) rfl rfl (by simp only [List.map_toArray, List.map_cons, List.map_nil]; rfl) ?_
      with_reducible refine (sameBits_any (N : Int) B1 B2 c1 c2 L _ (Kd.C_below X3.out HA0.out) (Kd.C_below Y3.out HA0.out)).mono ?_
      rintro e w4 ⟨rfl, hb4⟩
      refine ⟨_, rfl, ?_⟩
      have HB4 := Lib.hid (show Below wr.heap.size wr w4 from HA0.out.trans (hb4.mono HA0.out.size))
      clear hb4
      refine hK.out _ _ ⟨(pw_cell_below HB4.out X1.out), (pw_cell_below HB4.out X2.out), (pw_cell_below HB4.out Y1.out), (pw_cell_below HB4.out Y2.out)⟩ (fun hHeld => ?_)
      clear hK K
      refine norm_ (a' := ?_) ?_ ?_
      rotate_left
      · show Act.put _ (some 25) _ = _
        simp only [Act.put, List.setIfInBounds_toArray, List.set_cons_zero, List.set_cons_succ, i64_w, i32_w]
        rfl
      refine pure_ (i := 9) (N := some 26) (v := ?_) (a' := ?_) #[true, true, true, true, true, true, true, true, true, true] rfl rfl (by kernel_rfl) (fun _ _ _ h => h) (Or.inl ⟨by rfl, ?_⟩) ?_ ?_
      rotate_left
      · intro w'
        go_simp
        with_reducible rfl
      rotate_left
      · simp only [Act.put, List.setIfInBounds_toArray, List.set_cons_zero, List.set_cons_succ, i64_w, i32_w]
        rfl
      refine done_ (by kernel_rfl) ?_
      have hsum := HS.out
      have HBE := Lib.hid (hbr.out.trans (HB4.out.mono hbr.out.size))
      go_wp2_with fail
      go_roundg (gk - 1)
      case measure => have := hg.out; have := HI.out; have := HL.out; omega
      case rel => exact ⟨i + 1, rfl, Lib.hid (by have := hg.out; have := HI.out; have := HL.out; omega), Lib.hid (by have := HI.out; omega), HBE⟩
    · have hi2 : ¬ (i : Int) < (l.length : Int) := by omega
      clear hi
      go_wp2_with fail
      go_ret
      exact ⟨rfl, hbr.out⟩
end Go.Proofs.Ytomildjihlbbmaa
