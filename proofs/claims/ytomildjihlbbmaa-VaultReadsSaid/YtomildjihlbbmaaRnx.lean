/-
  The reference's next: the record at the head of bytes, or none.
-/
import Derived.Test.YtomildjihlbbmaaRdr
namespace Go.Proofs.Ytomildjihlbbmaa
open Go.RowKit Flt Num Go.Proofs.YtomildjihlbbmaaW.PrintWords Go.Proofs.YtomildjihlbbmaaW.PrintLast Go.Proofs.YtomildjihlbbmaaW.PrintMore Go.Proofs.Ytomildjihlbbmaa.PVaultReads
set_option linter.unusedVariables false
set_option linter.unusedSimpArgs false
attribute [local go_sem] run_f64bits run_f64from run_f32bits run_f32from
def noNext : Ending := .returned (.tuple #[.agg #[.int .i64 0, .slice none 0 0], .int .i64 0, .bool false])
/-- what the reference's next leaves -/
def NextOut (ah : Option Fld) (b : List Int) (w : World) (e : Ending) (w' : World) : Prop :=
  Below w.heap.size w w' ∧
    ((e = noNext ∧ ∀ f n, ¬ IsNext ah b f n) ∨
     (∃ (N : Nat) (L : List (Nat × Nat)) (B : Option Addr) (c n : Nat), IsNext ah b (N, L) n ∧ e = .returned (.tuple #[.agg #[.int .i64 N, .slice B L.length c], .int .i64 n, .bool true]) ∧ kc.R 42 w' w.heap.size (fun _ => True) (.slice B L.length c) L))
set_option maxHeartbeats 16000000 in
set_option maxRecDepth 100000 in
theorem rnext_any (ah : Option Fld) (v : Value) (A : Option Addr) (c : Nat) (b : List Int) (ha : ∀ g, ah = some g → FOk g) (w : World) (hA : kb.C w A b.length b) (hc : b.length ≤ c) (hb : Bytes b) (hK : Lst ah v w) :
    Calls Try.prog 43 #[v, .slice A b.length c] w fun e w' => NextOut ah b w e w' := by
  have HA := Lib.hid hA
  have HC := Lib.hid hc
  have HBY := Lib.hid hb
  have HK := Lib.hid hK
  have HAH := Lib.hid ha
  have HMAX := Lib.hid (show b.length ≤ 9223372036854775807 from Kd.C_max hA)
  have HZ0 := Lib.hid (heap_alloc_new w (.cells #[.int .i64 0, .slice none 0 0] 26))
  have HB0 := Lib.hid (show Below w.heap.size w (w.alloc (.cells #[.int .i64 0, .slice none 0 0] 26)) from below_alloc (Below.refl _ _) _)
  clear hA hc hb hK ha
  by_cases hlen : b.length ≤ 8
  · have hl' : (b.length : Int) < 9 := by omega
    have HLEN := Lib.hid hlen
    clear hlen
    go_enter Try.func43, Try.ntmps43
    go_wp2_with (first | ((with_reducible refine gate_store (t := 26) (p := 4) rfl ?_); refine store_grid rfl rfl (.tmp 4) (.tmp 13) rfl (g := w.heap.size) ?hp (u := 0) (A := none) (n := 0) (c := 0) ?hv HZ0.out ?_; (case hp => go_simp); (case hv => go_simp); intro wE hhE hkE hbE; have HRE := Lib.hid hhE; have HBE := Lib.hid hbE; clear hhE hkE hbE))
    obtain ⟨r1, r2, -, -⟩ := two_cells HRE.out
    exact bodyPost_ret (v := .tuple #[.agg #[.int .i64 0, .slice none 0 0], .int .i64 0, .bool false]) (by simp [results, Try.results43, go_sem, r1, r2]) rfl ⟨(HB0.out).trans (HBE.out.mono (Nat.le_refl _)), .inl ⟨rfl, no_next_short HLEN.out⟩⟩
  · have hl' : ¬ (b.length : Int) < 9 := by omega
    have HLEN := Lib.hid hlen
    obtain ⟨ad, rfl, h8⟩ := Kd.at_int HA.out 8 (by decide) (by omega)
    have HM4 := Lib.hid (num4_lt HBY.out (show 4 ≤ b.length by omega))
    obtain ⟨x8, e8⟩ : ∃ x, x = b.getD 8 0 := ⟨_, rfl⟩
    replace h8 : w.cell? ⟨ad.block, ad.off + 8, none⟩ = some (.int .u8 x8) := by rw [e8]; simpa [Addr.add, rd] using h8
    have H8 := Lib.hid h8
    obtain ⟨m, hm⟩ : ∃ m, m = num4 b := ⟨_, rfl⟩
    rw [← hm] at HM4
    replace e8 := Lib.hid e8
    clear h8
    go_enter Try.func43, Try.ntmps43
    go_wp2_with fail
    refine (num56_any (some ad) c b _ (Kd.C_below HA.out HB0.out) HC.out HBY.out (by have := HLEN.out; omega)).mono ?_
    rintro e wx0 ⟨rfl, ⟨nx, rfl⟩⟩
    rw [← hm]
    replace hm := Lib.hid hm
    obtain ⟨wx, hwx⟩ : ∃ wx : World, wx = (w.alloc (.cells #[.int .i64 0, .slice none 0 0] 26)).drewN nx := ⟨_, rfl⟩
    rw [← hwx]
    have hbx := Lib.hid (show Below w.heap.size w wx by rw [hwx]; exact below_drewN HB0.out nx)
    have hzx := Lib.hid (show wx.heap[w.heap.size]? = some (.cells #[.int .i64 0, .slice none 0 0] 26 (0, 0)) by rw [hwx]; exact HZ0.out)
    clear hwx hl' hlen
    by_cases hbad : m < 1 ∨ b.length < 8 + m
    · have HBAD := Lib.hid hbad
      by_cases hm1 : m < 1
      · have hb1 : (m : Int) < 1 := by omega
        clear hbad
        go_wp2_with (first | ((with_reducible refine gate_store (t := 26) (p := 4) rfl ?_); refine store_grid rfl rfl (.tmp 4) (.tmp 25) rfl (g := w.heap.size) ?hp (u := 0) (A := none) (n := 0) (c := 0) ?hv hzx.out ?_; (case hp => go_simp); (case hv => go_simp); intro wE hhE hkE hbE; have HRE := Lib.hid hhE; have HBE := Lib.hid hbE; clear hhE hkE hbE))
        obtain ⟨r1, r2, -, -⟩ := two_cells HRE.out
        exact bodyPost_ret (v := .tuple #[.agg #[.int .i64 0, .slice none 0 0], .int .i64 0, .bool false]) (by simp [results, Try.results43, go_sem, r1, r2]) rfl ⟨(hbx.out).trans (HBE.out.mono (Nat.le_refl _)), .inl ⟨rfl, no_next_num (by rw [← hm.out]; exact HBAD.out)⟩⟩
      · have hb1 : ¬ (m : Int) < 1 := by omega
        have hw8 : wrap64 ((b.length : Int) - 8) = (b.length : Int) - 8 := wrap64_id (by have := HMAX.out; omega) (by have := HMAX.out; omega)
        have hb2 : (b.length : Int) - 8 < (m : Int) := by omega
        clear hbad
        go_wp2_with (first | ((with_reducible refine gate_store (t := 26) (p := 4) rfl ?_); refine store_grid rfl rfl (.tmp 4) (.tmp 25) rfl (g := w.heap.size) ?hp (u := 0) (A := none) (n := 0) (c := 0) ?hv hzx.out ?_; (case hp => go_simp); (case hv => go_simp); intro wE hhE hkE hbE; have HRE := Lib.hid hhE; have HBE := Lib.hid hbE; clear hhE hkE hbE))
        obtain ⟨r1, r2, -, -⟩ := two_cells HRE.out
        exact bodyPost_ret (v := .tuple #[.agg #[.int .i64 0, .slice none 0 0], .int .i64 0, .bool false]) (by simp [results, Try.results43, go_sem, r1, r2]) rfl ⟨(hbx.out).trans (HBE.out.mono (Nat.le_refl _)), .inl ⟨rfl, no_next_num (by rw [← hm.out]; exact HBAD.out)⟩⟩
    · have hb1 : ¬ (m : Int) < 1 := by omega
      have HM1 := Lib.hid (show 1 ≤ m by omega)
      have HM2 := Lib.hid (show 8 + m ≤ b.length by omega)
      obtain ⟨MA, hms, hmc, hml⟩ := slice_mid (some ad) c b m HC.out HM1.out HM2.out
      obtain ⟨mid, hmid⟩ : ∃ mid, mid = (b.take (8 + m)).drop 9 := ⟨_, rfl⟩
      obtain ⟨cm, hcm⟩ : ∃ cm, cm = c - 9 := ⟨_, rfl⟩
      rw [← hmid] at hms hmc hml
      rw [← hcm] at hms hml
      have HMC := Lib.hid hmc
      have HML := Lib.hid hml
      replace hmid := Lib.hid hmid
      replace hcm := Lib.hid hcm
      have hw8 : wrap64 ((b.length : Int) - 8) = (b.length : Int) - 8 := wrap64_id (by have := HMAX.out; omega) (by have := HMAX.out; omega)
      have hb3 : (m : Int) ≤ (b.length : Int) - 8 := by omega
      have hws : wrap64 (8 + (m : Int)) = 8 + (m : Int) := wrap64_id (by have := HM4.out; omega) (by have := HM4.out; omega)
      have HWS := Lib.hid hws
      clear hbad hmc hml
      go_wp2_with fail
      have HBM := Lib.hid (show Bytes mid by rw [hmid.out]; exact bdrop (btake HBY.out _) _)
      refine (runpack_any MA cm mid wx (HMC.out _ (Kd.C_below HA.out hbx.out)) HML.out HBM.out).mono ?_
      rintro e w4 ⟨hb4, ⟨rfl, hno⟩ | ⟨N, L0, UB, cb, hp, hu, rfl, hr4⟩⟩
      · have HB4 := Lib.hid (hbx.out.trans (hb4.mono hbx.out.size))
        have HZ4 := Lib.hid (blk_below hzx.out hb4)
        have HZ5 := Lib.hid (fun o => blk_below HZ4.out (below_alloc (Below.refl _ w4) o))
        have HNO := Lib.hid hno
        clear hb4 hno hw8 hb3 hws hms
        go_wp2_with (first | ((with_reducible refine gate_store (t := 26) (p := 4) rfl ?_); refine store_grid rfl rfl (.tmp 4) (.tmp 36) rfl (g := w.heap.size) ?hp (u := 0) (A := none) (n := 0) (c := 0) ?hv (HZ5.out _) ?_; (case hp => go_simp); (case hv => go_simp); intro wE hhE hkE hbE; have HRE := Lib.hid hhE; have HBE := Lib.hid hbE; clear hhE hkE hbE))
        obtain ⟨r1, r2, -, -⟩ := two_cells HRE.out
        exact bodyPost_ret (v := .tuple #[.agg #[.int .i64 0, .slice none 0 0], .int .i64 0, .bool false]) (by simp [results, Try.results43, go_sem, r1, r2]) rfl ⟨(HB4.out.alloc HB4.out.size _).trans (HBE.out.mono (Nat.le_refl _)), .inl ⟨rfl, no_next_packs (by rw [← hm.out, ← hmid.out]; exact HNO.out)⟩⟩
      · obtain ⟨w5, hw5⟩ : ∃ w5 : World, w5 = w4.alloc (.cells #[.int .i64 N, .slice UB L0.length cb] 26) := ⟨_, rfl⟩
        have HB4 := Lib.hid (hbx.out.trans (hb4.mono hbx.out.size))
        have HB5 := Lib.hid (show Below w.heap.size w w5 by rw [hw5]; exact HB4.out.alloc HB4.out.size _)
        have H75 := Lib.hid (show w5.heap[w4.heap.size]? = some (.cells #[.int .i64 N, .slice UB L0.length cb] 26 (0, 0)) by rw [hw5]; exact heap_alloc_new w4 _)
        have HZ5 := Lib.hid (show w5.heap[w.heap.size]? = some (.cells #[.int .i64 0, .slice none 0 0] 26 (0, 0)) by rw [hw5]; exact blk_below (blk_below hzx.out hb4) (below_alloc (Below.refl _ _) _))
        have HR5 := Lib.hid (show kc.R 42 w5 w.heap.size (fun _ => True) (.slice UB L0.length cb) L0 by rw [hw5]; exact Kd.R_alloc (Kd.R_lower hr4 hbx.out.size) _)
        have HP := Lib.hid (show Packs ((b.take (8 + num4 b)).drop 9) N L0 by rw [← hm.out, ← hmid.out]; exact hp)
        have HS7 := Lib.hid (show w.heap.size < w4.heap.size from Nat.lt_of_lt_of_le (blk_lt hzx.out) hb4.size)
        obtain ⟨gb, hgb⟩ : ∃ gb, gb = w4.heap.size := ⟨_, rfl⟩
        have h85 := pw_cell_below HB5.out H8.out
        have HW5 := Lib.hid hw5.symm
        rw [← hgb] at H75 HS7
        have HGB := Lib.hid hgb.symm
        clear hb4 hw5 hgb hp hu hr4 hw8 hb3 hws hms
        by_cases hk : x8 = 1
        · subst hk
          go_upto_region 9 with (fail)
          rw [HW5.out, HGB.out]
          have hx81 : ((1 : Int) == 1) = true := rfl
          go_upto_region 10 with (fail)
          rcases ah with _ | ⟨N', L'⟩
          · obtain ⟨LA, lc, rfl⟩ := HK.out
            refine start_ (n := 15) (S := fun w' => True) (ds := []) #[false, false, false, false, false, false, false, false, false, false, false, false, false, false, false] (by kernel_rfl) rfl rfl trivial (fun hHeld => ?_)
            refine pure_ (i := 0) (N := some 41) (v := ?_) (a' := ?_) #[true, false, false, false, false, false, false, false, false, false, false, false, false, false, false] rfl rfl (by kernel_rfl) (fun _ _ _ h => h) (Or.inl ⟨by rfl, ?_⟩) ?_ ?_
            rotate_left
            · intro w'
              go_simp
              with_reducible rfl
            rotate_left
            · simp only [Act.put, List.setIfInBounds_toArray, List.set_cons_zero, List.set_cons_succ, i64_w, i32_w]
              rfl
            refine pure_ (i := 1) (N := some 42) (v := ?_) (a' := ?_) #[true, true, false, false, false, false, false, false, false, false, false, false, false, false, false] rfl rfl (by kernel_rfl) (fun _ _ _ h => h) (Or.inl ⟨by rfl, ?_⟩) ?_ ?_
            rotate_left
            · intro w'
              go_simp
              with_reducible rfl
            rotate_left
            · simp only [Act.put, List.setIfInBounds_toArray, List.set_cons_zero, List.set_cons_succ, i64_w, i32_w]
              rfl
            refine pure_ (i := 2) (N := some 43) (v := ?_) (a' := ?_) #[true, true, true, false, false, false, false, false, false, false, false, false, false, false, false] rfl rfl (by kernel_rfl) (fun _ _ _ h => h) (Or.inl ⟨by rfl, ?_⟩) ?_ ?_
            rotate_left
            · intro w'
              go_simp
              with_reducible rfl
            rotate_left
            · simp only [Act.put, List.setIfInBounds_toArray, List.set_cons_zero, List.set_cons_succ, i64_w, i32_w]
              rfl
            refine pure_ (i := 3) (N := some 44) (v := ?_) (a' := ?_) #[true, true, true, true, false, false, false, false, false, false, false, false, false, false, false] rfl rfl (by kernel_rfl) (fun _ _ _ h => h) (Or.inl ⟨by rfl, ?_⟩) ?_ ?_
            rotate_left
            · intro w'
              go_simp
              with_reducible rfl
            rotate_left
            · simp only [Act.put, List.setIfInBounds_toArray, List.set_cons_zero, List.set_cons_succ, i64_w, i32_w]
              rfl
            refine pure_ (i := 4) (N := some 45) (v := undef) (a' := ?_) #[true, true, true, true, true, false, false, false, false, false, false, false, false, false, false] rfl rfl (by kernel_rfl) (fun _ _ _ h => h) (Or.inr ⟨by rfl, rfl⟩) ?_ ?_
            rotate_left
            · simp only [Act.put, List.setIfInBounds_toArray, List.set_cons_zero, List.set_cons_succ, i64_w, i32_w]
              rfl
            refine pure_ (i := 5) (N := some 46) (v := undef) (a' := ?_) #[true, true, true, true, true, true, false, false, false, false, false, false, false, false, false] rfl rfl (by kernel_rfl) (fun _ _ _ h => h) (Or.inr ⟨by rfl, rfl⟩) ?_ ?_
            rotate_left
            · simp only [Act.put, List.setIfInBounds_toArray, List.set_cons_zero, List.set_cons_succ, i64_w, i32_w]
              rfl
            refine pure_ (i := 6) (N := some 47) (v := undef) (a' := ?_) #[true, true, true, true, true, true, true, false, false, false, false, false, false, false, false] rfl rfl (by kernel_rfl) (fun _ _ _ h => h) (Or.inr ⟨by rfl, rfl⟩) ?_ ?_
            rotate_left
            · simp only [Act.put, List.setIfInBounds_toArray, List.set_cons_zero, List.set_cons_succ, i64_w, i32_w]
              rfl
            refine pure_ (i := 7) (N := some 48) (v := undef) (a' := ?_) #[true, true, true, true, true, true, true, true, false, false, false, false, false, false, false] rfl rfl (by kernel_rfl) (fun _ _ _ h => h) (Or.inr ⟨by rfl, rfl⟩) ?_ ?_
            rotate_left
            · simp only [Act.put, List.setIfInBounds_toArray, List.set_cons_zero, List.set_cons_succ, i64_w, i32_w]
              rfl
            refine pure_ (i := 8) (N := some 49) (v := undef) (a' := ?_) #[true, true, true, true, true, true, true, true, true, false, false, false, false, false, false] rfl rfl (by kernel_rfl) (fun _ _ _ h => h) (Or.inr ⟨by rfl, rfl⟩) ?_ ?_
            rotate_left
            · simp only [Act.put, List.setIfInBounds_toArray, List.set_cons_zero, List.set_cons_succ, i64_w, i32_w]
              rfl
            refine pure_ (i := 9) (N := some 50) (v := undef) (a' := ?_) #[true, true, true, true, true, true, true, true, true, true, false, false, false, false, false] rfl rfl (by kernel_rfl) (fun _ _ _ h => h) (Or.inr ⟨by rfl, rfl⟩) ?_ ?_
            rotate_left
            · simp only [Act.put, List.setIfInBounds_toArray, List.set_cons_zero, List.set_cons_succ, i64_w, i32_w]
              rfl
            refine pure_ (i := 10) (N := some 51) (v := undef) (a' := ?_) #[true, true, true, true, true, true, true, true, true, true, true, false, false, false, false] rfl rfl (by kernel_rfl) (fun _ _ _ h => h) (Or.inr ⟨by rfl, rfl⟩) ?_ ?_
            rotate_left
            · simp only [Act.put, List.setIfInBounds_toArray, List.set_cons_zero, List.set_cons_succ, i64_w, i32_w]
              rfl
            refine pure_ (i := 11) (N := some 52) (v := undef) (a' := ?_) #[true, true, true, true, true, true, true, true, true, true, true, true, false, false, false] rfl rfl (by kernel_rfl) (fun _ _ _ h => h) (Or.inr ⟨by rfl, rfl⟩) ?_ ?_
            rotate_left
            · simp only [Act.put, List.setIfInBounds_toArray, List.set_cons_zero, List.set_cons_succ, i64_w, i32_w]
              rfl
            refine pure_ (i := 12) (N := some 53) (v := undef) (a' := ?_) #[true, true, true, true, true, true, true, true, true, true, true, true, true, false, false] rfl rfl (by kernel_rfl) (fun _ _ _ h => h) (Or.inr ⟨by rfl, rfl⟩) ?_ ?_
            rotate_left
            · simp only [Act.put, List.setIfInBounds_toArray, List.set_cons_zero, List.set_cons_succ, i64_w, i32_w]
              rfl
            refine pure_ (i := 13) (N := some 54) (v := undef) (a' := ?_) #[true, true, true, true, true, true, true, true, true, true, true, true, true, true, false] rfl rfl (by kernel_rfl) (fun _ _ _ h => h) (Or.inr ⟨by rfl, rfl⟩) ?_ ?_
            rotate_left
            · simp only [Act.put, List.setIfInBounds_toArray, List.set_cons_zero, List.set_cons_succ, i64_w, i32_w]
              rfl
            refine pure_ (i := 14) (N := some 55) (v := ?_) (a' := ?_) #[true, true, true, true, true, true, true, true, true, true, true, true, true, true, true] rfl rfl (by kernel_rfl) (fun _ _ _ h => h) (Or.inl ⟨by rfl, ?_⟩) ?_ ?_
            rotate_left
            · intro w'
              go_simp
              with_reducible rfl
            rotate_left
            · simp only [Act.put, List.setIfInBounds_toArray, List.set_cons_zero, List.set_cons_succ, i64_w, i32_w]
              rfl
            refine done_ (by kernel_rfl) ?_
            have HZ6 := Lib.hid (show w5.drew.heap[w.heap.size]? = some (.cells #[.int .i64 0, .slice none 0 0] 26 (0, 0)) from HZ5.out)
            clear hx81 h85
            go_wp2_with (first | ((with_reducible refine gate_store (t := 26) (p := 4) rfl ?_); refine store_grid rfl rfl (.tmp 4) (.tmp 56) rfl (g := w.heap.size) ?hp (u := 0) (A := none) (n := 0) (c := 0) ?hv HZ6.out ?_; (case hp => go_simp); (case hv => go_simp); intro wE hhE hkE hbE; have HRE := Lib.hid hhE; have HBE := Lib.hid hbE; clear hhE hkE hbE))
            obtain ⟨r1, r2, -, -⟩ := two_cells HRE.out
            exact bodyPost_ret (v := .tuple #[.agg #[.int .i64 0, .slice none 0 0], .int .i64 0, .bool false]) (by simp [results, Try.results43, go_sem, r1, r2]) rfl ⟨((below_drewN HB5.out 1)).trans (HBE.out.mono (Nat.le_refl _)), .inl ⟨rfl, no_next_ahead HP.out (by rw [← e8.out]) (by intro L2; simp)⟩⟩
          · obtain ⟨lb, n, cap, A', c', hv, hn, hi0, hj0, hkc⟩ := HK.out
            subst hv
            have HI0 := Lib.hid hi0
            have HJ0 := Lib.hid hj0
            have HKC0 := Lib.hid hkc
            have HKC := Lib.hid (Kd.C_below hkc HB5.out)
            have HF' := Lib.hid (HAH.out _ rfl)
            have hnn : (0 : Int) ≤ (n : Int) := by omega
            have hn64 : (n : Int) ≤ 64 := by omega
            have hlt1 : (n : Int) < (n : Int) + 1 := by omega
            have hnz : ¬ ((n : Int) + 1 = 0) := by omega
            have hnz2 : ((n : Int) + 1 == 0) = false := by rw [beq_eq_false_iff_ne]; omega
            have hw64 : wrap64 (n : Int) = (n : Int) := wrap64_id (by omega) (by omega)
            have i1 := pw_cell_below HB5.out hi0
            have j1 := pw_cell_below HB5.out hj0
            clear hi0 hj0 hkc hn
            obtain ⟨g1, g2, g3, g4⟩ := two_cells H75.out
            by_cases hNN : N' = N
            · subst hNN
              have hne2 : ((N' : Int) == (N' : Int)) = true := beq_self_eq_true _
              have hne3 : ((N' : Int) != (N' : Int)) = false := by rw [bne, hne2]; rfl
              refine start_ (n := 15) (S := fun w' => w'.cell? ⟨lb, n * 2, none⟩ = some (.int .i64 N') ∧ w'.cell? ⟨gb, 0, none⟩ = some (.int .i64 N')) (ds := []) #[false, false, false, false, false, false, false, false, false, false, false, false, false, false, false] (by kernel_rfl) rfl rfl ⟨i1, g1⟩ (fun hHeld => ?_)
              refine pure_ (i := 0) (N := some 41) (v := ?_) (a' := ?_) #[true, false, false, false, false, false, false, false, false, false, false, false, false, false, false] rfl rfl (by kernel_rfl) (fun _ _ _ h => h) (Or.inl ⟨by rfl, ?_⟩) ?_ ?_
              rotate_left
              · intro w'
                go_simp
                with_reducible rfl
              rotate_left
              · simp only [Act.put, List.setIfInBounds_toArray, List.set_cons_zero, List.set_cons_succ, i64_w, i32_w]
                rfl
              refine pure_ (i := 1) (N := some 42) (v := ?_) (a' := ?_) #[true, true, false, false, false, false, false, false, false, false, false, false, false, false, false] rfl rfl (by kernel_rfl) (fun _ _ _ h => h) (Or.inl ⟨by rfl, ?_⟩) ?_ ?_
              rotate_left
              · intro w'
                go_simp
                with_reducible rfl
              rotate_left
              · simp only [Act.put, List.setIfInBounds_toArray, List.set_cons_zero, List.set_cons_succ, i64_w, i32_w]
                rfl
              refine pure_ (i := 2) (N := some 43) (v := ?_) (a' := ?_) #[true, true, true, false, false, false, false, false, false, false, false, false, false, false, false] rfl rfl (by kernel_rfl) (fun _ _ _ h => h) (Or.inl ⟨by rfl, ?_⟩) ?_ ?_
              rotate_left
              · intro w'
                go_simp
                with_reducible rfl
              rotate_left
              · simp only [Act.put, List.setIfInBounds_toArray, List.set_cons_zero, List.set_cons_succ, i64_w, i32_w]
                rfl
              refine pure_ (i := 3) (N := some 44) (v := ?_) (a' := ?_) #[true, true, true, true, false, false, false, false, false, false, false, false, false, false, false] rfl rfl (by kernel_rfl) (fun _ _ _ h => h) (Or.inl ⟨by rfl, ?_⟩) ?_ ?_
              rotate_left
              · intro w'
                go_simp
                with_reducible rfl
              rotate_left
              · simp only [Act.put, List.setIfInBounds_toArray, List.set_cons_zero, List.set_cons_succ, i64_w, i32_w]
                rfl
              refine pure_ (i := 4) (N := some 45) (v := ?_) (a' := ?_) #[true, true, true, true, true, false, false, false, false, false, false, false, false, false, false] rfl rfl (by kernel_rfl) (fun _ _ _ h => h) (Or.inl ⟨by rfl, ?_⟩) ?_ ?_
              rotate_left
              · intro w'
                go_simp
                with_reducible rfl
              rotate_left
              · simp only [Act.put, List.setIfInBounds_toArray, List.set_cons_zero, List.set_cons_succ, i64_w, i32_w]
                rfl
              refine pure_ (i := 5) (N := some 46) (v := ?_) (a' := ?_) #[true, true, true, true, true, true, false, false, false, false, false, false, false, false, false] rfl rfl (by kernel_rfl) (fun _ _ _ h => h) (Or.inl ⟨by rfl, ?_⟩) ?_ ?_
              rotate_left
              · intro w'
                go_simp
                with_reducible rfl
              rotate_left
              · simp only [Act.put, List.setIfInBounds_toArray, List.set_cons_zero, List.set_cons_succ, i64_w, i32_w]
                rfl
              refine pure_ (i := 6) (N := some 47) (v := ?_) (a' := ?_) #[true, true, true, true, true, true, true, false, false, false, false, false, false, false, false] rfl rfl (by kernel_rfl) (fun _ _ _ h => h) (Or.inl ⟨by rfl, ?_⟩) ?_ ?_
              rotate_left
              · intro w'
                go_simp
                with_reducible rfl
              rotate_left
              · simp only [Act.put, List.setIfInBounds_toArray, List.set_cons_zero, List.set_cons_succ, i64_w, i32_w]
                rfl
              refine pure_ (i := 7) (N := some 48) (v := ?_) (a' := ?_) #[true, true, true, true, true, true, true, true, false, false, false, false, false, false, false] rfl rfl (by kernel_rfl) (fun _ _ _ h => h) (Or.inl ⟨by rfl, ?_⟩) ?_ ?_
              rotate_left
              · intro w'
                go_simp
                with_reducible rfl
              rotate_left
              · simp only [Act.put, List.setIfInBounds_toArray, List.set_cons_zero, List.set_cons_succ, i64_w, i32_w]
                rfl
              refine pure_ (i := 8) (N := some 49) (v := ?_) (a' := ?_) #[true, true, true, true, true, true, true, true, true, false, false, false, false, false, false] rfl rfl (by kernel_rfl) (fun _ _ _ h => h) (Or.inl ⟨by rfl, ?_⟩) ?_ ?_
              rotate_left
              · intro w'
                go_simp
                with_reducible rfl
              rotate_left
              · simp only [Act.put, List.setIfInBounds_toArray, List.set_cons_zero, List.set_cons_succ, i64_w, i32_w]
                rfl
              refine pure_ (i := 9) (N := some 50) (v := ?_) (a' := ?_) #[true, true, true, true, true, true, true, true, true, true, false, false, false, false, false] rfl rfl (by kernel_rfl) (fun _ _ _ h => h) (Or.inl ⟨by rfl, ?_⟩) ?_ ?_
              rotate_left
              · intro w'
                go_simp
                with_reducible rfl
              rotate_left
              · simp only [Act.put, List.setIfInBounds_toArray, List.set_cons_zero, List.set_cons_succ, i64_w, i32_w]
                rfl
              refine pure_ (i := 11) (N := some 52) (v := ?_) (a' := ?_) #[true, true, true, true, true, true, true, true, true, true, false, true, false, false, false] rfl rfl (by kernel_rfl) (fun _ _ _ h => h) (Or.inl ⟨by rfl, ?_⟩) ?_ ?_
              rotate_left
              · intro w'
                go_simp
                with_reducible rfl
              rotate_left
              · simp only [Act.put, List.setIfInBounds_toArray, List.set_cons_zero, List.set_cons_succ, i64_w, i32_w]
                rfl
              refine take_ (i := 10) (N := some 51) (v := ?_) (a' := ?_) #[true, true, true, true, true, true, true, true, true, true, true, true, false, false, false] rfl rfl (by kernel_rfl) (fun _ _ _ h => h) (Or.inl ⟨by rfl, ?_⟩) hHeld ?_ ?_
              rotate_left
              · rintro w' ⟨s0, s1⟩
                go_simp
                with_reducible rfl
              rotate_left
              · simp only [Act.put, List.setIfInBounds_toArray, List.set_cons_zero, List.set_cons_succ, i64_w, i32_w]
                rfl
              refine take_ (i := 12) (N := some 53) (v := ?_) (a' := ?_) #[true, true, true, true, true, true, true, true, true, true, true, true, true, false, false] rfl rfl (by kernel_rfl) (fun _ _ _ h => h) (Or.inl ⟨by rfl, ?_⟩) hHeld ?_ ?_
              rotate_left
              · rintro w' ⟨s0, s1⟩
                go_simp
                with_reducible rfl
              rotate_left
              · simp only [Act.put, List.setIfInBounds_toArray, List.set_cons_zero, List.set_cons_succ, i64_w, i32_w]
                rfl
              refine pure_ (i := 13) (N := some 54) (v := ?_) (a' := ?_) #[true, true, true, true, true, true, true, true, true, true, true, true, true, true, false] rfl rfl (by kernel_rfl) (fun _ _ _ h => h) (Or.inl ⟨by rfl, ?_⟩) ?_ ?_
              rotate_left
              · intro w'
                go_simp
                with_reducible rfl
              rotate_left
              · simp only [Act.put, List.setIfInBounds_toArray, List.set_cons_zero, List.set_cons_succ, i64_w, i32_w]
                rfl
              refine pure_ (i := 14) (N := some 55) (v := ?_) (a' := ?_) #[true, true, true, true, true, true, true, true, true, true, true, true, true, true, true] rfl rfl (by kernel_rfl) (fun _ _ _ h => h) (Or.inl ⟨by rfl, ?_⟩) ?_ ?_
              rotate_left
              · intro w'
                go_simp
                with_reducible rfl
              rotate_left
              · simp only [Act.put, List.setIfInBounds_toArray, List.set_cons_zero, List.set_cons_succ, i64_w, i32_w]
                rfl
              refine done_ (by kernel_rfl) ?_
              go_wp2_with fail
              have HDR := Lib.hid (show Below w5.heap.size w5 w5.drew.drew from below_drewN (Below.refl _ _) 2)
              have HD1 := Lib.hid (show Below w5.heap.size w5 w5.drew from below_drewN (Below.refl _ _) 1)
              refine start_ (n := 12) (S := fun w' => w'.heap[gb]? = some (.cells #[.int .i64 N', .slice UB L0.length cb] 26 (0, 0)) ∧ w'.cell? ⟨lb, n * 2, none⟩ = some (.int .i64 N') ∧ w'.cell? ⟨lb, n * 2 + 1, none⟩ = some (.slice A' L'.length c')) (ds := [11]) #[false, false, false, false, false, false, false, false, false, false, false, false] (by kernel_rfl) rfl rfl ⟨H75.out, i1, j1⟩ (fun hHeld => ?_)
              refine pure_ (i := 1) (N := some 59) (v := ?_) (a' := ?_) #[false, true, false, false, false, false, false, false, false, false, false, false] rfl rfl (by kernel_rfl) (fun _ _ _ h => h) (Or.inl ⟨by rfl, ?_⟩) ?_ ?_
              rotate_left
              · intro w'
                go_simp
                with_reducible rfl
              rotate_left
              · simp only [Act.put, List.setIfInBounds_toArray, List.set_cons_zero, List.set_cons_succ, i64_w, i32_w]
                rfl
              refine pure_ (i := 2) (N := some 60) (v := ?_) (a' := ?_) #[false, true, true, false, false, false, false, false, false, false, false, false] rfl rfl (by kernel_rfl) (fun _ _ _ h => h) (Or.inl ⟨by rfl, ?_⟩) ?_ ?_
              rotate_left
              · intro w'
                go_simp
                with_reducible rfl
              rotate_left
              · simp only [Act.put, List.setIfInBounds_toArray, List.set_cons_zero, List.set_cons_succ, i64_w, i32_w]
                rfl
              refine pure_ (i := 3) (N := some 61) (v := ?_) (a' := ?_) #[false, true, true, true, false, false, false, false, false, false, false, false] rfl rfl (by kernel_rfl) (fun _ _ _ h => h) (Or.inl ⟨by rfl, ?_⟩) ?_ ?_
              rotate_left
              · intro w'
                go_simp
                with_reducible rfl
              rotate_left
              · simp only [Act.put, List.setIfInBounds_toArray, List.set_cons_zero, List.set_cons_succ, i64_w, i32_w]
                rfl
              refine pure_ (i := 4) (N := some 62) (v := ?_) (a' := ?_) #[false, true, true, true, true, false, false, false, false, false, false, false] rfl rfl (by kernel_rfl) (fun _ _ _ h => h) (Or.inl ⟨by rfl, ?_⟩) ?_ ?_
              rotate_left
              · intro w'
                go_simp
                with_reducible rfl
              rotate_left
              · simp only [Act.put, List.setIfInBounds_toArray, List.set_cons_zero, List.set_cons_succ, i64_w, i32_w]
                rfl
              refine pure_ (i := 5) (N := some 63) (v := ?_) (a' := ?_) #[false, true, true, true, true, true, false, false, false, false, false, false] rfl rfl (by kernel_rfl) (fun _ _ _ h => h) (Or.inl ⟨by rfl, ?_⟩) ?_ ?_
              rotate_left
              · intro w'
                go_simp
                with_reducible rfl
              rotate_left
              · simp only [Act.put, List.setIfInBounds_toArray, List.set_cons_zero, List.set_cons_succ, i64_w, i32_w]
                rfl
              refine take_ (i := 0) (N := some 58) (v := ?_) (a' := ?_) #[true, true, true, true, true, true, false, false, false, false, false, false] rfl rfl (by kernel_rfl) (fun _ _ _ h => h) (Or.inl ⟨by rfl, ?_⟩) hHeld ?_ ?_
              rotate_left
              · rintro w' ⟨s0, s1, s2⟩
                refine Eq.trans (exec_load_grid (by rfl) (by rfl) s0) ?_
                with_reducible rfl
              rotate_left
              · simp only [Act.put, List.setIfInBounds_toArray, List.set_cons_zero, List.set_cons_succ, i64_w, i32_w]
                rfl
              refine take_ (i := 6) (N := some 64) (v := ?_) (a' := ?_) #[true, true, true, true, true, true, true, false, false, false, false, false] rfl rfl (by kernel_rfl) (fun _ _ _ h => h) (Or.inl ⟨by rfl, ?_⟩) hHeld ?_ ?_
              rotate_left
              · rintro w' ⟨s0, s1, s2⟩
                refine Eq.trans (exec_load2 (by rfl) (by rfl) s1 s2) ?_
                with_reducible rfl
              rotate_left
              · simp only [Act.put, List.setIfInBounds_toArray, List.set_cons_zero, List.set_cons_succ, i64_w, i32_w]
                rfl
              refine one_ (i := 7) (N := some 65) #[true, true, true, true, true, true, true, true, false, false, false, false] rfl rfl (by kernel_rfl) (by decide) (fun K hK => ?_)
              refine goes_ Try.func57 (by kernel_rfl) rfl #[.agg #[.int .i64 N', .slice UB L0.length cb], .agg #[.int .i64 N', .slice A' L'.length c']] (by rfl) rfl rfl (by simp only [List.map_toArray, List.map_cons, List.map_nil]; rfl) ?_
              with_reducible refine (rchange_any N' HP.out.side UB A' cb c' L0 L' HP.out.len HF'.out.len HP.out.words HF'.out.words _ (Kd.R_reads' (Kd.R_below HR5.out HDR.out)).2.2 (Kd.C_below HKC.out HDR.out)).mono ?_
              rintro e w6 ⟨FB, fc, rfl, hb6, hr6⟩
              refine ⟨_, rfl, ?_⟩
              refine hK.out _ _ ⟨(blk_below H75.out (HD1.out.trans ((below_undrew hb6).mono HD1.out.size))), (pw_cell_below (HD1.out.trans ((below_undrew hb6).mono HD1.out.size)) i1), (pw_cell_below (HD1.out.trans ((below_undrew hb6).mono HD1.out.size)) j1)⟩ (fun hHeld => ?_)
              clear hK K
              refine norm_ (a' := ?_) ?_ ?_
              rotate_left
              · show Act.put _ (some 65) _ = _
                simp only [Act.put, List.setIfInBounds_toArray, List.set_cons_zero, List.set_cons_succ, i64_w, i32_w]
                rfl
              refine pure_ (i := 8) (N := some 57) (v := ?_) (a' := ?_) #[true, true, true, true, true, true, true, true, true, false, false, false] rfl rfl (by kernel_rfl) (fun _ _ _ h => h) (Or.inl ⟨by rfl, ?_⟩) ?_ ?_
              rotate_left
              · intro w'
                go_simp
                with_reducible rfl
              rotate_left
              · simp only [Act.put, List.setIfInBounds_toArray, List.set_cons_zero, List.set_cons_succ, i64_w, i32_w]
                rfl
              refine pure_ (i := 9) (N := some 66) (v := ?_) (a' := ?_) #[true, true, true, true, true, true, true, true, true, true, false, false] rfl rfl (by kernel_rfl) (fun _ _ _ h => h) (Or.inl ⟨by rfl, ?_⟩) ?_ ?_
              rotate_left
              · intro w'
                go_simp
                with_reducible rfl
              rotate_left
              · simp only [Act.put, List.setIfInBounds_toArray, List.set_cons_zero, List.set_cons_succ, i64_w, i32_w]
                rfl
              refine pure_ (i := 10) (N := some 67) (v := ?_) (a' := ?_) #[true, true, true, true, true, true, true, true, true, true, true, false] rfl rfl (by kernel_rfl) (fun _ _ _ h => h) (Or.inl ⟨by rfl, ?_⟩) ?_ ?_
              rotate_left
              · intro w'
                go_simp
                with_reducible rfl
              rotate_left
              · simp only [Act.put, List.setIfInBounds_toArray, List.set_cons_zero, List.set_cons_succ, i64_w, i32_w]
                rfl
              refine last_ (i := 11) (N := none) #[true, true, true, true, true, true, true, true, true, true, true, true] rfl rfl (by kernel_rfl) (by decide) (fun K hK => ?_)
              refine store_grid_step (by rfl) rfl (.tmp 8) (.tmp 66) rfl (g := gb) (by rfl) (u := (N' : Int)) (A := FB) (n := (xorL L0 L').length) (c := fc) (by rfl) (blk_below H75.out (HD1.out.trans ((below_undrew hb6).mono HD1.out.size))) ?_
              intro w7 hh7 hk7 hb7
              refine hK.out _ _ ?_
              clear hK K
              refine done_ (by kernel_rfl) ?_
              have HB6 := Lib.hid (HB5.out.trans ((HD1.out.trans ((below_undrew hb6).mono HD1.out.size)).mono HB5.out.size))
              have HB7 := Lib.hid (HB6.out.trans (hb7.mono (Nat.le_of_lt HS7.out)))
              have H77 := Lib.hid hh7
              have HD6 := Lib.hid (HD1.out.trans ((below_undrew hb6).mono HD1.out.size))
              have HZ7 := Lib.hid (blk_kept (blk_below HZ5.out HD6.out) hk7 (by show ¬ (w.heap.size = gb); have := HS7.out; omega))
              have HRZ := Lib.hid (show kc.R 42 w7 w.heap.size (fun _ => True) (.slice FB (xorL L0 L').length fc) (xorL L0 L') from Kd.R_mono (Kd.R_kept (Kd.R_types (Kd.R_lower hr6 (Nat.le_trans HB5.out.size HD1.out.size)) (blk_below H75.out HD6.out) (by decide)) hk7 (fun k ho he => ho.2 he)) (fun _ _ => trivial))
              have HT := Lib.hid (show told (some (N', L')) b N' L0 (N', xorL L0 L') from by unfold told; rw [if_pos e8.out.symm]; exact ⟨L', rfl, rfl⟩)
              obtain ⟨F, hF⟩ : ∃ F, F = xorL L0 L' := ⟨_, rfl⟩
              obtain ⟨wz, hwz⟩ : ∃ wz : World, wz = w7 := ⟨_, rfl⟩
              obtain ⟨v, hv⟩ : ∃ v : Value, v = .slice (some ⟨lb, 0, none⟩) (n + 1) cap := ⟨_, rfl⟩
              have HK2 := Lib.hid (show Lst (some (N', L')) v w by rw [hv]; exact HK.out)
              clear HK
              have HK := HK2
              rw [← hF, ← hwz] at H77
              rw [← hF, ← hwz] at HRZ
              rw [← hF] at HT
              rw [← hwz] at HB7 HZ7
              rw [← hwz, ← hv]
              clear hF hwz hv HK2 hb6 hr6 hh7 hk7 hb7 HB6 HKC HI0 HJ0 H75 HZ5 HR5 HB5 h85 hx81 HB4 HW5 g1 g2 g3 g4 i1 j1 hw64 hlt1 hnz hnz2 hne2 hne3 hnn hn64 HDR HD1 HD6
              go_upto_region 13 with (fail)
              have HFO := Lib.hid (told_ok HAH.out HP.out HT.out)
              obtain ⟨htk, htc, htl⟩ := slice_take (some ad) c b m HC.out HM2.out
              obtain ⟨tk, htkd⟩ : ∃ tk, tk = b.take (8 + m) := ⟨_, rfl⟩
              rw [← htkd] at htk htc htl
              have HTC := Lib.hid htc
              have HTL := Lib.hid htl
              have HTB := Lib.hid (show Bytes tk by rw [htkd]; exact btake HBY.out _)
              replace htkd := Lib.hid htkd
              clear htc htl
              have hws := HWS.out
              have HDZ := Lib.hid (show Below wz.heap.size wz wz.drew from below_drewN (Below.refl _ _) 1)
              have HST := Lib.hid (fun W (h : Below w.heap.size w W) => Kd.C_string (P := Try.prog) (A := some ad) (c := c) Try.underlying22 Try.underlying5 Try.underlying9 (HTC.out W (Kd.C_below HA.out h)))
              have hse := str_eq (recL_ok HFO.out HAH.out).2 HTB.out
              by_cases heq : recL (some (N', L')) (N', F) = tk
              · have hdec : ((strOfNums (recL (some (N', L')) (N', F))).toList == (strOfNums tk).toList) = true := by rw [hse]; exact decide_eq_true heq
                have hdec2 : ((strOfNums (recL (some (N', L')) (N', F))).toList != (strOfNums tk).toList) = false := by rw [bne, hdec]; rfl
                have HEQ := Lib.hid heq
                clear heq hse
                refine start_ (n := 10) (S := fun w' => w'.heap[gb]? = some (.cells #[.int .i64 N', .slice FB F.length fc] 26 (0, 0)) ∧ (convert 22 9 (.slice (some ad) tk.length c)).run Try.prog w' = .ok (.string (strOfNums tk)) w') (ds := []) #[false, false, false, false, false, false, false, false, false, false] (by kernel_rfl) rfl rfl ⟨H77.out, (HST.out _ (HB7.out.trans (HDZ.out.mono HB7.out.size)))⟩ (fun hHeld => ?_)
                refine pure_ (i := 0) (N := some 68) (v := ?_) (a' := ?_) #[true, false, false, false, false, false, false, false, false, false] rfl rfl (by kernel_rfl) (fun _ _ _ h => h) (Or.inl ⟨by rfl, ?_⟩) ?_ ?_
                rotate_left
                · intro w'
                  go_simp
                  with_reducible rfl
                rotate_left
                · simp only [Act.put, List.setIfInBounds_toArray, List.set_cons_zero, List.set_cons_succ, i64_w, i32_w]
                  rfl
                refine pure_ (i := 4) (N := some 72) (v := ?_) (a' := ?_) #[true, false, false, false, true, false, false, false, false, false] rfl rfl (by kernel_rfl) (fun _ _ _ h => h) (Or.inl ⟨by rfl, ?_⟩) ?_ ?_
                rotate_left
                · intro w'
                  go_simp
                  with_reducible rfl
                rotate_left
                · simp only [Act.put, List.setIfInBounds_toArray, List.set_cons_zero, List.set_cons_succ, i64_w, i32_w]
                  rfl
                refine pure_ (i := 5) (N := some 73) (v := ?_) (a' := ?_) #[true, false, false, false, true, true, false, false, false, false] rfl rfl (by kernel_rfl) (fun _ _ _ h => h) (Or.inl ⟨by rfl, ?_⟩) ?_ ?_
                rotate_left
                · intro w'
                  go_simp
                  with_reducible rfl
                rotate_left
                · simp only [Act.put, List.setIfInBounds_toArray, List.set_cons_zero, List.set_cons_succ, i64_w, i32_w]
                  rfl
                refine pure_ (i := 6) (N := some 74) (v := ?_) (a' := ?_) #[true, false, false, false, true, true, true, false, false, false] rfl rfl (by kernel_rfl) (fun _ _ _ h => h) (Or.inl ⟨by rfl, ?_⟩) ?_ ?_
                rotate_left
                · intro w'
                  go_simp
                  with_reducible rfl
                rotate_left
                · simp only [Act.put, List.setIfInBounds_toArray, List.set_cons_zero, List.set_cons_succ, i64_w, i32_w]
                  rfl
                refine pure_ (i := 7) (N := some 75) (v := ?_) (a' := ?_) #[true, false, false, false, true, true, true, true, false, false] rfl rfl (by kernel_rfl) (fun _ _ _ h => h) (Or.inl ⟨by rfl, ?_⟩) ?_ ?_
                rotate_left
                · intro w'
                  go_simp
                  with_reducible rfl
                rotate_left
                · simp only [Act.put, List.setIfInBounds_toArray, List.set_cons_zero, List.set_cons_succ, i64_w, i32_w]
                  rfl
                refine take_ (i := 1) (N := some 69) (v := ?_) (a' := ?_) #[true, true, false, false, true, true, true, true, false, false] rfl rfl (by kernel_rfl) (fun _ _ _ h => h) (Or.inl ⟨by rfl, ?_⟩) hHeld ?_ ?_
                rotate_left
                · rintro w' ⟨s0, s1⟩
                  refine Eq.trans (exec_load_grid (by rfl) (by rfl) s0) ?_
                  with_reducible rfl
                rotate_left
                · simp only [Act.put, List.setIfInBounds_toArray, List.set_cons_zero, List.set_cons_succ, i64_w, i32_w]
                  rfl
                refine take_ (i := 8) (N := some 76) (v := ?_) (a' := ?_) #[true, true, false, false, true, true, true, true, true, false] rfl rfl (by kernel_rfl) (fun _ _ _ h => h) (Or.inl ⟨by rfl, ?_⟩) hHeld ?_ ?_
                rotate_left
                · rintro w' ⟨s0, s1⟩
                  go_simp
                  with_reducible rfl
                rotate_left
                · simp only [Act.put, List.setIfInBounds_toArray, List.set_cons_zero, List.set_cons_succ, i64_w, i32_w]
                  rfl
                refine one_ (i := 2) (N := some 70) #[true, true, true, false, true, true, true, true, true, false] rfl rfl (by kernel_rfl) (by decide) (fun K hK => ?_)
                refine goes_ Try.func58 (by kernel_rfl) rfl #[v, .agg #[.int .i64 N', .slice FB F.length fc]] (by rfl) rfl rfl (by simp only [List.map_toArray, List.map_cons, List.map_nil]; rfl) ?_
                with_reducible refine (rrecord_any (some (N', L')) v N' FB fc F HFO.out HAH.out _ (Kd.R_reads' (Kd.R_below HRZ.out HDZ.out)).2.2 ((HK.out.below HB7.out).below HDZ.out)).mono ?_
                rintro e w8 ⟨u8, rfl, hr8, hb8⟩
                refine ⟨_, rfl, ?_⟩
                obtain ⟨UA, uc, rfl⟩ := Kd.R_slice hr8
                have hcv8 := Kd.C_string (P := Try.prog) (A := UA) (c := uc) Try.underlying22 Try.underlying5 Try.underlying9 (Kd.R_reads' hr8).2.2
                clear hr8
                refine hK.out _ _ ⟨(blk_below H77.out (below_undrew hb8)), (HST.out _ (HB7.out.trans ((below_undrew2 hb8).mono HB7.out.size)))⟩ (fun hHeld => ?_)
                clear hK K
                refine norm_ (a' := ?_) ?_ ?_
                rotate_left
                · show Act.put _ (some 70) _ = _
                  simp only [Act.put, List.setIfInBounds_toArray, List.set_cons_zero, List.set_cons_succ, i64_w, i32_w]
                  rfl
                refine one_ (i := 3) (N := some 71) #[true, true, true, true, true, true, true, true, true, false] rfl rfl (by kernel_rfl) (by decide) (fun K hK => ?_)
                refine value_ (w1 := ?_) (v := ?_) (by rfl) rfl ?_ ?_
                rotate_left 2
                · go_simp
                  constructor
                  · rfl
                  · rfl
                refine hK.out _ _ ⟨hHeld.1, hHeld.2⟩ (fun hHeld => ?_)
                clear hK K
                refine norm_ (a' := ?_) ?_ ?_
                rotate_left
                · show Act.put _ (some 71) _ = _
                  simp only [Act.put, List.setIfInBounds_toArray, List.set_cons_zero, List.set_cons_succ, i64_w, i32_w]
                  rfl
                refine pure_ (i := 9) (N := some 77) (v := ?_) (a' := ?_) #[true, true, true, true, true, true, true, true, true, true] rfl rfl (by kernel_rfl) (fun _ _ _ h => h) (Or.inl ⟨by rfl, ?_⟩) ?_ ?_
                rotate_left
                · intro w'
                  go_simp
                  with_reducible rfl
                rotate_left
                · simp only [Act.put, List.setIfInBounds_toArray, List.set_cons_zero, List.set_cons_succ, i64_w, i32_w]
                  rfl
                refine done_ (by kernel_rfl) ?_
                have HB8 := Lib.hid (HB7.out.trans ((below_undrew2 hb8).mono HB7.out.size))
                have H79 := Lib.hid (blk_below H77.out (below_undrew hb8))
                have HZ9 := Lib.hid (blk_below HZ7.out (below_undrew hb8))
                have HR9 := Lib.hid (Kd.R_below HRZ.out (below_undrew hb8))
                clear hb8 hdec hdec2 htk
                go_wp2_with (first
                  | ((with_reducible refine gate_dst (N := 79) rfl ?_); refine load_grid rfl (.tmp 8) rfl (g := gb) ?hx (u := .int .i64 N') (v := .slice FB F.length fc) H79.out ?_; (case hx => go_simp))
                  | ((with_reducible refine gate_store (t := 26) (p := 4) rfl ?_); refine store_grid rfl rfl (.tmp 4) (.tmp 79) rfl (g := w.heap.size) ?hp (u := (N' : Int)) (A := FB) (n := F.length) (c := fc) ?hv HZ9.out ?_; (case hp => go_simp); (case hv => go_simp); intro wE hhE hkE hbE; have HRE := Lib.hid hhE; have HKE := Lib.hid hkE; have HBE := Lib.hid hbE; clear hhE hkE hbE))
                obtain ⟨r1, r2, -, -⟩ := two_cells HRE.out
                refine bodyPost_ret (v := .tuple #[.agg #[.int .i64 N', .slice FB F.length fc], .int .i64 (8 + (m : Int)), .bool true]) (by first | (simp [results, Try.results43, go_sem, r1, r2]; done) | (simp [results, Try.results43, go_sem, r1, r2]; exact HWS.out)) rfl ⟨HB8.out.trans (HBE.out.mono (Nat.le_refl _)), .inr ⟨N', F, FB, fc, 8 + m, ?_, by rw [Int.natCast_add]; rfl, ?_⟩⟩
                · have h := is_next (ah := (some (N', L'))) (b := b) (by rw [← hm.out]; exact HM1.out) (by rw [← hm.out]; exact HM2.out) HP.out HT.out (by rw [← hm.out, ← htkd.out]; exact HEQ.out)
                  rwa [← hm.out] at h
                · exact Kd.R_mono (Kd.R_kept (Kd.R_types HR9.out HZ9.out (by decide)) HKE.out (fun k ho he => ho.2 he)) (fun _ _ => trivial)
              · have hdec : ((strOfNums (recL (some (N', L')) (N', F))).toList == (strOfNums tk).toList) = false := by rw [hse]; exact decide_eq_false heq
                have hdec2 : ((strOfNums (recL (some (N', L')) (N', F))).toList != (strOfNums tk).toList) = true := by rw [bne, hdec]; rfl
                have HEQ := Lib.hid heq
                clear heq hse
                refine start_ (n := 10) (S := fun w' => w'.heap[gb]? = some (.cells #[.int .i64 N', .slice FB F.length fc] 26 (0, 0)) ∧ (convert 22 9 (.slice (some ad) tk.length c)).run Try.prog w' = .ok (.string (strOfNums tk)) w') (ds := []) #[false, false, false, false, false, false, false, false, false, false] (by kernel_rfl) rfl rfl ⟨H77.out, (HST.out _ (HB7.out.trans (HDZ.out.mono HB7.out.size)))⟩ (fun hHeld => ?_)
                refine pure_ (i := 0) (N := some 68) (v := ?_) (a' := ?_) #[true, false, false, false, false, false, false, false, false, false] rfl rfl (by kernel_rfl) (fun _ _ _ h => h) (Or.inl ⟨by rfl, ?_⟩) ?_ ?_
                rotate_left
                · intro w'
                  go_simp
                  with_reducible rfl
                rotate_left
                · simp only [Act.put, List.setIfInBounds_toArray, List.set_cons_zero, List.set_cons_succ, i64_w, i32_w]
                  rfl
                refine pure_ (i := 4) (N := some 72) (v := ?_) (a' := ?_) #[true, false, false, false, true, false, false, false, false, false] rfl rfl (by kernel_rfl) (fun _ _ _ h => h) (Or.inl ⟨by rfl, ?_⟩) ?_ ?_
                rotate_left
                · intro w'
                  go_simp
                  with_reducible rfl
                rotate_left
                · simp only [Act.put, List.setIfInBounds_toArray, List.set_cons_zero, List.set_cons_succ, i64_w, i32_w]
                  rfl
                refine pure_ (i := 5) (N := some 73) (v := ?_) (a' := ?_) #[true, false, false, false, true, true, false, false, false, false] rfl rfl (by kernel_rfl) (fun _ _ _ h => h) (Or.inl ⟨by rfl, ?_⟩) ?_ ?_
                rotate_left
                · intro w'
                  go_simp
                  with_reducible rfl
                rotate_left
                · simp only [Act.put, List.setIfInBounds_toArray, List.set_cons_zero, List.set_cons_succ, i64_w, i32_w]
                  rfl
                refine pure_ (i := 6) (N := some 74) (v := ?_) (a' := ?_) #[true, false, false, false, true, true, true, false, false, false] rfl rfl (by kernel_rfl) (fun _ _ _ h => h) (Or.inl ⟨by rfl, ?_⟩) ?_ ?_
                rotate_left
                · intro w'
                  go_simp
                  with_reducible rfl
                rotate_left
                · simp only [Act.put, List.setIfInBounds_toArray, List.set_cons_zero, List.set_cons_succ, i64_w, i32_w]
                  rfl
                refine pure_ (i := 7) (N := some 75) (v := ?_) (a' := ?_) #[true, false, false, false, true, true, true, true, false, false] rfl rfl (by kernel_rfl) (fun _ _ _ h => h) (Or.inl ⟨by rfl, ?_⟩) ?_ ?_
                rotate_left
                · intro w'
                  go_simp
                  with_reducible rfl
                rotate_left
                · simp only [Act.put, List.setIfInBounds_toArray, List.set_cons_zero, List.set_cons_succ, i64_w, i32_w]
                  rfl
                refine take_ (i := 1) (N := some 69) (v := ?_) (a' := ?_) #[true, true, false, false, true, true, true, true, false, false] rfl rfl (by kernel_rfl) (fun _ _ _ h => h) (Or.inl ⟨by rfl, ?_⟩) hHeld ?_ ?_
                rotate_left
                · rintro w' ⟨s0, s1⟩
                  refine Eq.trans (exec_load_grid (by rfl) (by rfl) s0) ?_
                  with_reducible rfl
                rotate_left
                · simp only [Act.put, List.setIfInBounds_toArray, List.set_cons_zero, List.set_cons_succ, i64_w, i32_w]
                  rfl
                refine take_ (i := 8) (N := some 76) (v := ?_) (a' := ?_) #[true, true, false, false, true, true, true, true, true, false] rfl rfl (by kernel_rfl) (fun _ _ _ h => h) (Or.inl ⟨by rfl, ?_⟩) hHeld ?_ ?_
                rotate_left
                · rintro w' ⟨s0, s1⟩
                  go_simp
                  with_reducible rfl
                rotate_left
                · simp only [Act.put, List.setIfInBounds_toArray, List.set_cons_zero, List.set_cons_succ, i64_w, i32_w]
                  rfl
                refine one_ (i := 2) (N := some 70) #[true, true, true, false, true, true, true, true, true, false] rfl rfl (by kernel_rfl) (by decide) (fun K hK => ?_)
                refine goes_ Try.func58 (by kernel_rfl) rfl #[v, .agg #[.int .i64 N', .slice FB F.length fc]] (by rfl) rfl rfl (by simp only [List.map_toArray, List.map_cons, List.map_nil]; rfl) ?_
                with_reducible refine (rrecord_any (some (N', L')) v N' FB fc F HFO.out HAH.out _ (Kd.R_reads' (Kd.R_below HRZ.out HDZ.out)).2.2 ((HK.out.below HB7.out).below HDZ.out)).mono ?_
                rintro e w8 ⟨u8, rfl, hr8, hb8⟩
                refine ⟨_, rfl, ?_⟩
                obtain ⟨UA, uc, rfl⟩ := Kd.R_slice hr8
                have hcv8 := Kd.C_string (P := Try.prog) (A := UA) (c := uc) Try.underlying22 Try.underlying5 Try.underlying9 (Kd.R_reads' hr8).2.2
                clear hr8
                refine hK.out _ _ ⟨(blk_below H77.out (below_undrew hb8)), (HST.out _ (HB7.out.trans ((below_undrew2 hb8).mono HB7.out.size)))⟩ (fun hHeld => ?_)
                clear hK K
                refine norm_ (a' := ?_) ?_ ?_
                rotate_left
                · show Act.put _ (some 70) _ = _
                  simp only [Act.put, List.setIfInBounds_toArray, List.set_cons_zero, List.set_cons_succ, i64_w, i32_w]
                  rfl
                refine one_ (i := 3) (N := some 71) #[true, true, true, true, true, true, true, true, true, false] rfl rfl (by kernel_rfl) (by decide) (fun K hK => ?_)
                refine value_ (w1 := ?_) (v := ?_) (by rfl) rfl ?_ ?_
                rotate_left 2
                · go_simp
                  constructor
                  · rfl
                  · rfl
                refine hK.out _ _ ⟨hHeld.1, hHeld.2⟩ (fun hHeld => ?_)
                clear hK K
                refine norm_ (a' := ?_) ?_ ?_
                rotate_left
                · show Act.put _ (some 71) _ = _
                  simp only [Act.put, List.setIfInBounds_toArray, List.set_cons_zero, List.set_cons_succ, i64_w, i32_w]
                  rfl
                refine pure_ (i := 9) (N := some 77) (v := ?_) (a' := ?_) #[true, true, true, true, true, true, true, true, true, true] rfl rfl (by kernel_rfl) (fun _ _ _ h => h) (Or.inl ⟨by rfl, ?_⟩) ?_ ?_
                rotate_left
                · intro w'
                  go_simp
                  with_reducible rfl
                rotate_left
                · simp only [Act.put, List.setIfInBounds_toArray, List.set_cons_zero, List.set_cons_succ, i64_w, i32_w]
                  rfl
                refine done_ (by kernel_rfl) ?_
                have HB8 := Lib.hid (HB7.out.trans ((below_undrew2 hb8).mono HB7.out.size))
                have HZ9 := Lib.hid (blk_below HZ7.out (below_undrew hb8))
                clear hb8 hdec hdec2 htk
                go_wp2_with (first | ((with_reducible refine gate_store (t := 26) (p := 4) rfl ?_); refine store_grid rfl rfl (.tmp 4) (.tmp 78) rfl (g := w.heap.size) ?hp (u := 0) (A := none) (n := 0) (c := 0) ?hv HZ9.out ?_; (case hp => go_simp); (case hv => go_simp); intro wE hhE hkE hbE; have HRE := Lib.hid hhE; have HBE := Lib.hid hbE; clear hhE hkE hbE))
                obtain ⟨r1, r2, -, -⟩ := two_cells HRE.out
                exact bodyPost_ret (v := .tuple #[.agg #[.int .i64 0, .slice none 0 0], .int .i64 0, .bool false]) (by simp [results, Try.results43, go_sem, r1, r2]) rfl ⟨(HB8.out).trans (HBE.out.mono (Nat.le_refl _)), .inl ⟨rfl, no_next_record HP.out HT.out (by rw [← hm.out, ← htkd.out]; exact HEQ.out)⟩⟩
            · have HNE := Lib.hid (show N' = N → False from hNN)
              have hne2 : ((N' : Int) == (N : Int)) = false := by rw [beq_eq_false_iff_ne]; omega
              have hne3 : ((N' : Int) != (N : Int)) = true := by rw [bne, hne2]; rfl
              refine start_ (n := 15) (S := fun w' => w'.cell? ⟨lb, n * 2, none⟩ = some (.int .i64 N') ∧ w'.cell? ⟨gb, 0, none⟩ = some (.int .i64 N)) (ds := []) #[false, false, false, false, false, false, false, false, false, false, false, false, false, false, false] (by kernel_rfl) rfl rfl ⟨i1, g1⟩ (fun hHeld => ?_)
              refine pure_ (i := 0) (N := some 41) (v := ?_) (a' := ?_) #[true, false, false, false, false, false, false, false, false, false, false, false, false, false, false] rfl rfl (by kernel_rfl) (fun _ _ _ h => h) (Or.inl ⟨by rfl, ?_⟩) ?_ ?_
              rotate_left
              · intro w'
                go_simp
                with_reducible rfl
              rotate_left
              · simp only [Act.put, List.setIfInBounds_toArray, List.set_cons_zero, List.set_cons_succ, i64_w, i32_w]
                rfl
              refine pure_ (i := 1) (N := some 42) (v := ?_) (a' := ?_) #[true, true, false, false, false, false, false, false, false, false, false, false, false, false, false] rfl rfl (by kernel_rfl) (fun _ _ _ h => h) (Or.inl ⟨by rfl, ?_⟩) ?_ ?_
              rotate_left
              · intro w'
                go_simp
                with_reducible rfl
              rotate_left
              · simp only [Act.put, List.setIfInBounds_toArray, List.set_cons_zero, List.set_cons_succ, i64_w, i32_w]
                rfl
              refine pure_ (i := 2) (N := some 43) (v := ?_) (a' := ?_) #[true, true, true, false, false, false, false, false, false, false, false, false, false, false, false] rfl rfl (by kernel_rfl) (fun _ _ _ h => h) (Or.inl ⟨by rfl, ?_⟩) ?_ ?_
              rotate_left
              · intro w'
                go_simp
                with_reducible rfl
              rotate_left
              · simp only [Act.put, List.setIfInBounds_toArray, List.set_cons_zero, List.set_cons_succ, i64_w, i32_w]
                rfl
              refine pure_ (i := 3) (N := some 44) (v := ?_) (a' := ?_) #[true, true, true, true, false, false, false, false, false, false, false, false, false, false, false] rfl rfl (by kernel_rfl) (fun _ _ _ h => h) (Or.inl ⟨by rfl, ?_⟩) ?_ ?_
              rotate_left
              · intro w'
                go_simp
                with_reducible rfl
              rotate_left
              · simp only [Act.put, List.setIfInBounds_toArray, List.set_cons_zero, List.set_cons_succ, i64_w, i32_w]
                rfl
              refine pure_ (i := 4) (N := some 45) (v := ?_) (a' := ?_) #[true, true, true, true, true, false, false, false, false, false, false, false, false, false, false] rfl rfl (by kernel_rfl) (fun _ _ _ h => h) (Or.inl ⟨by rfl, ?_⟩) ?_ ?_
              rotate_left
              · intro w'
                go_simp
                with_reducible rfl
              rotate_left
              · simp only [Act.put, List.setIfInBounds_toArray, List.set_cons_zero, List.set_cons_succ, i64_w, i32_w]
                rfl
              refine pure_ (i := 5) (N := some 46) (v := ?_) (a' := ?_) #[true, true, true, true, true, true, false, false, false, false, false, false, false, false, false] rfl rfl (by kernel_rfl) (fun _ _ _ h => h) (Or.inl ⟨by rfl, ?_⟩) ?_ ?_
              rotate_left
              · intro w'
                go_simp
                with_reducible rfl
              rotate_left
              · simp only [Act.put, List.setIfInBounds_toArray, List.set_cons_zero, List.set_cons_succ, i64_w, i32_w]
                rfl
              refine pure_ (i := 6) (N := some 47) (v := ?_) (a' := ?_) #[true, true, true, true, true, true, true, false, false, false, false, false, false, false, false] rfl rfl (by kernel_rfl) (fun _ _ _ h => h) (Or.inl ⟨by rfl, ?_⟩) ?_ ?_
              rotate_left
              · intro w'
                go_simp
                with_reducible rfl
              rotate_left
              · simp only [Act.put, List.setIfInBounds_toArray, List.set_cons_zero, List.set_cons_succ, i64_w, i32_w]
                rfl
              refine pure_ (i := 7) (N := some 48) (v := ?_) (a' := ?_) #[true, true, true, true, true, true, true, true, false, false, false, false, false, false, false] rfl rfl (by kernel_rfl) (fun _ _ _ h => h) (Or.inl ⟨by rfl, ?_⟩) ?_ ?_
              rotate_left
              · intro w'
                go_simp
                with_reducible rfl
              rotate_left
              · simp only [Act.put, List.setIfInBounds_toArray, List.set_cons_zero, List.set_cons_succ, i64_w, i32_w]
                rfl
              refine pure_ (i := 8) (N := some 49) (v := ?_) (a' := ?_) #[true, true, true, true, true, true, true, true, true, false, false, false, false, false, false] rfl rfl (by kernel_rfl) (fun _ _ _ h => h) (Or.inl ⟨by rfl, ?_⟩) ?_ ?_
              rotate_left
              · intro w'
                go_simp
                with_reducible rfl
              rotate_left
              · simp only [Act.put, List.setIfInBounds_toArray, List.set_cons_zero, List.set_cons_succ, i64_w, i32_w]
                rfl
              refine pure_ (i := 9) (N := some 50) (v := ?_) (a' := ?_) #[true, true, true, true, true, true, true, true, true, true, false, false, false, false, false] rfl rfl (by kernel_rfl) (fun _ _ _ h => h) (Or.inl ⟨by rfl, ?_⟩) ?_ ?_
              rotate_left
              · intro w'
                go_simp
                with_reducible rfl
              rotate_left
              · simp only [Act.put, List.setIfInBounds_toArray, List.set_cons_zero, List.set_cons_succ, i64_w, i32_w]
                rfl
              refine pure_ (i := 11) (N := some 52) (v := ?_) (a' := ?_) #[true, true, true, true, true, true, true, true, true, true, false, true, false, false, false] rfl rfl (by kernel_rfl) (fun _ _ _ h => h) (Or.inl ⟨by rfl, ?_⟩) ?_ ?_
              rotate_left
              · intro w'
                go_simp
                with_reducible rfl
              rotate_left
              · simp only [Act.put, List.setIfInBounds_toArray, List.set_cons_zero, List.set_cons_succ, i64_w, i32_w]
                rfl
              refine take_ (i := 10) (N := some 51) (v := ?_) (a' := ?_) #[true, true, true, true, true, true, true, true, true, true, true, true, false, false, false] rfl rfl (by kernel_rfl) (fun _ _ _ h => h) (Or.inl ⟨by rfl, ?_⟩) hHeld ?_ ?_
              rotate_left
              · rintro w' ⟨s0, s1⟩
                go_simp
                with_reducible rfl
              rotate_left
              · simp only [Act.put, List.setIfInBounds_toArray, List.set_cons_zero, List.set_cons_succ, i64_w, i32_w]
                rfl
              refine take_ (i := 12) (N := some 53) (v := ?_) (a' := ?_) #[true, true, true, true, true, true, true, true, true, true, true, true, true, false, false] rfl rfl (by kernel_rfl) (fun _ _ _ h => h) (Or.inl ⟨by rfl, ?_⟩) hHeld ?_ ?_
              rotate_left
              · rintro w' ⟨s0, s1⟩
                go_simp
                with_reducible rfl
              rotate_left
              · simp only [Act.put, List.setIfInBounds_toArray, List.set_cons_zero, List.set_cons_succ, i64_w, i32_w]
                rfl
              refine pure_ (i := 13) (N := some 54) (v := ?_) (a' := ?_) #[true, true, true, true, true, true, true, true, true, true, true, true, true, true, false] rfl rfl (by kernel_rfl) (fun _ _ _ h => h) (Or.inl ⟨by rfl, ?_⟩) ?_ ?_
              rotate_left
              · intro w'
                go_simp
                with_reducible rfl
              rotate_left
              · simp only [Act.put, List.setIfInBounds_toArray, List.set_cons_zero, List.set_cons_succ, i64_w, i32_w]
                rfl
              refine pure_ (i := 14) (N := some 55) (v := ?_) (a' := ?_) #[true, true, true, true, true, true, true, true, true, true, true, true, true, true, true] rfl rfl (by kernel_rfl) (fun _ _ _ h => h) (Or.inl ⟨by rfl, ?_⟩) ?_ ?_
              rotate_left
              · intro w'
                go_simp
                with_reducible rfl
              rotate_left
              · simp only [Act.put, List.setIfInBounds_toArray, List.set_cons_zero, List.set_cons_succ, i64_w, i32_w]
                rfl
              refine done_ (by kernel_rfl) ?_
              have HZ6 := Lib.hid (show w5.drew.heap[w.heap.size]? = some (.cells #[.int .i64 0, .slice none 0 0] 26 (0, 0)) from HZ5.out)
              clear hx81 h85 g1 g2 g3 g4 i1 j1 hw64 hlt1
              go_wp2_with (first | ((with_reducible refine gate_store (t := 26) (p := 4) rfl ?_); refine store_grid rfl rfl (.tmp 4) (.tmp 56) rfl (g := w.heap.size) ?hp (u := 0) (A := none) (n := 0) (c := 0) ?hv HZ6.out ?_; (case hp => go_simp); (case hv => go_simp); intro wE hhE hkE hbE; have HRE := Lib.hid hhE; have HBE := Lib.hid hbE; clear hhE hkE hbE))
              obtain ⟨r1, r2, -, -⟩ := two_cells HRE.out
              exact bodyPost_ret (v := .tuple #[.agg #[.int .i64 0, .slice none 0 0], .int .i64 0, .bool false]) (by simp [results, Try.results43, go_sem, r1, r2]) rfl ⟨((below_drewN HB5.out 1)).trans (HBE.out.mono (Nat.le_refl _)), .inl ⟨rfl, no_next_ahead HP.out (by rw [← e8.out]) (by intro L2 e; injection e with e; injection e with e _; exact HNE.out e)⟩⟩
        · have hx81 : (x8 == 1) = false := by rw [beq_eq_false_iff_ne]; exact hk
          have HXK := Lib.hid hk
          clear hk
          go_upto_region 9 with (fail)
          rw [HW5.out, HGB.out]
          have HT := Lib.hid (show told ah b N L0 (N, L0) from by unfold told; rw [if_neg (by rw [← e8.out]; exact HXK.out)])
          have HB7 := HB5
          have HZ7 := HZ5
          have HRZ := HR5
          have H77 := H75
          obtain ⟨F, hF⟩ : ∃ F, F = L0 := ⟨_, rfl⟩
          obtain ⟨FB, hFB⟩ : ∃ FB, FB = UB := ⟨_, rfl⟩
          obtain ⟨fc, hfc⟩ : ∃ fc, fc = cb := ⟨_, rfl⟩
          obtain ⟨wz, hwz⟩ : ∃ wz : World, wz = w5 := ⟨_, rfl⟩
          have HT2 := Lib.hid (show told ah b N L0 (N, F) by rw [hF]; exact HT.out)
          clear HT
          have HT := HT2
          rw [← hF, ← hFB, ← hfc, ← hwz] at H77
          rw [← hF, ← hFB, ← hfc, ← hwz] at HRZ
          rw [← hwz] at HB7 HZ7 h85
          rw [← hwz]
          clear hF hFB hfc hwz HT2 H75 HZ5 HR5 HB5 HB4 HW5
          go_upto_region 13 with (fail)
          clear h85 hx81
          have HFO := Lib.hid (told_ok HAH.out HP.out HT.out)
          obtain ⟨htk, htc, htl⟩ := slice_take (some ad) c b m HC.out HM2.out
          obtain ⟨tk, htkd⟩ : ∃ tk, tk = b.take (8 + m) := ⟨_, rfl⟩
          rw [← htkd] at htk htc htl
          have HTC := Lib.hid htc
          have HTL := Lib.hid htl
          have HTB := Lib.hid (show Bytes tk by rw [htkd]; exact btake HBY.out _)
          replace htkd := Lib.hid htkd
          clear htc htl
          have hws := HWS.out
          have HDZ := Lib.hid (show Below wz.heap.size wz wz.drew from below_drewN (Below.refl _ _) 1)
          have HST := Lib.hid (fun W (h : Below w.heap.size w W) => Kd.C_string (P := Try.prog) (A := some ad) (c := c) Try.underlying22 Try.underlying5 Try.underlying9 (HTC.out W (Kd.C_below HA.out h)))
          have hse := str_eq (recL_ok HFO.out HAH.out).2 HTB.out
          by_cases heq : recL ah (N, F) = tk
          · have hdec : ((strOfNums (recL ah (N, F))).toList == (strOfNums tk).toList) = true := by rw [hse]; exact decide_eq_true heq
            have hdec2 : ((strOfNums (recL ah (N, F))).toList != (strOfNums tk).toList) = false := by rw [bne, hdec]; rfl
            have HEQ := Lib.hid heq
            clear heq hse
            refine start_ (n := 10) (S := fun w' => w'.heap[gb]? = some (.cells #[.int .i64 N, .slice FB F.length fc] 26 (0, 0)) ∧ (convert 22 9 (.slice (some ad) tk.length c)).run Try.prog w' = .ok (.string (strOfNums tk)) w') (ds := []) #[false, false, false, false, false, false, false, false, false, false] (by kernel_rfl) rfl rfl ⟨H77.out, (HST.out _ (HB7.out.trans (HDZ.out.mono HB7.out.size)))⟩ (fun hHeld => ?_)
            refine pure_ (i := 0) (N := some 68) (v := ?_) (a' := ?_) #[true, false, false, false, false, false, false, false, false, false] rfl rfl (by kernel_rfl) (fun _ _ _ h => h) (Or.inl ⟨by rfl, ?_⟩) ?_ ?_
            rotate_left
            · intro w'
              go_simp
              with_reducible rfl
            rotate_left
            · simp only [Act.put, List.setIfInBounds_toArray, List.set_cons_zero, List.set_cons_succ, i64_w, i32_w]
              rfl
            refine pure_ (i := 4) (N := some 72) (v := ?_) (a' := ?_) #[true, false, false, false, true, false, false, false, false, false] rfl rfl (by kernel_rfl) (fun _ _ _ h => h) (Or.inl ⟨by rfl, ?_⟩) ?_ ?_
            rotate_left
            · intro w'
              go_simp
              with_reducible rfl
            rotate_left
            · simp only [Act.put, List.setIfInBounds_toArray, List.set_cons_zero, List.set_cons_succ, i64_w, i32_w]
              rfl
            refine pure_ (i := 5) (N := some 73) (v := ?_) (a' := ?_) #[true, false, false, false, true, true, false, false, false, false] rfl rfl (by kernel_rfl) (fun _ _ _ h => h) (Or.inl ⟨by rfl, ?_⟩) ?_ ?_
            rotate_left
            · intro w'
              go_simp
              with_reducible rfl
            rotate_left
            · simp only [Act.put, List.setIfInBounds_toArray, List.set_cons_zero, List.set_cons_succ, i64_w, i32_w]
              rfl
            refine pure_ (i := 6) (N := some 74) (v := ?_) (a' := ?_) #[true, false, false, false, true, true, true, false, false, false] rfl rfl (by kernel_rfl) (fun _ _ _ h => h) (Or.inl ⟨by rfl, ?_⟩) ?_ ?_
            rotate_left
            · intro w'
              go_simp
              with_reducible rfl
            rotate_left
            · simp only [Act.put, List.setIfInBounds_toArray, List.set_cons_zero, List.set_cons_succ, i64_w, i32_w]
              rfl
            refine pure_ (i := 7) (N := some 75) (v := ?_) (a' := ?_) #[true, false, false, false, true, true, true, true, false, false] rfl rfl (by kernel_rfl) (fun _ _ _ h => h) (Or.inl ⟨by rfl, ?_⟩) ?_ ?_
            rotate_left
            · intro w'
              go_simp
              with_reducible rfl
            rotate_left
            · simp only [Act.put, List.setIfInBounds_toArray, List.set_cons_zero, List.set_cons_succ, i64_w, i32_w]
              rfl
            refine take_ (i := 1) (N := some 69) (v := ?_) (a' := ?_) #[true, true, false, false, true, true, true, true, false, false] rfl rfl (by kernel_rfl) (fun _ _ _ h => h) (Or.inl ⟨by rfl, ?_⟩) hHeld ?_ ?_
            rotate_left
            · rintro w' ⟨s0, s1⟩
              refine Eq.trans (exec_load_grid (by rfl) (by rfl) s0) ?_
              with_reducible rfl
            rotate_left
            · simp only [Act.put, List.setIfInBounds_toArray, List.set_cons_zero, List.set_cons_succ, i64_w, i32_w]
              rfl
            refine take_ (i := 8) (N := some 76) (v := ?_) (a' := ?_) #[true, true, false, false, true, true, true, true, true, false] rfl rfl (by kernel_rfl) (fun _ _ _ h => h) (Or.inl ⟨by rfl, ?_⟩) hHeld ?_ ?_
            rotate_left
            · rintro w' ⟨s0, s1⟩
              go_simp
              with_reducible rfl
            rotate_left
            · simp only [Act.put, List.setIfInBounds_toArray, List.set_cons_zero, List.set_cons_succ, i64_w, i32_w]
              rfl
            refine one_ (i := 2) (N := some 70) #[true, true, true, false, true, true, true, true, true, false] rfl rfl (by kernel_rfl) (by decide) (fun K hK => ?_)
            refine goes_ Try.func58 (by kernel_rfl) rfl #[v, .agg #[.int .i64 N, .slice FB F.length fc]] (by rfl) rfl rfl (by simp only [List.map_toArray, List.map_cons, List.map_nil]; rfl) ?_
            with_reducible refine (rrecord_any ah v N FB fc F HFO.out HAH.out _ (Kd.R_reads' (Kd.R_below HRZ.out HDZ.out)).2.2 ((HK.out.below HB7.out).below HDZ.out)).mono ?_
            rintro e w8 ⟨u8, rfl, hr8, hb8⟩
            refine ⟨_, rfl, ?_⟩
            obtain ⟨UA, uc, rfl⟩ := Kd.R_slice hr8
            have hcv8 := Kd.C_string (P := Try.prog) (A := UA) (c := uc) Try.underlying22 Try.underlying5 Try.underlying9 (Kd.R_reads' hr8).2.2
            clear hr8
            refine hK.out _ _ ⟨(blk_below H77.out (below_undrew hb8)), (HST.out _ (HB7.out.trans ((below_undrew2 hb8).mono HB7.out.size)))⟩ (fun hHeld => ?_)
            clear hK K
            refine norm_ (a' := ?_) ?_ ?_
            rotate_left
            · show Act.put _ (some 70) _ = _
              simp only [Act.put, List.setIfInBounds_toArray, List.set_cons_zero, List.set_cons_succ, i64_w, i32_w]
              rfl
            refine one_ (i := 3) (N := some 71) #[true, true, true, true, true, true, true, true, true, false] rfl rfl (by kernel_rfl) (by decide) (fun K hK => ?_)
            refine value_ (w1 := ?_) (v := ?_) (by rfl) rfl ?_ ?_
            rotate_left 2
            · go_simp
              constructor
              · rfl
              · rfl
            refine hK.out _ _ ⟨hHeld.1, hHeld.2⟩ (fun hHeld => ?_)
            clear hK K
            refine norm_ (a' := ?_) ?_ ?_
            rotate_left
            · show Act.put _ (some 71) _ = _
              simp only [Act.put, List.setIfInBounds_toArray, List.set_cons_zero, List.set_cons_succ, i64_w, i32_w]
              rfl
            refine pure_ (i := 9) (N := some 77) (v := ?_) (a' := ?_) #[true, true, true, true, true, true, true, true, true, true] rfl rfl (by kernel_rfl) (fun _ _ _ h => h) (Or.inl ⟨by rfl, ?_⟩) ?_ ?_
            rotate_left
            · intro w'
              go_simp
              with_reducible rfl
            rotate_left
            · simp only [Act.put, List.setIfInBounds_toArray, List.set_cons_zero, List.set_cons_succ, i64_w, i32_w]
              rfl
            refine done_ (by kernel_rfl) ?_
            have HB8 := Lib.hid (HB7.out.trans ((below_undrew2 hb8).mono HB7.out.size))
            have H79 := Lib.hid (blk_below H77.out (below_undrew hb8))
            have HZ9 := Lib.hid (blk_below HZ7.out (below_undrew hb8))
            have HR9 := Lib.hid (Kd.R_below HRZ.out (below_undrew hb8))
            clear hb8 hdec hdec2 htk
            go_wp2_with (first
              | ((with_reducible refine gate_dst (N := 79) rfl ?_); refine load_grid rfl (.tmp 8) rfl (g := gb) ?hx (u := .int .i64 N) (v := .slice FB F.length fc) H79.out ?_; (case hx => go_simp))
              | ((with_reducible refine gate_store (t := 26) (p := 4) rfl ?_); refine store_grid rfl rfl (.tmp 4) (.tmp 79) rfl (g := w.heap.size) ?hp (u := (N : Int)) (A := FB) (n := F.length) (c := fc) ?hv HZ9.out ?_; (case hp => go_simp); (case hv => go_simp); intro wE hhE hkE hbE; have HRE := Lib.hid hhE; have HKE := Lib.hid hkE; have HBE := Lib.hid hbE; clear hhE hkE hbE))
            obtain ⟨r1, r2, -, -⟩ := two_cells HRE.out
            refine bodyPost_ret (v := .tuple #[.agg #[.int .i64 N, .slice FB F.length fc], .int .i64 (8 + (m : Int)), .bool true]) (by first | (simp [results, Try.results43, go_sem, r1, r2]; done) | (simp [results, Try.results43, go_sem, r1, r2]; exact HWS.out)) rfl ⟨HB8.out.trans (HBE.out.mono (Nat.le_refl _)), .inr ⟨N, F, FB, fc, 8 + m, ?_, by rw [Int.natCast_add]; rfl, ?_⟩⟩
            · have h := is_next (ah := ah) (b := b) (by rw [← hm.out]; exact HM1.out) (by rw [← hm.out]; exact HM2.out) HP.out HT.out (by rw [← hm.out, ← htkd.out]; exact HEQ.out)
              rwa [← hm.out] at h
            · exact Kd.R_mono (Kd.R_kept (Kd.R_types HR9.out HZ9.out (by decide)) HKE.out (fun k ho he => ho.2 he)) (fun _ _ => trivial)
          · have hdec : ((strOfNums (recL ah (N, F))).toList == (strOfNums tk).toList) = false := by rw [hse]; exact decide_eq_false heq
            have hdec2 : ((strOfNums (recL ah (N, F))).toList != (strOfNums tk).toList) = true := by rw [bne, hdec]; rfl
            have HEQ := Lib.hid heq
            clear heq hse
            refine start_ (n := 10) (S := fun w' => w'.heap[gb]? = some (.cells #[.int .i64 N, .slice FB F.length fc] 26 (0, 0)) ∧ (convert 22 9 (.slice (some ad) tk.length c)).run Try.prog w' = .ok (.string (strOfNums tk)) w') (ds := []) #[false, false, false, false, false, false, false, false, false, false] (by kernel_rfl) rfl rfl ⟨H77.out, (HST.out _ (HB7.out.trans (HDZ.out.mono HB7.out.size)))⟩ (fun hHeld => ?_)
            refine pure_ (i := 0) (N := some 68) (v := ?_) (a' := ?_) #[true, false, false, false, false, false, false, false, false, false] rfl rfl (by kernel_rfl) (fun _ _ _ h => h) (Or.inl ⟨by rfl, ?_⟩) ?_ ?_
            rotate_left
            · intro w'
              go_simp
              with_reducible rfl
            rotate_left
            · simp only [Act.put, List.setIfInBounds_toArray, List.set_cons_zero, List.set_cons_succ, i64_w, i32_w]
              rfl
            refine pure_ (i := 4) (N := some 72) (v := ?_) (a' := ?_) #[true, false, false, false, true, false, false, false, false, false] rfl rfl (by kernel_rfl) (fun _ _ _ h => h) (Or.inl ⟨by rfl, ?_⟩) ?_ ?_
            rotate_left
            · intro w'
              go_simp
              with_reducible rfl
            rotate_left
            · simp only [Act.put, List.setIfInBounds_toArray, List.set_cons_zero, List.set_cons_succ, i64_w, i32_w]
              rfl
            refine pure_ (i := 5) (N := some 73) (v := ?_) (a' := ?_) #[true, false, false, false, true, true, false, false, false, false] rfl rfl (by kernel_rfl) (fun _ _ _ h => h) (Or.inl ⟨by rfl, ?_⟩) ?_ ?_
            rotate_left
            · intro w'
              go_simp
              with_reducible rfl
            rotate_left
            · simp only [Act.put, List.setIfInBounds_toArray, List.set_cons_zero, List.set_cons_succ, i64_w, i32_w]
              rfl
            refine pure_ (i := 6) (N := some 74) (v := ?_) (a' := ?_) #[true, false, false, false, true, true, true, false, false, false] rfl rfl (by kernel_rfl) (fun _ _ _ h => h) (Or.inl ⟨by rfl, ?_⟩) ?_ ?_
            rotate_left
            · intro w'
              go_simp
              with_reducible rfl
            rotate_left
            · simp only [Act.put, List.setIfInBounds_toArray, List.set_cons_zero, List.set_cons_succ, i64_w, i32_w]
              rfl
            refine pure_ (i := 7) (N := some 75) (v := ?_) (a' := ?_) #[true, false, false, false, true, true, true, true, false, false] rfl rfl (by kernel_rfl) (fun _ _ _ h => h) (Or.inl ⟨by rfl, ?_⟩) ?_ ?_
            rotate_left
            · intro w'
              go_simp
              with_reducible rfl
            rotate_left
            · simp only [Act.put, List.setIfInBounds_toArray, List.set_cons_zero, List.set_cons_succ, i64_w, i32_w]
              rfl
            refine take_ (i := 1) (N := some 69) (v := ?_) (a' := ?_) #[true, true, false, false, true, true, true, true, false, false] rfl rfl (by kernel_rfl) (fun _ _ _ h => h) (Or.inl ⟨by rfl, ?_⟩) hHeld ?_ ?_
            rotate_left
            · rintro w' ⟨s0, s1⟩
              refine Eq.trans (exec_load_grid (by rfl) (by rfl) s0) ?_
              with_reducible rfl
            rotate_left
            · simp only [Act.put, List.setIfInBounds_toArray, List.set_cons_zero, List.set_cons_succ, i64_w, i32_w]
              rfl
            refine take_ (i := 8) (N := some 76) (v := ?_) (a' := ?_) #[true, true, false, false, true, true, true, true, true, false] rfl rfl (by kernel_rfl) (fun _ _ _ h => h) (Or.inl ⟨by rfl, ?_⟩) hHeld ?_ ?_
            rotate_left
            · rintro w' ⟨s0, s1⟩
              go_simp
              with_reducible rfl
            rotate_left
            · simp only [Act.put, List.setIfInBounds_toArray, List.set_cons_zero, List.set_cons_succ, i64_w, i32_w]
              rfl
            refine one_ (i := 2) (N := some 70) #[true, true, true, false, true, true, true, true, true, false] rfl rfl (by kernel_rfl) (by decide) (fun K hK => ?_)
            refine goes_ Try.func58 (by kernel_rfl) rfl #[v, .agg #[.int .i64 N, .slice FB F.length fc]] (by rfl) rfl rfl (by simp only [List.map_toArray, List.map_cons, List.map_nil]; rfl) ?_
            with_reducible refine (rrecord_any ah v N FB fc F HFO.out HAH.out _ (Kd.R_reads' (Kd.R_below HRZ.out HDZ.out)).2.2 ((HK.out.below HB7.out).below HDZ.out)).mono ?_
            rintro e w8 ⟨u8, rfl, hr8, hb8⟩
            refine ⟨_, rfl, ?_⟩
            obtain ⟨UA, uc, rfl⟩ := Kd.R_slice hr8
            have hcv8 := Kd.C_string (P := Try.prog) (A := UA) (c := uc) Try.underlying22 Try.underlying5 Try.underlying9 (Kd.R_reads' hr8).2.2
            clear hr8
            refine hK.out _ _ ⟨(blk_below H77.out (below_undrew hb8)), (HST.out _ (HB7.out.trans ((below_undrew2 hb8).mono HB7.out.size)))⟩ (fun hHeld => ?_)
            clear hK K
            refine norm_ (a' := ?_) ?_ ?_
            rotate_left
            · show Act.put _ (some 70) _ = _
              simp only [Act.put, List.setIfInBounds_toArray, List.set_cons_zero, List.set_cons_succ, i64_w, i32_w]
              rfl
            refine one_ (i := 3) (N := some 71) #[true, true, true, true, true, true, true, true, true, false] rfl rfl (by kernel_rfl) (by decide) (fun K hK => ?_)
            refine value_ (w1 := ?_) (v := ?_) (by rfl) rfl ?_ ?_
            rotate_left 2
            · go_simp
              constructor
              · rfl
              · rfl
            refine hK.out _ _ ⟨hHeld.1, hHeld.2⟩ (fun hHeld => ?_)
            clear hK K
            refine norm_ (a' := ?_) ?_ ?_
            rotate_left
            · show Act.put _ (some 71) _ = _
              simp only [Act.put, List.setIfInBounds_toArray, List.set_cons_zero, List.set_cons_succ, i64_w, i32_w]
              rfl
            refine pure_ (i := 9) (N := some 77) (v := ?_) (a' := ?_) #[true, true, true, true, true, true, true, true, true, true] rfl rfl (by kernel_rfl) (fun _ _ _ h => h) (Or.inl ⟨by rfl, ?_⟩) ?_ ?_
            rotate_left
            · intro w'
              go_simp
              with_reducible rfl
            rotate_left
            · simp only [Act.put, List.setIfInBounds_toArray, List.set_cons_zero, List.set_cons_succ, i64_w, i32_w]
              rfl
            refine done_ (by kernel_rfl) ?_
            have HB8 := Lib.hid (HB7.out.trans ((below_undrew2 hb8).mono HB7.out.size))
            have HZ9 := Lib.hid (blk_below HZ7.out (below_undrew hb8))
            clear hb8 hdec hdec2 htk
            go_wp2_with (first | ((with_reducible refine gate_store (t := 26) (p := 4) rfl ?_); refine store_grid rfl rfl (.tmp 4) (.tmp 78) rfl (g := w.heap.size) ?hp (u := 0) (A := none) (n := 0) (c := 0) ?hv HZ9.out ?_; (case hp => go_simp); (case hv => go_simp); intro wE hhE hkE hbE; have HRE := Lib.hid hhE; have HBE := Lib.hid hbE; clear hhE hkE hbE))
            obtain ⟨r1, r2, -, -⟩ := two_cells HRE.out
            exact bodyPost_ret (v := .tuple #[.agg #[.int .i64 0, .slice none 0 0], .int .i64 0, .bool false]) (by simp [results, Try.results43, go_sem, r1, r2]) rfl ⟨(HB8.out).trans (HBE.out.mono (Nat.le_refl _)), .inl ⟨rfl, no_next_record HP.out HT.out (by rw [← hm.out, ← htkd.out]; exact HEQ.out)⟩⟩
end Go.Proofs.Ytomildjihlbbmaa
