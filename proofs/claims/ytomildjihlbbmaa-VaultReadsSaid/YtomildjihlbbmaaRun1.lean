/-
  The reference's Unpack: the narrow way.
-/
import Derived.Test.YtomildjihlbbmaaRun
namespace Go.Proofs.Ytomildjihlbbmaa
open Go.RowKit Flt Num Go.Proofs.YtomildjihlbbmaaW.PrintWords Go.Proofs.YtomildjihlbbmaaW.PrintLast Go.Proofs.YtomildjihlbbmaaW.PrintMore Go.Proofs.Ytomildjihlbbmaa.PPackUnpacks
set_option linter.unusedVariables false
attribute [local go_sem] run_f64bits run_f64from run_f32bits run_f32from
set_option maxHeartbeats 4000000 in
set_option maxRecDepth 100000 in
theorem runpack1_any (A : Option Addr) (c : Nat) (b : List Int) (w : World) (hA : kb.C w A b.length b) (hc : b.length ≤ c) (hb : Bytes b) (N : Nat) (hN : 1 ≤ N ∧ N ≤ 64) (rest : List Int) (hbe : b = [1, (N : Int)] ++ rest) :
    Calls Try.prog 7 #[.slice A b.length c] w fun e w' => RunOut 1 N b w e w' := by
  have hlen : b.length = rest.length + 2 := by rw [hbe]; simp
  have HA := Lib.hid hA
  have HC := Lib.hid hc
  have HBY := Lib.hid hb
  obtain ⟨ad, rfl, hc0⟩ := Kd.at_int hA 0 (by decide) (by omega)
  obtain ⟨_, e1, hc1⟩ := Kd.at_int hA 1 (by decide) (by omega)
  cases e1
  rw [hbe] at hc0 hc1
  have H0 := Lib.hid (show w.cell? ad = some (.int .u8 1) by simpa [Addr.add, rd] using hc0)
  have H1 := Lib.hid (show w.cell? ⟨ad.block, ad.off + 1, none⟩ = some (.int .u8 (N : Int)) by simpa [Addr.add, rd] using hc1)
  have y0 : ∀ o, (w.alloc o).cell? ad = some (.int .u8 1) := fun o => pw_cell_below (below_alloc (Below.refl _ _) o) H0.out
  have y1 : ∀ o, (w.alloc o).cell? ⟨ad.block, ad.off + 1, none⟩ = some (.int .u8 (N : Int)) := fun o => pw_cell_below (below_alloc (Below.refl _ _) o) H1.out
  have hl' : ¬ (b.length : Int) < 2 := by omega
  have hl1 : (1 : Int) < (b.length : Int) := by omega
  have hl0 : (0 : Int) < (b.length : Int) := by omega
  have hN1 : (N : Int) < 256 := by omega
  have hN2 : ¬ (N : Int) < 1 := by omega
  have hN3 : ¬ (64 : Int) < (N : Int) := by omega
  have hNle : N * N ≤ 4096 := Nat.mul_le_mul hN.2 hN.2
  obtain ⟨M, hM⟩ : ∃ M : Nat, N * N = M := ⟨_, rfl⟩
  have HM := Lib.hid hM
  have hMle : M ≤ 4096 := hM ▸ hNle
  have HNN := Lib.hid hMle
  have hNN : wrap64 ((N : Int) * (N : Int)) = (M : Int) := by
    rw [← hM]; exact wrap64_id (by have : N * N ≤ 4096 := hNle; omega) (by have : N * N ≤ 4096 := hNle; omega)
  clear hA hc hb hbe hlen hc0 hc1 hNle hM hMle
  go_enter Try.func7, Try.ntmps7
  go_wp2_with fail
  obtain ⟨w1, hw1⟩ : ∃ w1 : World, w1 = (w.alloc (.cells #[.int .i64 0, .slice none 0 0] 26)).alloc (.cells #[.int .i64 N, .slice none 0 0] 26) := ⟨_, rfl⟩
  rw [← hw1]
  have HL0 := Lib.hid (show LoopG 1 w.heap.size N b w w1 0 [] (0, 0) 2 (.slice none 0 0) from
    { below := by rw [hw1]; exact below_alloc (below_alloc (Below.refl _ _) _) _
      len := rfl
      words := fun x hx => by cases hx
      dec := .nil
      res := by rw [hw1]; exact heap_alloc2_old w _ _
      f := by rw [hw1]; exact heap_alloc2_new w _ _
      row := Kd.R_nil _ _ _ _ _ })
  clear hw1 y0 y1 hl' hl1
  go_loopg [5, 8] (M + 1) (fun gk v5 v8 wr => ∃ (i a : Nat) (L : List (Nat × Nat)) (v : Value), v5 = .int .i64 (a : Int) ∧ v8 = .int .i64 (i : Int) ∧ Hid (i + gk = M + 1) ∧ Hid (i ≤ M) ∧ Hid (a ≤ 2 + 16 * i) ∧ Hid (LoopG 1 w.heap.size N b w wr i L (0, 0) a v))
  case atStart => exact ⟨0, 2, [], .slice none 0 0, rfl, rfl, Lib.hid (by omega), Lib.hid (by omega), Lib.hid (by omega), HL0⟩
  case round =>
    obtain ⟨i, a, L, v, rfl, rfl, hg, hi, ha, hl⟩ := hrel
    clear HL0
    have hcell := pw_cell_below hl.out.below H0.out
    obtain ⟨f1, f2, f3, f4⟩ := two_cells hl.out.f
    obtain ⟨VA, vc, rfl⟩ := Kd.R_slice hl.out.row
    by_cases hlt : i < M
    · have hlt' : (i : Int) < (M : Int) := by omega
      have HA8 := Lib.hid (show a + 16 < 2 ^ 40 by have := ha.out; have := HNN.out; omega)
      have hb4 : wrap64 ((a : Int) + 4) = ((a + 4 : Nat) : Int) := wrap64_id (by have := HA8.out; omega) (by have := HA8.out; omega)
      have HB4 := Lib.hid hb4
      have hi1 : wrap64 ((i : Int) + 1) = ((i + 1 : Nat) : Int) := wrap64_id (by have := HNN.out; omega) (by have := HNN.out; omega)
      have HI1 := Lib.hid hi1
      have hi8 : wrap64 ((a : Int) + 8) = ((a + 8 : Nat) : Int) := wrap64_id (by have := HA8.out; omega) (by have := HA8.out; omega)
      have HI8 := Lib.hid hi8
      have HLL := Lib.hid (show (L.length + 1) * 16 ≤ 140737488355328 by have := hl.out.len; have := HNN.out; omega)
      clear hi1 hi8 hb4
      go_wp2_with fail
      refine (number_any (some ad) c b a 4 wr (Kd.C_below HA.out hl.out.below) HC.out HBY.out (by have := HA8.out; omega) (by decide)).mono ?_
      rintro e w2 ⟨rfl, ⟨n2, rfl⟩⟩
      obtain ⟨re, hre⟩ : ∃ re : Nat, re = numR b a 4 0 := ⟨_, rfl⟩
      rw [← hre]
      have hrb : (re : Int) < 4294967296 := by
        have := numR_bound b HBY.out 4 a 0 0 (by decide)
        rw [← hre] at this
        have h2 : re < 256 ^ (0 + 4) := this
        have h3 : (256 : Nat) ^ (0 + 4) = 4294967296 := rfl
        rw [h3] at h2
        omega
      have HRB := Lib.hid hrb
      have HRE := Lib.hid hre
      clear hre
      have hb4 := HB4.out
      go_wp2_with fail
      refine (number_any (some ad) c b (a + 4) 4 (wr.drewN n2) (Kd.C_below HA.out (below_drewN hl.out.below n2)) HC.out HBY.out (by have := HA8.out; omega) (by decide)).mono ?_
      rintro e w3 ⟨rfl, ⟨n3, rfl⟩⟩
      clear hb4
      obtain ⟨im, him⟩ : ∃ im : Nat, im = numR b (a + 4) 4 0 := ⟨_, rfl⟩
      rw [← him]
      have hib : (im : Int) < 4294967296 := by
        have := numR_bound b HBY.out 4 (a + 4) 0 0 (by decide)
        rw [← him] at this
        have h2 : im < 256 ^ (0 + 4) := this
        have h3 : (256 : Nat) ^ (0 + 4) = 4294967296 := rfl
        rw [h3] at h2
        omega
      have HIB := Lib.hid hib
      have HIM := Lib.hid him
      clear him
      obtain ⟨y, z, n8, hup, hw1, hw2⟩ := run_up2 re im (by have := HRB.out; omega) (by have := HIB.out; omega) (wr.drewN (n2 + n3))
      have HW1 := Lib.hid hw1
      have HW2 := Lib.hid hw2
      clear hw1 hw2
      have HZ := Lib.hid (hl.out.drew (n2 + n3 + n8))
      have HSZ := Lib.hid (show w.heap.size + 1 < (wr.drewN (n2 + n3 + n8)).heap.size from blk_lt HZ.out.f)
      clear hcell
      have hi1 := HI1.out
      have hi8 := HI8.out
      go_upto_region 21 with (first | ((with_reducible refine gate_builtin (b := .append) (xs := #[.tmp 115, .tmp 120]) rfl ?_); at_builtin; refine Kd.R_append kc (w0 := w) w.heap.size rfl (.tmp 115) (.tmp 120) 24 42 (.complex .f64 0 0) 16 rfl und24 info42 rfl (by decide) (by omega) (.slice VA L.length vc) L (y, z) [.complex .f64 y z] (OkG w.heap.size) (fun _ => False) ?hs ?hx ?aP (fun _ hk => hk.elim) ?aF ?aO ?aB ?aS ?aL ?_; (case hs => go_simp); (case hx => go_simp); (case aP => exact rfl); (case aF => exact (fun k hk => ⟨by have := HSZ.out; omega, by have := HSZ.out; omega⟩)); (case aO => exact HZ.out.row); (case aB => exact HZ.out.below); (case aS => exact HZ.out.below.size); (case aL => exact HLL.out); intro v1 w8 ho hbb hgr hat; have hk8 := grown_kept HZ.out.row hgr; have HF8 := Lib.hid (blk_kept HZ.out.f hk8 (fun h => h.1.2 rfl)); have HK8 := Lib.hid hk8; have HO8 := Lib.hid ho; have HB8 := Lib.hid hbb; obtain ⟨VB, vd, rfl⟩ := Kd.R_slice ho; obtain ⟨t1, t2, t3, t4⟩ := two_cells HF8.out; clear ho hbb hgr hat hk8 f1 f2 f3 f4 hup hrb hib))
      clear t1 t2 t3 t4
      go_wp2_with fail
      go_roundg (gk - 1)
      case measure => have := hg.out; omega
      case rel =>
        refine ⟨i + 1, a + 8, L ++ [(y, z)], .slice VB (L.length + 1) vd, by rw [HI8.out], by rw [HI1.out], Lib.hid (by have := hg.out; omega), Lib.hid (by omega), Lib.hid (by have := ha.out; omega), Lib.hid ?_⟩
        have hnext := HZ.out.next HB8.out HF8.out HK8.out HO8.out ⟨HW1.out.1, HW2.out.1⟩ (by unfold StepR; rw [if_neg (by decide), if_pos rfl, ← HRE.out, ← HIM.out]; exact ⟨HW1.out, HW2.out, rfl, rfl⟩)
        rwa [show (L ++ [(y, z)]).length = L.length + 1 from by simp] at hnext
    · have hlt' : ¬ (i : Int) < (M : Int) := by omega
      have HLN := Lib.hid (show L.length = N * N by rw [hl.out.len, HM.out]; have := hi.out; omega)
      have HRC := Lib.hid (Kd.R_reads' hl.out.row).2.2
      go_wp2_with (first | ((with_reducible refine gate_dst (N := 126) rfl ?_); refine load_grid rfl (.tmp 4) rfl (g := w.heap.size + 1) ?hx (u := .int .i64 N) (v := .slice VA L.length vc) hl.out.f ?_; (case hx => go_simp)))
      refine (rshortest_any (N : Int) (by omega) VA vc L wr HRC.out hl.out.words (by rw [HLN.out, HM.out]; exact HNN.out)).mono ?_
      rintro e w6 ⟨sv, kk, rfl, hb6, hr6⟩
      obtain ⟨SA, sc, rfl, hsle, hSC⟩ := Kd.R_reads hr6
      have HB6 := Lib.hid (hl.out.below.trans (hb6.mono hl.out.below.size))
      have HX6 := Lib.hid ((hb6.block _ (blk_lt hl.out.res)).trans hl.out.res)
      have HF6 := Lib.hid ((hb6.block _ (blk_lt hl.out.f)).trans hl.out.f)
      have HR6 := Lib.hid (Kd.R_below hl.out.row hb6)
      have hcv3 := Kd.C_string (P := Try.prog) (A := SA) (c := sc) Try.underlying22 Try.underlying5 Try.underlying9 hSC
      have hcv4 := Kd.C_string (P := Try.prog) (A := some ad) (c := c) Try.underlying22 Try.underlying5 Try.underlying9 (Kd.C_below HA.out HB6.out)
      have hse := str_eq (shortL_bytes (N := (N : Int)) (by omega) L) HBY.out
      clear hb6 hr6 hsle hcell f1 f2 f3 f4 hSC
      by_cases heq : shortL N L = b
      · have hdec : ((strOfNums (shortL N L)).toList == (strOfNums b).toList) = true := by rw [hse]; exact decide_eq_true heq
        have hdec2 : ((strOfNums (shortL N L)).toList != (strOfNums b).toList) = false := by rw [bne, hdec]; rfl
        have HEQ := Lib.hid heq
        clear heq hse
        go_wp2_with (first
          | ((with_reducible refine gate_dst (N := 136) rfl ?_); refine load_grid rfl (.tmp 4) rfl (g := w.heap.size + 1) ?hx (u := .int .i64 N) (v := .slice VA L.length vc) HF6.out ?_; (case hx => go_simp))
          | ((with_reducible refine gate_store (t := 26) (p := 2) rfl ?_); refine store_grid rfl rfl (.tmp 2) (.tmp 136) rfl (g := w.heap.size) ?hp (u := (N : Int)) (A := VA) (n := L.length) (c := vc) ?hv HX6.out ?_; (case hp => go_simp); (case hv => go_simp); intro w8 hh8 hk8 hb8; have HR8 := Lib.hid hh8; have HK8 := Lib.hid hk8; have HB8 := Lib.hid (HB6.out.trans (hb8.mono (Nat.le_refl _))); clear hh8 hk8 hb8))
        obtain ⟨r1, r2, -, -⟩ := two_cells HR8.out
        refine bodyPost_ret (v := .tuple #[.agg #[.int .i64 N, .slice VA L.length vc], .int .i64 0]) (by simp [results, Try.results7, go_sem, r1, r2]) rfl ⟨HB8.out, L, (0, 0), a, hl.out.dec, HLN.out, hl.out.words, .inr ⟨VA, vc, rfl, ?_, HEQ.out⟩⟩
        exact Kd.R_mono (Kd.R_kept HR6.out HK8.out (fun k ho he => ho.1 he)) (fun _ _ => trivial)
      · have hdec : ((strOfNums (shortL N L)).toList == (strOfNums b).toList) = false := by rw [hse]; exact decide_eq_false heq
        have hdec2 : ((strOfNums (shortL N L)).toList != (strOfNums b).toList) = true := by rw [bne, hdec]; rfl
        have HEQ := Lib.hid heq
        clear heq hse
        go_wp2_with (first | ((with_reducible refine gate_store (t := 26) (p := 2) rfl ?_); refine store_grid rfl rfl (.tmp 2) (.tmp 135) rfl (g := w.heap.size) ?hp (u := 0) (A := none) (n := 0) (c := 0) ?hv HX6.out ?_; (case hp => go_simp); (case hv => go_simp); intro w8 hh8 hk8 hb8; have HR8 := Lib.hid hh8; have HB8 := Lib.hid (HB6.out.trans (hb8.mono (Nat.le_refl _))); clear hh8 hk8 hb8))
        obtain ⟨r1, r2, -, -⟩ := two_cells HR8.out
        exact bodyPost_ret (v := .tuple #[.agg #[.int .i64 0, .slice none 0 0], .int .i64 210]) (by simp [results, Try.results7, go_sem, r1, r2]) rfl ⟨HB8.out, L, (0, 0), a, hl.out.dec, HLN.out, hl.out.words, .inl ⟨rfl, HEQ.out⟩⟩
end Go.Proofs.Ytomildjihlbbmaa

/-
  The reference's Unpack: the raw way.
-/
namespace Go.Proofs.Ytomildjihlbbmaa
open Go.RowKit Flt Num Go.Proofs.YtomildjihlbbmaaW.PrintWords Go.Proofs.YtomildjihlbbmaaW.PrintLast Go.Proofs.YtomildjihlbbmaaW.PrintMore Go.Proofs.Ytomildjihlbbmaa.PPackUnpacks
set_option linter.unusedVariables false
set_option linter.unusedSimpArgs false
attribute [local go_sem] run_f64bits run_f64from run_f32bits run_f32from
theorem LoopG.cell2 {way H N : Nat} {b : List Int} {w wr : World} {i : Nat} {L : List (Nat × Nat)} {last : Int × Int} {at_ : Nat} {v : Value} (h : LoopG way H N b w wr i L last at_ v) : wr.cell? ⟨H + 1, 1, none⟩ = some v := (two_cells h.f).2.1
theorem LoopG.alloc {way H N : Nat} {b : List Int} {w wr : World} {i : Nat} {L : List (Nat × Nat)} {last : Int × Int} {at_ : Nat} {v : Value} (h : LoopG way H N b w wr i L last at_ v) (o : Obj) : LoopG way H N b w (wr.alloc o) i L last at_ v :=
  { below := h.below.alloc (Nat.le_of_lt (blk_lt h.res)) o, len := h.len, words := h.words, dec := h.dec, res := (Below.heap_alloc wr o _ (blk_lt h.res)).trans h.res, f := (Below.heap_alloc wr o _ (blk_lt h.f)).trans h.f, row := Kd.R_alloc h.row o }
theorem numR_word {b : List Int} (hb : Bytes b) (a : Nat) : numR b a 8 0 < 2 ^ 64 := by
  have h := numR_bound b hb 8 a 0 0 (by decide)
  have h3 : (256 : Nat) ^ (0 + 8) = 2 ^ 64 := by decide
  rwa [h3] at h
theorem numG_any (A : Option Addr) (c : Nat) (b : List Int) (i a : Nat) {way H N : Nat} {w : World} (W : World) {k : Nat} {L : List (Nat × Nat)} {last : Int × Int} {v : Value} (hC : kb.C w A b.length b) (hc : b.length ≤ c) (hb : Bytes b) (hi : i < 2 ^ 40)
    (hz : LoopG way H N b w W k L last a v) (hH : H = w.heap.size := by rfl) :
    Calls Try.prog 26 #[.slice A b.length c, .int .i64 i, .int .i64 8] W fun e w' => e = .returned (.int .u64 (numR b i 8 0 : Nat)) ∧ LoopG way H N b w w' k L last a v := by
  subst hH
  refine (number_any A c b i 8 W (Kd.C_below hC hz.below) hc hb hi (by decide)).mono ?_
  rintro e w' ⟨rfl, n, rfl⟩
  exact ⟨rfl, hz.drew n⟩
set_option maxHeartbeats 4000000 in
set_option maxRecDepth 100000 in
theorem runpack0_any (A : Option Addr) (c : Nat) (b : List Int) (w : World) (hA : kb.C w A b.length b) (hc : b.length ≤ c) (hb : Bytes b) (N : Nat) (hN : 1 ≤ N ∧ N ≤ 64) (rest : List Int) (hbe : b = [0, (N : Int)] ++ rest) :
    Calls Try.prog 7 #[.slice A b.length c] w fun e w' => RunOut 0 N b w e w' := by
  have hlen : b.length = rest.length + 2 := by rw [hbe]; simp
  have HA := Lib.hid hA
  have HC := Lib.hid hc
  have HBY := Lib.hid hb
  obtain ⟨ad, rfl, hc0⟩ := Kd.at_int hA 0 (by decide) (by omega)
  obtain ⟨_, e1, hc1⟩ := Kd.at_int hA 1 (by decide) (by omega)
  cases e1
  rw [hbe] at hc0 hc1
  have H0 := Lib.hid (show w.cell? ad = some (.int .u8 0) by simpa [Addr.add, rd] using hc0)
  have H1 := Lib.hid (show w.cell? ⟨ad.block, ad.off + 1, none⟩ = some (.int .u8 (N : Int)) by simpa [Addr.add, rd] using hc1)
  have y0 : ∀ o, (w.alloc o).cell? ad = some (.int .u8 0) := fun o => pw_cell_below (below_alloc (Below.refl _ _) o) H0.out
  have y1 : ∀ o, (w.alloc o).cell? ⟨ad.block, ad.off + 1, none⟩ = some (.int .u8 (N : Int)) := fun o => pw_cell_below (below_alloc (Below.refl _ _) o) H1.out
  have hl' : ¬ (b.length : Int) < 2 := by omega
  have hl1 : (1 : Int) < (b.length : Int) := by omega
  have hl0 : (0 : Int) < (b.length : Int) := by omega
  have hN1 : (N : Int) < 256 := by omega
  have hN2 : ¬ (N : Int) < 1 := by omega
  have hN3 : ¬ (64 : Int) < (N : Int) := by omega
  have hNle : N * N ≤ 4096 := Nat.mul_le_mul hN.2 hN.2
  obtain ⟨M, hM⟩ : ∃ M : Nat, N * N = M := ⟨_, rfl⟩
  have HM := Lib.hid hM
  have hMle : M ≤ 4096 := hM ▸ hNle
  have HNN := Lib.hid hMle
  have hNN : wrap64 ((N : Int) * (N : Int)) = (M : Int) := by
    rw [← hM]; exact wrap64_id (by have : N * N ≤ 4096 := hNle; omega) (by have : N * N ≤ 4096 := hNle; omega)
  clear hA hc hb hbe hlen hc0 hc1 hNle hM hMle
  go_enter Try.func7, Try.ntmps7
  go_wp2_with fail
  obtain ⟨w1, hw1⟩ : ∃ w1 : World, w1 = (w.alloc (.cells #[.int .i64 0, .slice none 0 0] 26)).alloc (.cells #[.int .i64 N, .slice none 0 0] 26) := ⟨_, rfl⟩
  rw [← hw1]
  have HL0 := Lib.hid (show LoopG 0 w.heap.size N b w w1 0 [] (0, 0) 2 (.slice none 0 0) from
    { below := by rw [hw1]; exact below_alloc (below_alloc (Below.refl _ _) _) _
      len := rfl
      words := fun x hx => by cases hx
      dec := .nil
      res := by rw [hw1]; exact heap_alloc2_old w _ _
      f := by rw [hw1]; exact heap_alloc2_new w _ _
      row := Kd.R_nil _ _ _ _ _ })
  clear hw1 y0 y1 hl' hl1
  go_loopg [5, 8] (M + 1) (fun gk v5 v8 wr => ∃ (i a : Nat) (L : List (Nat × Nat)) (v : Value), v5 = .int .i64 (a : Int) ∧ v8 = .int .i64 (i : Int) ∧ Hid (i + gk = M + 1) ∧ Hid (i ≤ M) ∧ Hid (a ≤ 2 + 16 * i) ∧ Hid (LoopG 0 w.heap.size N b w wr i L (0, 0) a v))
  case atStart => exact ⟨0, 2, [], .slice none 0 0, rfl, rfl, Lib.hid (by omega), Lib.hid (by omega), Lib.hid (by omega), HL0⟩
  case round =>
    obtain ⟨i, a, L, v, rfl, rfl, hg, hi, ha, hl⟩ := hrel
    clear HL0
    have hcell := pw_cell_below hl.out.below H0.out
    obtain ⟨f1, f2, f3, f4⟩ := two_cells hl.out.f
    obtain ⟨VA, vc, rfl⟩ := Kd.R_slice hl.out.row
    by_cases hlt : i < M
    · have hlt' : (i : Int) < (M : Int) := by omega
      have HA8 := Lib.hid (show a + 32 < 2 ^ 40 by have := ha.out; have := HNN.out; omega)
      have hi1 : wrap64 ((i : Int) + 1) = ((i + 1 : Nat) : Int) := wrap64_id (by have := HNN.out; omega) (by have := HNN.out; omega)
      have HI1 := Lib.hid hi1
      have hi8 : wrap64 ((a : Int) + 16) = ((a + 16 : Nat) : Int) := wrap64_id (by have := HA8.out; omega) (by have := HA8.out; omega)
      have HI8 := Lib.hid hi8
      have HLL := Lib.hid (show (L.length + 1) * 16 ≤ 140737488355328 by have := hl.out.len; have := HNN.out; omega)
      clear hi1 hi8
      obtain ⟨re, hre⟩ : ∃ re : Nat, re = numR b a 8 0 := ⟨_, rfl⟩
      obtain ⟨im, him⟩ : ∃ im : Nat, im = numR b (a + 8) 8 0 := ⟨_, rfl⟩
      have HRB := Lib.hid (numR_word HBY.out a)
      have HIB := Lib.hid (numR_word HBY.out (a + 8))
      rw [← hre] at HRB
      rw [← him] at HIB
      have HN1 := Lib.hid (fun W (hz : LoopG 0 w.heap.size N b w W i L (0, 0) a (.slice VA L.length vc)) => numG_any (some ad) c b a a W HA.out HC.out HBY.out (by have := HA8.out; omega) hz)
      have HN2 := Lib.hid (fun W (hz : LoopG 0 w.heap.size N b w W i L (0, 0) a (.slice VA L.length vc)) => numG_any (some ad) c b (a + 8) a W HA.out HC.out HBY.out (by have := HA8.out; omega) hz)
      rw [← hre] at HN1
      rw [← him] at HN2
      have HRE := Lib.hid hre
      have HIM := Lib.hid him
      clear hre him
      have hb8 : wrap64 ((a : Int) + 8) = ((a + 8 : Nat) : Int) := wrap64_id (by have := HA8.out; omega) (by have := HA8.out; omega)
      have HZ0 := Lib.hid (show LoopG 0 w.heap.size N b w wr.drew i L (0, 0) a (.slice VA L.length vc) from hl.out.drew 1)
      go_upto_region 16 with (fail)
      clear hcell f1 f2 f3 f4
      go_cut [97] from 84 to 97 (fun v97 wx => Hid (∃ v, LoopG 0 w.heap.size N b w wx (i + 1) (L ++ [(re, im)]) (0, 0) (a + 16) v))
      case first =>
        have hb8' := hb8
        rw [← i64_w] at hb8'
        refine start_ (n := 16) (S := fun w' => w'.cell? ⟨w.heap.size + 1, 1, none⟩ = some (.slice VA L.length vc)) (ds := [15]) #[false, false, false, false, false, false, false, false, false, false, false, false, false, false, false, false] (by kernel_rfl) rfl rfl ((HZ0.out.cell2)) (fun hHeld => ?_)
        refine pure_ (i := 0) (N := some 84) (v := ?_) (a' := ?_) #[true, false, false, false, false, false, false, false, false, false, false, false, false, false, false, false] rfl rfl (by kernel_rfl) (fun _ _ _ h => h) (Or.inl ⟨by rfl, ?_⟩) ?_ ?_
        rotate_left
        · intro w'
          go_simp
          with_reducible rfl
        rotate_left
        · simp only [Act.put, List.setIfInBounds_toArray, List.set_cons_zero, List.set_cons_succ, i64_w, i32_w]
          rfl
        refine pure_ (i := 2) (N := some 86) (v := ?_) (a' := ?_) #[true, false, true, false, false, false, false, false, false, false, false, false, false, false, false, false] rfl rfl (by kernel_rfl) (fun _ _ _ h => h) (Or.inl ⟨by rfl, ?_⟩) ?_ ?_
        rotate_left
        · intro w'
          go_simp
          with_reducible rfl
        rotate_left
        · simp only [Act.put, List.setIfInBounds_toArray, List.set_cons_zero, List.set_cons_succ, i64_w, i32_w]
          rfl
        refine pure_ (i := 3) (N := some 87) (v := ?_) (a' := ?_) #[true, false, true, true, false, false, false, false, false, false, false, false, false, false, false, false] rfl rfl (by kernel_rfl) (fun _ _ _ h => h) (Or.inl ⟨by rfl, ?_⟩) ?_ ?_
        rotate_left
        · intro w'
          go_simp
          with_reducible rfl
        rotate_left
        · simp only [Act.put, List.setIfInBounds_toArray, List.set_cons_zero, List.set_cons_succ, i64_w, i32_w]
          rfl
        refine pure_ (i := 6) (N := some 90) (v := ?_) (a' := ?_) #[true, false, true, true, false, false, true, false, false, false, false, false, false, false, false, false] rfl rfl (by kernel_rfl) (fun _ _ _ h => h) (Or.inl ⟨by rfl, ?_⟩) ?_ ?_
        rotate_left
        · intro w'
          go_simp
          with_reducible rfl
        rotate_left
        · simp only [Act.put, List.setIfInBounds_toArray, List.set_cons_zero, List.set_cons_succ, i64_w, i32_w]
          rfl
        refine pure_ (i := 7) (N := some 91) (v := ?_) (a' := ?_) #[true, false, true, true, false, false, true, true, false, false, false, false, false, false, false, false] rfl rfl (by kernel_rfl) (fun _ _ _ h => h) (Or.inl ⟨by rfl, ?_⟩) ?_ ?_
        rotate_left
        · intro w'
          go_simp
          with_reducible rfl
        rotate_left
        · simp only [Act.put, List.setIfInBounds_toArray, List.set_cons_zero, List.set_cons_succ, i64_w, i32_w]
          rfl
        refine pure_ (i := 8) (N := some 92) (v := ?_) (a' := ?_) #[true, false, true, true, false, false, true, true, true, false, false, false, false, false, false, false] rfl rfl (by kernel_rfl) (fun _ _ _ h => h) (Or.inl ⟨by rfl, ?_⟩) ?_ ?_
        rotate_left
        · intro w'
          go_simp
          with_reducible rfl
        rotate_left
        · simp only [Act.put, List.setIfInBounds_toArray, List.set_cons_zero, List.set_cons_succ, i64_w, i32_w]
          rfl
        refine take_ (i := 1) (N := some 85) (v := ?_) (a' := ?_) #[true, true, true, true, false, false, true, true, true, false, false, false, false, false, false, false] rfl rfl (by kernel_rfl) (fun _ _ _ h => h) (Or.inl ⟨by rfl, ?_⟩) hHeld ?_ ?_
        rotate_left
        · intro w' s0
          go_simp
          with_reducible rfl
        rotate_left
        · simp only [Act.put, List.setIfInBounds_toArray, List.set_cons_zero, List.set_cons_succ, i64_w, i32_w]
          rfl
        refine one_ (i := 4) (N := some 88) #[true, true, true, true, true, false, true, true, true, false, false, false, false, false, false, false] rfl rfl (by kernel_rfl) (by decide) (fun K hK => ?_)
        refine goes_ Try.func26 (by kernel_rfl) rfl #[.slice (some ad) b.length c, .int .i64 (a : Int), .int .i64 8] (by rfl) rfl rfl (by simp only [List.map_toArray, List.map_cons, List.map_nil]; rfl) ?_
        with_reducible refine (HN1.out _ HZ0.out).mono ?_
        rintro e w2 ⟨rfl, hz1⟩
        refine ⟨_, rfl, ?_⟩
        have HZ1 := Lib.hid hz1
        clear hz1
        refine hK.out _ _ (HZ1.out.cell2) (fun hHeld => ?_)
        clear hK K
        refine norm_ (a' := ?_) ?_ ?_
        rotate_left
        · show Act.put _ (some 88) _ = _
          simp only [Act.put, List.setIfInBounds_toArray, List.set_cons_zero, List.set_cons_succ, i64_w, i32_w]
          rfl
        refine pure_ (i := 5) (N := some 89) (v := ?_) (a' := ?_) #[true, true, true, true, true, true, true, true, true, false, false, false, false, false, false, false] rfl rfl (by kernel_rfl) (fun _ _ _ h => h) (Or.inl ⟨by rfl, ?_⟩) ?_ ?_
        rotate_left
        · intro w'
          go_simp
          with_reducible rfl
        rotate_left
        · simp only [Act.put, List.setIfInBounds_toArray, List.set_cons_zero, List.set_cons_succ, i64_w, i32_w]
          rfl
        refine one_ (i := 9) (N := some 93) #[true, true, true, true, true, true, true, true, true, true, false, false, false, false, false, false] rfl rfl (by kernel_rfl) (by decide) (fun K hK => ?_)
        refine goes_ Try.func26 (by kernel_rfl) rfl #[.slice (some ad) b.length c, .int .i64 ((a + 8 : Nat) : Int), .int .i64 8] (by rfl) rfl rfl (by simp only [List.map_toArray, List.map_cons, List.map_nil]; rfl) ?_
        with_reducible refine (HN2.out _ HZ1.out).mono ?_
        rintro e w3 ⟨rfl, hz2⟩
        refine ⟨_, rfl, ?_⟩
        have HZ2 := Lib.hid hz2
        have HSZ := Lib.hid (show w.heap.size + 1 < w3.heap.size from blk_lt HZ2.out.f)
        clear hz2
        refine hK.out _ _ (HZ2.out.cell2) (fun hHeld => ?_)
        clear hK K
        refine norm_ (a' := ?_) ?_ ?_
        rotate_left
        · show Act.put _ (some 93) _ = _
          simp only [Act.put, List.setIfInBounds_toArray, List.set_cons_zero, List.set_cons_succ, i64_w, i32_w]
          rfl
        refine pure_ (i := 10) (N := some 94) (v := ?_) (a' := ?_) #[true, true, true, true, true, true, true, true, true, true, true, false, false, false, false, false] rfl rfl (by kernel_rfl) (fun _ _ _ h => h) (Or.inl ⟨by rfl, ?_⟩) ?_ ?_
        rotate_left
        · intro w'
          go_simp
          with_reducible rfl
        rotate_left
        · simp only [Act.put, List.setIfInBounds_toArray, List.set_cons_zero, List.set_cons_succ, i64_w, i32_w]
          rfl
        refine pure_ (i := 11) (N := some 95) (v := ?_) (a' := ?_) #[true, true, true, true, true, true, true, true, true, true, true, true, false, false, false, false] rfl rfl (by kernel_rfl) (fun _ _ _ h => h) (Or.inl ⟨by rfl, ?_⟩) ?_ ?_
        rotate_left
        · intro w'
          go_simp
          with_reducible rfl
        rotate_left
        · simp only [Act.put, List.setIfInBounds_toArray, List.set_cons_zero, List.set_cons_succ, i64_w, i32_w]
          rfl
        refine one_ (i := 12) (N := some 96) #[true, true, true, true, true, true, true, true, true, true, true, true, true, false, false, false] rfl rfl (by kernel_rfl) (by decide) (fun K hK => ?_)
        refine value_ (w1 := ?_) (v := ?_) (by rfl) rfl ?_ ?_
        rotate_left 2
        · go_simp
          constructor
          · rfl
          · rfl
        refine hK.out _ _ ((HZ2.out.alloc _).cell2) (fun hHeld => ?_)
        clear hK K
        refine norm_ (a' := ?_) ?_ ?_
        rotate_left
        · show Act.put _ (some 96) _ = _
          simp only [Act.put, List.setIfInBounds_toArray, List.set_cons_zero, List.set_cons_succ, i64_w, i32_w]
          rfl
        refine one_ (i := 13) (N := some 97) #[true, true, true, true, true, true, true, true, true, true, true, true, true, true, false, false] rfl rfl (by kernel_rfl) (by decide) (fun K hK => ?_)
        refine Kd.R_append_step kc (w0 := w) w.heap.size (by rfl) (.tmp 85) (.tmp 96) 24 42 (.complex .f64 0 0) 16 (by rfl) und24 info42 rfl (by decide) (by decide) (.slice VA L.length vc) L (re, im) [.complex .f64 re im] (OkG w.heap.size) (fun _ => False) (by rfl) (by rfl) rfl (fun _ hk => hk.elim) (fun k hk => ⟨by have := HSZ.out; omega, by have := HSZ.out; omega⟩) HZ2.out.row HZ2.out.below HZ2.out.below.size HLL.out ?_
        intro v1 w8 ho hbb hgr hat
        have hk8 := grown_kept HZ2.out.row hgr
        have HF8 := Lib.hid (blk_kept HZ2.out.f hk8 (fun h => h.1.2 rfl))
        have HK8 := Lib.hid hk8
        have HO8 := Lib.hid ho
        have HB8 := Lib.hid hbb
        obtain ⟨VB, vd, rfl⟩ := Kd.R_slice ho
        obtain ⟨t1, t2, t3, t4⟩ := two_cells HF8.out
        clear ho hbb hgr hat hk8
        refine hK.out _ _ (t2) (fun hHeld => ?_)
        clear hK K
        refine norm_ (a' := ?_) ?_ ?_
        rotate_left
        · show Act.put _ (some 97) _ = _
          simp only [Act.put, List.setIfInBounds_toArray, List.set_cons_zero, List.set_cons_succ, i64_w, i32_w]
          rfl
        refine pure_ (i := 14) (N := some 98) (v := ?_) (a' := ?_) #[true, true, true, true, true, true, true, true, true, true, true, true, true, true, true, false] rfl rfl (by kernel_rfl) (fun _ _ _ h => h) (Or.inl ⟨by rfl, ?_⟩) ?_ ?_
        rotate_left
        · intro w'
          go_simp
          with_reducible rfl
        rotate_left
        · simp only [Act.put, List.setIfInBounds_toArray, List.set_cons_zero, List.set_cons_succ, i64_w, i32_w]
          rfl
        refine last_ (i := 15) (N := none) #[true, true, true, true, true, true, true, true, true, true, true, true, true, true, true, true] rfl rfl (by kernel_rfl) (by decide) (fun K hK => ?_)
        refine skip_ (w1 := ?_) (by rfl) rfl ?_ ?_
        rotate_left
        · go_simp
          rfl
        refine hK.out _ _ ?_
        clear hK K
        refine done_ (by kernel_rfl) ?_
        go_wp2_with fail
        go_meet
        refine Lib.hid ⟨.slice VB (L.length + 1) vd, ?_⟩
        have hnext := HZ2.out.next HB8.out HF8.out HK8.out HO8.out ⟨HRB.out, HIB.out⟩ (by unfold StepR; rw [if_pos rfl, ← HRE.out, ← HIM.out]; exact ⟨rfl, rfl, rfl⟩)
        rwa [show (L ++ [(re, im)]).length = L.length + 1 from by simp] at hnext
      case rest =>
        obtain ⟨v, hl2⟩ := hcut.out
        have HL2 := Lib.hid hl2
        clear hcut hl2 hb8
        have hi1 := HI1.out
        have hi8 := HI8.out
        go_wp2_with fail
        go_roundg (gk - 1)
        case measure => have := hg.out; omega
        case rel =>
          exact ⟨i + 1, a + 16, L ++ [(re, im)], v, by rw [HI8.out], by rw [HI1.out], Lib.hid (by have := hg.out; omega), Lib.hid (by omega), Lib.hid (by have := ha.out; omega), HL2⟩
    · have hlt' : ¬ (i : Int) < (M : Int) := by omega
      have HLN := Lib.hid (show L.length = N * N by rw [hl.out.len, HM.out]; have := hi.out; omega)
      have HRC := Lib.hid (Kd.R_reads' hl.out.row).2.2
      go_wp2_with (first | ((with_reducible refine gate_dst (N := 126) rfl ?_); refine load_grid rfl (.tmp 4) rfl (g := w.heap.size + 1) ?hx (u := .int .i64 N) (v := .slice VA L.length vc) hl.out.f ?_; (case hx => go_simp)))
      refine (rshortest_any (N : Int) (by omega) VA vc L wr HRC.out hl.out.words (by rw [HLN.out, HM.out]; exact HNN.out)).mono ?_
      rintro e w6 ⟨sv, kk, rfl, hb6, hr6⟩
      obtain ⟨SA, sc, rfl, hsle, hSC⟩ := Kd.R_reads hr6
      have HB6 := Lib.hid (hl.out.below.trans (hb6.mono hl.out.below.size))
      have HX6 := Lib.hid ((hb6.block _ (blk_lt hl.out.res)).trans hl.out.res)
      have HF6 := Lib.hid ((hb6.block _ (blk_lt hl.out.f)).trans hl.out.f)
      have HR6 := Lib.hid (Kd.R_below hl.out.row hb6)
      have hcv3 := Kd.C_string (P := Try.prog) (A := SA) (c := sc) Try.underlying22 Try.underlying5 Try.underlying9 hSC
      have hcv4 := Kd.C_string (P := Try.prog) (A := some ad) (c := c) Try.underlying22 Try.underlying5 Try.underlying9 (Kd.C_below HA.out HB6.out)
      have hse := str_eq (shortL_bytes (N := (N : Int)) (by omega) L) HBY.out
      clear hb6 hr6 hsle hcell f1 f2 f3 f4 hSC
      by_cases heq : shortL N L = b
      · have hdec : ((strOfNums (shortL N L)).toList == (strOfNums b).toList) = true := by rw [hse]; exact decide_eq_true heq
        have hdec2 : ((strOfNums (shortL N L)).toList != (strOfNums b).toList) = false := by rw [bne, hdec]; rfl
        have HEQ := Lib.hid heq
        clear heq hse
        go_wp2_with (first
          | ((with_reducible refine gate_dst (N := 136) rfl ?_); refine load_grid rfl (.tmp 4) rfl (g := w.heap.size + 1) ?hx (u := .int .i64 N) (v := .slice VA L.length vc) HF6.out ?_; (case hx => go_simp))
          | ((with_reducible refine gate_store (t := 26) (p := 2) rfl ?_); refine store_grid rfl rfl (.tmp 2) (.tmp 136) rfl (g := w.heap.size) ?hp (u := (N : Int)) (A := VA) (n := L.length) (c := vc) ?hv HX6.out ?_; (case hp => go_simp); (case hv => go_simp); intro w8 hh8 hk8 hb8; have HR8 := Lib.hid hh8; have HK8 := Lib.hid hk8; have HB8 := Lib.hid (HB6.out.trans (hb8.mono (Nat.le_refl _))); clear hh8 hk8 hb8))
        obtain ⟨r1, r2, -, -⟩ := two_cells HR8.out
        refine bodyPost_ret (v := .tuple #[.agg #[.int .i64 N, .slice VA L.length vc], .int .i64 0]) (by simp [results, Try.results7, go_sem, r1, r2]) rfl ⟨HB8.out, L, (0, 0), a, hl.out.dec, HLN.out, hl.out.words, .inr ⟨VA, vc, rfl, ?_, HEQ.out⟩⟩
        exact Kd.R_mono (Kd.R_kept HR6.out HK8.out (fun k ho he => ho.1 he)) (fun _ _ => trivial)
      · have hdec : ((strOfNums (shortL N L)).toList == (strOfNums b).toList) = false := by rw [hse]; exact decide_eq_false heq
        have hdec2 : ((strOfNums (shortL N L)).toList != (strOfNums b).toList) = true := by rw [bne, hdec]; rfl
        have HEQ := Lib.hid heq
        clear heq hse
        go_wp2_with (first | ((with_reducible refine gate_store (t := 26) (p := 2) rfl ?_); refine store_grid rfl rfl (.tmp 2) (.tmp 135) rfl (g := w.heap.size) ?hp (u := 0) (A := none) (n := 0) (c := 0) ?hv HX6.out ?_; (case hp => go_simp); (case hv => go_simp); intro w8 hh8 hk8 hb8; have HR8 := Lib.hid hh8; have HB8 := Lib.hid (HB6.out.trans (hb8.mono (Nat.le_refl _))); clear hh8 hk8 hb8))
        obtain ⟨r1, r2, -, -⟩ := two_cells HR8.out
        exact bodyPost_ret (v := .tuple #[.agg #[.int .i64 0, .slice none 0 0], .int .i64 210]) (by simp [results, Try.results7, go_sem, r1, r2]) rfl ⟨HB8.out, L, (0, 0), a, hl.out.dec, HLN.out, hl.out.words, .inl ⟨rfl, HEQ.out⟩⟩
end Go.Proofs.Ytomildjihlbbmaa
