/-
  Unpack: the near way.
-/
import Derived.Test.YtomildjihlbbmaaUnp
namespace Go.Proofs.Ytomildjihlbbmaa
open Go.RowKit Flt Num Go.Proofs.YtomildjihlbbmaaW.PrintWords Go.Proofs.YtomildjihlbbmaaW.PrintLast Go.Proofs.YtomildjihlbbmaaW.PrintMore Go.Proofs.Ytomildjihlbbmaa.PPackUnpacks
set_option linter.unusedVariables false
attribute [local go_sem] run_f64bits run_f64from run_f32bits run_f32from
theorem pair_set0 {w : World} {g : Nat} {a b c : Value} (h : w.heap[g]? = some (.cells #[a, b] 47 (0, 0))) : (w.setCell ⟨g, 0, none⟩ c).heap[g]? = some (.cells #[c, b] 47 (0, 0)) := by
  rw [setCell_eq_setRow w g 0 _ 47 (0, 0) _ h, setRow_heap w g _ _ 47 (0, 0) h]; rfl
theorem pair_set1 {w : World} {g : Nat} {a b c : Value} (h : w.heap[g]? = some (.cells #[a, b] 47 (0, 0))) : (w.setCell ⟨g, 1, none⟩ c).heap[g]? = some (.cells #[a, c] 47 (0, 0)) := by
  rw [setCell_eq_setRow w g 1 _ 47 (0, 0) _ h, setRow_heap w g _ _ 47 (0, 0) h]; rfl
theorem pair_met0 {wr w4 : World} {H fb : Nat} {st1 : List Int × Bool} {a b : Value} {c : Value} (hf : H + 1 < fb) (h1 : Rd w4 (H + 1) st1) (h2 : Bytes st1.1) (h3 : w4.heap[fb + 1]? = some (.cells #[a, b] 47 (0, 0))) (h4 : Kept wr.drew w4 (fun k => k = H + 1)) (h5 : Below (H + 1) wr.drew w4) :
    Hid (Rd (w4.setCell ⟨fb + 1, 0, none⟩ c) (H + 1) st1) ∧ Hid (Bytes st1.1) ∧ Hid ((w4.setCell ⟨fb + 1, 0, none⟩ c).heap[fb + 1]? = some (.cells #[c, b] 47 (0, 0))) ∧ Hid (Kept wr (w4.setCell ⟨fb + 1, 0, none⟩ c) (fun k => k = H + 1 ∨ k = fb + 1)) ∧ Hid (Below (H + 1) wr (w4.setCell ⟨fb + 1, 0, none⟩ c)) := by
  have hks : Kept w4 (w4.setCell ⟨fb + 1, 0, none⟩ c) (fun k => k = fb + 1) := Kept.setCell (S := fun k => k = fb + 1) (p := ⟨fb + 1, 0, none⟩) (Kept.refl w4 _) (.inl rfl) _
  have h4' : Kept wr w4 (fun k => k = H + 1 ∨ k = fb + 1) := Kept.mono (show Kept wr w4 (fun k => k = H + 1) from h4) (fun k hk => .inl hk)
  refine ⟨Lib.hid (h1.keep hks (fun k hk => ?_)), Lib.hid h2, Lib.hid (pair_set0 h3), Lib.hid (h4'.then_ hks (fun k hk => .inl (.inr hk))), Lib.hid ((show Below (H + 1) wr w4 from ⟨h5.os, h5.tape, h5.output, h5.size, h5.block⟩).setCell (show H + 1 ≤ fb + 1 by omega) _)⟩
  have : k = fb + 1 := hk
  omega
theorem pair_met1 {wr w4 : World} {H fb : Nat} {st1 : List Int × Bool} {a b : Value} {c : Value} (hf : H + 1 < fb) (h1 : Rd w4 (H + 1) st1) (h2 : Bytes st1.1) (h3 : w4.heap[fb + 1]? = some (.cells #[a, b] 47 (0, 0))) (h4 : Kept wr.drew w4 (fun k => k = H + 1)) (h5 : Below (H + 1) wr.drew w4) :
    Hid (Rd (w4.setCell ⟨fb + 1, 1, none⟩ c) (H + 1) st1) ∧ Hid (Bytes st1.1) ∧ Hid ((w4.setCell ⟨fb + 1, 1, none⟩ c).heap[fb + 1]? = some (.cells #[a, c] 47 (0, 0))) ∧ Hid (Kept wr (w4.setCell ⟨fb + 1, 1, none⟩ c) (fun k => k = H + 1 ∨ k = fb + 1)) ∧ Hid (Below (H + 1) wr (w4.setCell ⟨fb + 1, 1, none⟩ c)) := by
  have hks : Kept w4 (w4.setCell ⟨fb + 1, 1, none⟩ c) (fun k => k = fb + 1) := Kept.setCell (S := fun k => k = fb + 1) (p := ⟨fb + 1, 1, none⟩) (Kept.refl w4 _) (.inl rfl) _
  have h4' : Kept wr w4 (fun k => k = H + 1 ∨ k = fb + 1) := Kept.mono (show Kept wr w4 (fun k => k = H + 1) from h4) (fun k hk => .inl hk)
  refine ⟨Lib.hid (h1.keep hks (fun k hk => ?_)), Lib.hid h2, Lib.hid (pair_set1 h3), Lib.hid (h4'.then_ hks (fun k hk => .inl (.inr hk))), Lib.hid ((show Below (H + 1) wr w4 from ⟨h5.os, h5.tape, h5.output, h5.size, h5.block⟩).setCell (show H + 1 ≤ fb + 1 by omega) _)⟩
  have : k = fb + 1 := hk
  omega
theorem und48c : Try.prog.underlying 48 = some (.float .f64) := by kernel_rfl
theorem und2s : (Try.prog.underlying 2).isSome = true := by kernel_rfl
theorem run_i2f (n : Int) (w : World) : (convert 2 48 (.int .i64 n)).run Try.prog w = .ok (.float .f64 (i2f n)) w := run_convert_int_float w 2 48 .i64 .f64 n und2s und48c
theorem i2f_lt (n : Int) : i2f n < 2 ^ 64 := by
  have h := floatOfInt_wf .f64 n
  unfold i2f
  first | simpa [Lit.wf] using h | (unfold floatOfInt FloatKind.nearest; exact write_double_lt _)
theorem i2f_eq (n : Int) : i2f n = Ieee.double.write (.number (decide (n < 0)) n.natAbs 0) := by
  first | rfl | (unfold i2f floatOfInt FloatKind.nearest; rfl)
theorem LoopS.keep2 {way H fb N : Nat} {rest : List Int} {w wr w1 : World} {i : Nat} {L : List (Nat × Nat)} {last : Int × Int} {st : List Int × Bool} {v : Value} (h : LoopS way H fb N rest w wr i L last st v) (hk : Kept wr w1 (fun k => k = H + 1 ∨ k = fb + 1)) (hb : Below (H + 1) wr w1) :
    Below H w w1 ∧ w1.heap[H]? = some (.cells #[.int .i64 0, .slice none 0 0] 26) ∧ w1.heap[fb]? = some (.cells #[.int .i64 N, v] 26) ∧ kc.R 42 w1 H (OkF H fb) v L :=
  ⟨h.below.trans (hb.mono (by omega)), blk_kept h.res hk (by show ¬ (H = H + 1 ∨ H = fb + 1); have := h.hf; omega), blk_kept h.f hk (by show ¬ (fb = H + 1 ∨ fb = fb + 1); have := h.hf; omega), Kd.R_kept h.row hk (fun k ho he => he.elim ho.2.1 ho.2.2.2)⟩
theorem unzig_bound {v : Nat} (h : v < 2 ^ (7 * (0 + 6))) : -4398046511104 / 2 ≤ unzig v ∧ unzig v ≤ 4398046511104 / 2 := by
  unfold unzig
  split <;> omega
set_option maxHeartbeats 4000000 in
set_option maxRecDepth 100000 in
theorem unpack2_any (A : Option Addr) (c : Nat) (b : List Int) (w : World) (hA : kb.C w A b.length b) (hc : b.length ≤ c) (hb : Bytes b) (N : Nat) (hN : 1 ≤ N ∧ N ≤ 64) (rest : List Int) (hbe : b = [2, (N : Int)] ++ rest) :
    Calls Try.prog 6 #[.slice A b.length c] w fun e w' => UnpOut 2 N b rest w e w' := by
  have HA := Lib.hid hA
  have HLEN := Lib.hid (show b.length = rest.length + 2 by rw [hbe]; simp)
  have HMAX := Lib.hid (show b.length ≤ 9223372036854775807 from Kd.C_max hA)
  have HC := Lib.hid hc
  have HBE := Lib.hid hbe
  have HBY := Lib.hid hb
  obtain ⟨ad, rfl, hc0⟩ := Kd.at_int hA 0 (by decide) (by have := HLEN.out; omega)
  obtain ⟨_, e1, hc1⟩ := Kd.at_int hA 1 (by decide) (by have := HLEN.out; omega)
  cases e1
  rw [hbe] at hc0 hc1
  have HLT := Lib.hid (World.block_lt_of_cell? w _ hc0)
  clear hA hc hb hbe
  go_enter Try.func6, Try.ntmps6
  go_wp2_with fail
  obtain ⟨w1, hw1⟩ : ∃ w1 : World, w1 = (w.alloc (.cells #[.int .i64 0, .slice none 0 0] 26)).alloc (.cells #[.slice (some ad) b.length c, .bool false] 45) := ⟨_, rfl⟩
  rw [← hw1]
  have HB1 := Lib.hid (show Below w.heap.size w w1 by rw [hw1]; exact below_alloc (below_alloc (Below.refl _ _) _) _)
  have HX1 := Lib.hid (show w1.heap[w.heap.size]? = some (.cells #[.int .i64 0, .slice none 0 0] 26) by rw [hw1]; exact heap_alloc2_old w _ _)
  have HY1 := Lib.hid (show w1.heap[w.heap.size + 1]? = some (.cells #[.slice (some ad) b.length c, .bool false] 45) by rw [hw1]; exact heap_alloc2_new w _ _)
  have HS1 := Lib.hid (show w1.heap.size = w.heap.size + 2 by rw [hw1, World.size_alloc, World.size_alloc])
  clear hw1
  refine (take_ok2 2 (w.heap.size + 1) (some ad) c b false w1 (by have := HLEN.out; omega) HC.out (Kd.C_below HA.out HB1.out) HY1.out (fun a e hp => by cases e; have := HLT.out; rw [add_block] at this; omega)).mono ?_
  rintro e w2 ⟨rfl, hrd, hk2, hb2⟩
  have HRD := Lib.hid hrd
  have HB2 := Lib.hid (HB1.out.trans (hb2.mono (by omega)))
  have HX2 := Lib.hid (blk_kept HX1.out hk2 (by show ¬ (w.heap.size = w.heap.size + 1); omega))
  have HS2 := Lib.hid (show w.heap.size + 2 ≤ w2.heap.size by have := hk2.1; have := HS1.out; omega)
  have H0 := Lib.hid (show w.cell? ad = some (.int .u8 2) by simpa [Addr.add, rd] using hc0)
  have H1 := Lib.hid (show w.cell? ⟨ad.block, ad.off + 1, none⟩ = some (.int .u8 (N : Int)) by simpa [Addr.add, rd] using hc1)
  have hc0' := pw_cell_below HB2.out H0.out
  have hc1' := pw_cell_below HB2.out H1.out
  have hN1 : (N : Int) < 256 := by omega
  have hN2 : ¬ (N : Int) < 1 := by omega
  have hN3 : ¬ (64 : Int) < (N : Int) := by omega
  have hNle : N * N ≤ 4096 := Nat.mul_le_mul hN.2 hN.2
  obtain ⟨M, hM⟩ : ∃ M : Nat, N * N = M := ⟨_, rfl⟩
  have HM := Lib.hid hM
  have hMle : M ≤ 4096 := hM ▸ hNle
  have HNN := Lib.hid hMle
  have hNN : wrap64 ((N : Int) * (N : Int)) = (M : Int) := by
    rw [← hM]; exact wrap64_id (by have : N * N ≤ 4096 := hNle; omega) (by have : N * N ≤ 4096 := hNle; omega)
  clear hNle hM hMle
  obtain ⟨RA, rc, hrb, hrC, hrc, hrl⟩ := HRD.out
  obtain ⟨y1, y2, y3, y4⟩ := two_cells hrb
  dsimp only at y2
  clear hrb hrC hrc hrl y1 y3 y4
  have y2' : ∀ o, (w2.alloc o).cell? ⟨w.heap.size + 1, 1, none⟩ = some (.bool false) := fun o => pw_cell_below (below_alloc (Below.refl _ _) o) y2
  have hc0'' : ∀ o, (w2.alloc o).cell? ad = some (.int .u8 2) := fun o => pw_cell_below (below_alloc (Below.refl _ _) o) hc0'
  clear hrd hk2 hb2 HX1 HY1 hc0 hc1
  go_wp2_with fail
  rw [hNN]
  obtain ⟨fb, hfb⟩ : ∃ fb : Nat, fb = w2.heap.size := ⟨_, rfl⟩
  rw [← hfb]
  obtain ⟨w3, hw3⟩ : ∃ w3 : World, w3 = (w2.alloc (.cells #[.int .i64 N, .slice none 0 0] 26)).alloc (.cells #[.int .i64 0, .int .i64 0] 47) := ⟨_, rfl⟩
  rw [← hw3]
  have HK3 := Lib.hid (show Kept w2 w3 (fun _ => False) by rw [hw3]; exact ((Kept.refl w2 _).alloc _).alloc _)
  have HL0 := Lib.hid (show LoopS 2 w.heap.size fb N rest w w3 0 [] (0, 0) (rest, false) (.slice none 0 0) from
    { below := HB2.out.trans (by rw [hw3]; exact (below_alloc (below_alloc (Below.refl _ _) _) _).mono HB2.out.size)
      len := rfl
      words := fun x hx => by cases hx
      dec := .nil
      rd := by have := HRD.out.keep HK3.out (fun _ h => h.elim); rwa [HBE.out] at this
      by_ := fun c hc => HBY.out c (by rw [HBE.out]; exact List.mem_append_right _ hc)
      res := blk_kept HX2.out HK3.out (fun h => h)
      f := by rw [hw3, hfb]; exact heap_alloc2_old w2 _ _
      row := Kd.R_nil _ _ _ _ _
      hf := by have := HS2.out; omega
      sz := by rw [hw3, World.size_alloc, World.size_alloc]; omega })
  have HLB := Lib.hid (show w3.heap[fb + 1]? = some (.cells #[.int .i64 0, .int .i64 0] 47) by rw [hw3, hfb]; exact heap_alloc2_new w2 _ _)
  clear hw3 hc0' hc1' hc0'' y2 y2' hNN hfb
  go_loopg [47] (M + 1) (fun gk v47 wr => ∃ (i : Nat) (L : List (Nat × Nat)) (st : List Int × Bool) (v : Value) (x y : Int), v47 = .int .i64 (i : Int) ∧ Hid (i + gk = M + 1) ∧ Hid (i ≤ M) ∧ Hid (LoopS 2 w.heap.size fb N rest w wr i L (x, y) st v) ∧ Hid (wr.heap[fb + 1]? = some (.cells #[.int .i64 x, .int .i64 y] 47)) ∧ Hid (-(i : Int) * 4398046511104 ≤ x ∧ x ≤ (i : Int) * 4398046511104 ∧ -(i : Int) * 4398046511104 ≤ y ∧ y ≤ (i : Int) * 4398046511104))
  case atStart => exact ⟨0, [], (rest, false), .slice none 0 0, 0, 0, rfl, Lib.hid (by omega), Lib.hid (by omega), HL0, HLB, Lib.hid (by decide)⟩
  case round =>
    obtain ⟨i, L, st, v, x, y, rfl, hg, hi, hl, hlb, hbd⟩ := hrel
    clear HL0 HK3 HLB
    have hcell := pw_cell_below hl.out.below H0.out
    by_cases hlt : i < M
    · have hlt' : (i : Int) < (M : Int) := by omega
      obtain ⟨q1, q2, q3, q4⟩ := two_cells hlb.out
      have HU1 := unzig_bound (difP_bound 6 0 0 st (by decide))
      obtain ⟨d1, hd1⟩ : ∃ d1 : Int, d1 = unzig (difP 6 0 0 st).1 := ⟨_, rfl⟩
      rw [← hd1] at HU1
      replace HU1 := Lib.hid HU1
      have hbx := hbd.out
      have hin := HNN.out
      have hs1 : IntKind.i64.wrap (x + d1) = x + d1 := (i64_w _).trans (wrap64_id (by have := HU1.out; omega) (by have := HU1.out; omega))
      replace hd1 := Lib.hid hd1
      clear hbx hin
      go_upto_region 18 with (fail)
      go_cut [84] from 79 to 84 (fun v84 wx => Hid (Rd wx (w.heap.size + 1) (difP 6 0 0 st).2) ∧ Hid (Bytes (difP 6 0 0 st).2.1) ∧ Hid (wx.heap[fb + 1]? = some (.cells #[.int .i64 (x + d1), .int .i64 y] 47)) ∧ Hid (Kept wr wx (fun k => k = w.heap.size + 1 ∨ k = fb + 1)) ∧ Hid (Below (w.heap.size + 1) wr wx))
      case first =>
        go_region_with (first | (go_at_call 23; refine (difference_any _ st _ (hl.out.rd.keep (kept_drewN (Kept.refl wr (fun _ => False)) 1) (fun _ h => h.elim)) hl.out.by_).mono ?_; rintro e w4 ⟨rfl, hrd1, hby1, hk1, hb1⟩; rw [← hd1.out]; have HRD4 := Lib.hid hrd1; have HBY4 := Lib.hid hby1; have HK4 := Lib.hid hk1; have HB4 := Lib.hid hb1; have HLB4 := Lib.hid (blk_kept (hlb.out : wr.drew.heap[fb + 1]? = _) hk1 (fun h => by have := hl.out.hf; have h2 : fb + 1 = w.heap.size + 1 := h; omega)); obtain ⟨p1, p2, p3, p4⟩ := two_cells HLB4.out; clear hrd1 hby1 hk1 hb1))
        all_goals go_wp2_with fail
        all_goals go_meet
        all_goals exact pair_met0 hl.out.hf HRD4.out HBY4.out HLB4.out HK4.out HB4.out
      case rest =>
        obtain ⟨hrd5, hby5, hlb5, hk5, hb5⟩ := hcut
        clear q1 q2 q3 q4
        obtain ⟨wx, rfl⟩ : ∃ wx : World, wx = wc := ⟨_, rfl⟩
        obtain ⟨q1, q2, q3, q4⟩ := two_cells hlb5.out
        have HU2 := unzig_bound (difP_bound 6 0 0 (difP 6 0 0 st).2 (by decide))
        obtain ⟨d2, hd2⟩ : ∃ d2 : Int, d2 = unzig (difP 6 0 0 (difP 6 0 0 st).2).1 := ⟨_, rfl⟩
        rw [← hd2] at HU2
        replace HU2 := Lib.hid HU2
        have hbx := hbd.out
        have hin := HNN.out
        have hs2 : IntKind.i64.wrap (y + d2) = y + d2 := (i64_w _).trans (wrap64_id (by have := HU2.out; omega) (by have := HU2.out; omega))
        replace hd2 := Lib.hid hd2
        clear hbx hin
        go_upto_region 19 with (fail)
        go_cut [90] from 85 to 90 (fun v90 wy => Hid (Rd wy (w.heap.size + 1) (difP 6 0 0 (difP 6 0 0 st).2).2) ∧ Hid (Bytes (difP 6 0 0 (difP 6 0 0 st).2).2.1) ∧ Hid (wy.heap[fb + 1]? = some (.cells #[.int .i64 (x + d1), .int .i64 (y + d2)] 47)) ∧ Hid (Kept wx wy (fun k => k = w.heap.size + 1 ∨ k = fb + 1)) ∧ Hid (Below (w.heap.size + 1) wx wy))
        case first =>
          go_region_with (first | (go_at_call 23; refine (difference_any _ (difP 6 0 0 st).2 _ (hrd5.out.keep (kept_drewN (Kept.refl wx (fun _ => False)) 1) (fun _ h => h.elim)) hby5.out).mono ?_; rintro e w4 ⟨rfl, hrd1, hby1, hk1, hb1⟩; rw [← hd2.out]; have HRD4 := Lib.hid hrd1; have HBY4 := Lib.hid hby1; have HK4 := Lib.hid hk1; have HB4 := Lib.hid hb1; have HLB4 := Lib.hid (blk_kept (hlb5.out : wx.drew.heap[fb + 1]? = _) hk1 (fun h => by have := hl.out.hf; have h2 : fb + 1 = w.heap.size + 1 := h; omega)); obtain ⟨p1, p2, p3, p4⟩ := two_cells HLB4.out; clear hrd1 hby1 hk1 hb1))
          all_goals go_wp2_with fail
          all_goals go_meet
          all_goals exact pair_met1 hl.out.hf HRD4.out HBY4.out HLB4.out HK4.out HB4.out
        case rest =>
          obtain ⟨hrd6, hby6, hlb6, hk6, hb6⟩ := hcut
          obtain ⟨wz, rfl⟩ : ∃ wz : World, wz = wc := ⟨_, rfl⟩
          clear q1 q2 q3 q4 hs1 hs2 hcell
          have HKZ := Lib.hid (show Kept wr wz (fun k => k = w.heap.size + 1 ∨ k = fb + 1) from hk5.out.then_ hk6.out (fun k hk => .inl hk))
          have HBZ := Lib.hid (hb5.out.trans hb6.out)
          obtain ⟨k1, k2, k3, k4⟩ := hl.out.keep2 HKZ.out HBZ.out
          have HQ := Lib.hid k4
          have HKB := Lib.hid k1
          have HKR := Lib.hid k2
          have HKF := Lib.hid k3
          obtain ⟨z1, z2, z3, z4⟩ := two_cells k3
          obtain ⟨VA, vc, rfl⟩ := Kd.R_slice k4
          obtain ⟨q1, q2, q3, q4⟩ := two_cells hlb6.out
          clear k1 k2 k3 k4
          have hi1 : wrap64 ((i : Int) + 1) = ((i + 1 : Nat) : Int) := wrap64_id (by have := HNN.out; omega) (by have := HNN.out; omega)
          have HSZ := Lib.hid (show fb + 1 < wz.heap.size from Nat.lt_of_lt_of_le hl.out.sz HKZ.out.1)
          have HLL := Lib.hid (show (L.length + 1) * 16 ≤ 140737488355328 by have := hl.out.len; have := HNN.out; omega)
          have hc1 := fun ww => run_i2f (x + d1) ww
          have hc2 := fun ww => run_i2f (y + d2) ww
          go_upto_region 21 with (fail)
          clear q1 q2 q3 q4 hc1 hc2
          go_wp2_with (first | ((with_reducible refine gate_builtin (b := .append) (xs := #[.tmp 99, .tmp 101]) rfl ?_); at_builtin; refine Kd.R_append kc (w0 := w) w.heap.size rfl (.tmp 99) (.tmp 101) 24 42 (.complex .f64 0 0) 16 rfl und24 info42 rfl (by decide) (by omega) (.slice VA L.length vc) L (i2f (x + d1), i2f (y + d2)) [.complex .f64 (i2f (x + d1)) (i2f (y + d2))] (OkF w.heap.size fb) (fun _ => False) ?hs ?hx ?aP (fun _ hk => hk.elim) ?aF ?aO ?aB ?aS ?aL ?_; (case hs => go_simp); (case hx => go_simp); (case aP => exact rfl); (case aF => exact (fun k hk => OkF.new HSZ.out hl.out.hf hk)); (case aO => exact HQ.out); (case aB => exact HKB.out); (case aS => exact HKB.out.size); (case aL => exact HLL.out); intro v1 w8 ho hbb hgr hat; have hk8 := grown_kept (HQ.out) hgr; have HF8 := Lib.hid (blk_kept (HKF.out : wz.heap[fb]? = _) hk8 (fun h => h.1.2.2.1 rfl)); have HK8 := Lib.hid hk8; have HO8 := Lib.hid ho; have HB8 := Lib.hid hbb; obtain ⟨VB, vd, rfl⟩ := Kd.R_slice ho; obtain ⟨t1, t2, t3, t4⟩ := two_cells HF8.out; clear ho hbb hgr hat hk8))
          go_roundg (gk - 1)
          case measure => have := hg.out; omega
          case rel =>
            refine ⟨i + 1, L ++ [(i2f (x + d1), i2f (y + d2))], (difP 6 0 0 (difP 6 0 0 st).2).2, .slice VB (L.length + 1) vd, x + d1, y + d2, by rw [hi1], Lib.hid (by have := hg.out; omega), Lib.hid (by omega), Lib.hid ?_, Lib.hid ?_, Lib.hid ?_⟩
            · have hnext := hl.out.next HKZ.out.1 HB8.out HKR.out HF8.out HK8.out HO8.out ⟨i2f_lt _, i2f_lt _⟩ hrd6.out hby6.out (by unfold StepP; rw [if_neg (by decide), if_neg (by decide), ← hd1.out, ← hd2.out]; exact ⟨rfl, rfl, rfl⟩)
              rwa [show (L ++ [(i2f (x + d1), i2f (y + d2))]).length = L.length + 1 from by simp] at hnext
            · have hks : Kept w8 (w8.setCell ⟨fb, 1, none⟩ (.slice VB (L.length + 1) vd)) (fun k => k = fb) := Kept.setCell (S := fun k => k = fb) (p := ⟨fb, 1, none⟩) (Kept.refl w8 _) (.inl rfl) _
              exact blk_kept (blk_kept hlb6.out HK8.out (fun h => h.1.2.2.2 rfl)) hks (by show ¬ (fb + 1 = fb); omega)
            · have h1 := hbd.out; have h2 := HU1.out; have h3 := HU2.out
              refine ⟨?_, ?_, ?_, ?_⟩ <;> rw [Int.natCast_add] <;> omega
    · have hlt' : ¬ (i : Int) < (M : Int) := by omega
      obtain ⟨RA, rc, hrb, hrC, hrc, hrl⟩ := hl.out.rd
      obtain ⟨y1, y2, y3, y4⟩ := two_cells hrb
      clear hrb hrC hrc hrl y1 y3 y4
      obtain ⟨VA, vc, rfl⟩ := Kd.R_slice hl.out.row
      rcases hst : st.2 with _ | _
      · rw [hst] at y2
        have HST := Lib.hid hst
        clear hst
        have HLN := Lib.hid (show L.length = N * N by rw [hl.out.len, HM.out]; have := hi.out; omega)
        have HRC := Lib.hid (Kd.R_reads' hl.out.row).2.2
        go_wp2_with (first | ((with_reducible refine gate_dst (N := 110) rfl ?_); refine gate_guard ?hgd ?_; (case hgd => go_simp); refine load_grid rfl (.tmp 6) rfl (g := fb) ?hx (u := .int .i64 N) (v := .slice VA L.length vc) hl.out.f ?_; (case hx => go_simp)))
        refine (shortest_any (N : Int) (by omega) VA vc L wr HRC.out hl.out.words (by rw [HLN.out, HM.out]; exact HNN.out)).mono ?_
        rintro e w6 ⟨sv, rfl, hb6, hr6⟩
        obtain ⟨SA, sc, rfl, hsle, hSC⟩ := Kd.R_reads hr6
        have HB6 := Lib.hid (hl.out.below.trans (hb6.mono hl.out.below.size))
        have HX6 := Lib.hid ((hb6.block _ (blk_lt hl.out.res)).trans hl.out.res)
        have HF6 := Lib.hid ((hb6.block _ (blk_lt hl.out.f)).trans hl.out.f)
        have HR6 := Lib.hid (Kd.R_below hl.out.row hb6)
        go_wp2_with fail
        refine (equal_any SA sc (shortL N L) (some ad) c b w6 hSC hsle (Kd.C_below HA.out HB6.out) HC.out (shortL_bytes (by omega) L) HBY.out).mono ?_
        rintro e w7 ⟨rfl, ⟨n7, rfl⟩⟩
        clear hb6 hr6 hSC hsle
        by_cases heq : shortL N L = b
        · have hdec : decide (shortL N L = b) = true := decide_eq_true heq
          have HEQ := Lib.hid heq
          rw [hdec]
          clear heq hdec
          go_wp2_with (first
            | ((with_reducible refine gate_dst (N := 117) rfl ?_); refine load_grid rfl (.tmp 6) rfl (g := fb) ?hx (u := .int .i64 N) (v := .slice VA L.length vc) HF6.out ?_; (case hx => go_simp))
            | ((with_reducible refine gate_store (t := 26) (p := 2) rfl ?_); refine store_grid rfl rfl (.tmp 2) (.tmp 117) rfl (g := w.heap.size) ?hp (u := (N : Int)) (A := VA) (n := L.length) (c := vc) ?hv HX6.out ?_; (case hp => go_simp); (case hv => go_simp); intro w8 hh8 hk8 hb8; have HR8 := Lib.hid hh8; have HK8 := Lib.hid hk8; have HB8 := Lib.hid ((below_drewN HB6.out n7).trans (hb8.mono (Nat.le_refl _))); clear hh8 hk8 hb8))
          obtain ⟨r1, r2, -, -⟩ := two_cells HR8.out
          refine bodyPost_ret (v := .tuple #[.agg #[.int .i64 N, .slice VA L.length vc], .int .i64 0]) (by simp [results, Try.results6, go_sem, r1, r2]) rfl ⟨HB8.out, L, (x, y), st, hl.out.dec, HLN.out, hl.out.words, .inr ⟨VA, vc, rfl, ?_, HST.out, HEQ.out⟩⟩
          exact Kd.R_mono (Kd.R_kept (Kd.R_drewN HR6.out n7) HK8.out (fun k ho he => ho.1 he)) (fun _ _ => trivial)
        · have hdec : decide (shortL N L = b) = false := decide_eq_false heq
          have HEQ := Lib.hid heq
          rw [hdec]
          clear heq hdec
          go_wp2_with (first | ((with_reducible refine gate_store (t := 26) (p := 2) rfl ?_); refine store_grid rfl rfl (.tmp 2) (.tmp 116) rfl (g := w.heap.size) ?hp (u := 0) (A := none) (n := 0) (c := 0) ?hv HX6.out ?_; (case hp => go_simp); (case hv => go_simp); intro w8 hh8 hk8 hb8; have HR8 := Lib.hid hh8; have HB8 := Lib.hid ((below_drewN HB6.out n7).trans (hb8.mono (Nat.le_refl _))); clear hh8 hk8 hb8))
          obtain ⟨r1, r2, -, -⟩ := two_cells HR8.out
          refine bodyPost_ret (v := .tuple #[.agg #[.int .i64 0, .slice none 0 0], .int .i64 210]) (by simp [results, Try.results6, go_sem, r1, r2]) rfl ⟨HB8.out, L, (x, y), st, hl.out.dec, HLN.out, hl.out.words, .inl ⟨rfl, .inr HEQ.out⟩⟩
      · rw [hst] at y2
        have HST := Lib.hid hst
        clear hst
        go_wp2_with (first | ((with_reducible refine gate_store (t := 26) (p := 2) rfl ?_); refine store_grid rfl rfl (.tmp 2) (.tmp 116) rfl (g := w.heap.size) ?hp (u := 0) (A := none) (n := 0) (c := 0) ?hv hl.out.res ?_; (case hp => go_simp); (case hv => go_simp); intro w6 hh6 hk6 hb6; have HR6 := Lib.hid hh6; have HB6 := Lib.hid (hl.out.below.trans (hb6.mono (Nat.le_refl _))); clear hh6 hk6 hb6))
        obtain ⟨r1, r2, -, -⟩ := two_cells HR6.out
        refine bodyPost_ret (v := .tuple #[.agg #[.int .i64 0, .slice none 0 0], .int .i64 210]) (by simp [results, Try.results6, go_sem, r1, r2]) rfl ⟨HB6.out, L, (x, y), st, hl.out.dec, by rw [hl.out.len, HM.out]; have := hi.out; omega, hl.out.words, .inl ⟨rfl, .inl HST.out⟩⟩
end Go.Proofs.Ytomildjihlbbmaa

/-
  A whole float is the float of its whole number.
-/
namespace Go.Proofs.Ytomildjihlbbmaa
open Go.RowKit Flt Num Ieee
set_option linter.unusedVariables false
/-- the word of a normal number from its significand and place -/
theorem write_back {s : Bool} {r k d : Nat} (h1 : 4503599627370496 ≤ r) (h2 : r < 9218868437227405312) (hd : d ≤ 52) (he : (r / 4503599627370496 - 1 : Nat) + d = 1074) (hm : 4503599627370496 + r % 4503599627370496 = k * 2 ^ d) :
    double.write (.number s k 0) = double.word s r := by
  have hk0 : k ≠ 0 := by rintro rfl; omega
  have hlog : k.log2 + d = 52 := by
    obtain ⟨b1, b2⟩ := log2_bounds hk0
    have h3 : 2 ^ (k.log2 + d) ≤ k * 2 ^ d := by rw [Nat.pow_add]; exact Nat.mul_le_mul_right _ b1
    have h4 : k * 2 ^ d < 2 ^ (k.log2 + 1 + d) := by rw [Nat.pow_add]; exact Nat.mul_lt_mul_of_pos_right b2 (Nat.two_pow_pos _)
    have h5 : k.log2 + d < 53 := (Nat.pow_lt_pow_iff_right (by omega : 1 < 2)).1 (by omega)
    have h6 : 52 < k.log2 + 1 + d := (Nat.pow_lt_pow_iff_right (by omega : 1 < 2)).1 (by omega)
    omega
  have hn := nearest_exact double s k 0 (-(d : Int)) (k * 2 ^ d) hk0 (by rw [d_least]; show -(d : Int) = max (0 + (k.log2 : Int) - 52) (-1074); omega) (.inl ⟨by omega, by rw [show (0 - -(d : Int)).toNat = d from by omega]⟩)
  show double.nearest s k 0 = _
  rw [hn, d_least, d_binade, d_inf, ← hm]
  congr 1
  rw [show (-(d : Int) - -1074).toNat = 1074 - d from by omega]
  omega
theorem i2f_whole {x : Nat} (hx : x < 2 ^ 64) (h : wholeP x most = true) : i2f (fInt x) = x := by
  obtain ⟨hi, ha, hb⟩ := whole_int hx h
  unfold wholeP at h
  split at h
  · rename_i h1
    split at h
    · rename_i h2
      split at h
      · obtain ⟨s, m, e, hn, hl⟩ := below_num hx h1
        have h4 := toIntVal_num hn hl
        rw [hi] at h4
        injection h4 with h4
        rw [i2f_eq]
        by_cases hm : m = 0
        · have hz := hn.z hm
          have he0 := eq0_num hn
          rw [hm] at he0
          rw [he0, hn.sg] at h
          have hs : s = false := by cases s <;> simp at h ⊢
          rw [hs] at hz
          have : fInt x = 0 := by rw [hz]; decide +kernel
          rw [this, hz]; decide +kernel
        · obtain ⟨s', r, hr, hxw, hrd⟩ := double_cases x hx
          have hrd2 : double.read x = .number s m e := hn.r
          have h53 := hn.m1
          rw [hrd2] at hrd
          by_cases he : 0 ≤ e
          · exfalso
            have hd : (-e).toNat = 0 := by omega
            have hk : 1 ≤ m <<< e.toNat := by rw [shl_pow]; exact Nat.mul_pos (Nat.pos_of_ne_zero hm) (Nat.two_pow_pos _)
            have c2 := cut_exact .zero false (m <<< e.toNat) 0 hk
            rw [Nat.pow_zero, Nat.mul_one] at c2
            rw [hd, c2, shl_pow] at h4
            have hbig : 4503599627370496 ≤ m := by
              split at hrd
              · injection hrd with _ _ h7; omega
              · split at hrd
                · injection hrd with _ h6 _; omega
                · split at hrd <;> cases hrd
            have hge : m * 1 ≤ m * 2 ^ e.toNat := Nat.mul_le_mul_left _ (Nat.two_pow_pos _)
            unfold most at ha hb
            cases s with
            | true => rw [if_pos rfl] at h4; omega
            | false => rw [if_neg (by decide)] at h4; omega
          · have hen : e.toNat = 0 := by omega
            rw [hen, shl_pow, Nat.pow_zero, Nat.mul_one] at h4
            have hr0 : m % 2 ^ (-e).toNat = 0 := by
              rcases Nat.eq_zero_or_pos (m % 2 ^ (-e).toNat) with h0 | h0
              · exact h0
              · exfalso
                have b : Toward.down.cut s m (-e).toNat < 2 ^ 53 := by
                  have g1 := nat_cut_le .down s m (-e).toNat
                  have g2 : 1 ≤ min (-e).toNat (m.log2 + 2) := by omega
                  have g3 : 2 ^ 1 ≤ 2 ^ min (-e).toNat (m.log2 + 2) := Nat.pow_le_pow_right (by omega) g2
                  have g4 : m / 2 ^ min (-e).toNat (m.log2 + 2) ≤ m / 2 ^ 1 := Nat.div_le_div_left g3 (by omega)
                  omega
                have g5 := not_int hn hm (by omega) (by omega) _ b
                unfold fFloor FloatKind.decode at h2
                rw [hn.r] at h2
                simp only [Datum.integral] at h2
                rw [hen, shl_pow, Nat.pow_zero, Nat.mul_one, g5] at h2
                cases h2
            obtain ⟨k, hk⟩ : ∃ k, m = k * 2 ^ (-e).toNat := ⟨m / 2 ^ (-e).toNat, (Nat.div_mul_cancel (Nat.dvd_of_mod_eq_zero hr0)).symm⟩
            have hk1 : 1 ≤ k := by
              rcases Nat.eq_zero_or_pos k with h0 | h0
              · rw [h0, Nat.zero_mul] at hk; exact absurd hk hm
              · exact h0
            have c2 := cut_exact .zero false k (-e).toNat hk1
            rw [← hk] at c2
            rw [c2] at h4
            have hd52 : (-e).toNat ≤ 52 := by
              have g1 : 2 ^ (-e).toNat ≤ k * 2 ^ (-e).toNat := Nat.le_mul_of_pos_left _ hk1
              have g2 : 2 ^ (-e).toNat < 2 ^ 53 := by rw [← hk] at g1; omega
              have g3 := (Nat.pow_lt_pow_iff_right (by omega : 1 < 2)).1 g2
              omega
            have hns : decide (fInt x < 0) = s ∧ (fInt x).natAbs = k := by
              cases s with
              | true => rw [if_pos rfl] at h4; rw [h4]; exact ⟨decide_eq_true (by omega), by omega⟩
              | false => rw [if_neg (by decide)] at h4; rw [h4]; exact ⟨decide_eq_false (by omega), by omega⟩
            rw [hns.1, hns.2]
            split at hrd
            · injection hrd with _ _ h7; omega
            · rename_i q1
              split at hrd
              · rename_i q2
                injection hrd with h5 h6 h7
                subst h5
                rw [hxw]
                exact write_back (by omega) q2 hd52 (by omega) (by omega)
              · split at hrd <;> cases hrd
      · cases h
    · cases h
  · cases h
end Go.Proofs.Ytomildjihlbbmaa

/-
  Decoding what was encoded gives it back.
-/
namespace Go.Proofs.Ytomildjihlbbmaa
open Go.RowKit Flt Num
set_option linter.unusedVariables false
theorem take_app2 (n : Nat) (m1 rest : List Int) (s : Bool) (h : m1.length = n) : takeP n (m1 ++ rest, s) = (m1, (rest, s)) := by
  subst h; exact takeP_app m1 rest s
theorem zig40 {a b : Int} (ha : -most ≤ a ∧ a ≤ most) (hb : -most ≤ b ∧ b ≤ most) : zig (a - b) < 128 ^ (5 + 1) := by
  have := zig_lt (d := a - b) (by unfold most at *; omega) (by unfold most at *; omega)
  omega
theorem vari_fuel : ∀ (k j v : Nat), v < 128 ^ (j + 1) → j ≤ k → vari k v = vari j v
  | 0, 0, v, _, _ => rfl
  | k + 1, 0, v, h, _ => by
    rw [vari, vari, if_neg (by omega), Nat.mod_eq_of_lt (by omega)]
  | k + 1, j + 1, v, h, hj => by
    rw [vari, vari, vari_fuel k j (v / 128) (by rw [Nat.pow_succ] at h; omega) (by omega)]
theorem dif_back {a b : Int} (ha : -most ≤ a ∧ a ≤ most) (hb : -most ≤ b ∧ b ≤ most) (rest : List Int) (s : Bool) : difP 6 0 0 (vari 6 (zig (a - b)) ++ rest, s) = (zig (a - b), (rest, s)) := by
  have hz := zig40 ha hb
  rw [vari_fuel 6 5 _ hz (by decide), difP_vari 5 0 0 _ rest s hz]; simp
theorem step_back {way : Nat} {last : Int × Int} {v : Nat × Nat} {p : List Int × (Int × Int)} (h : encCell way last v = some p) (hv : v.1 < 2 ^ 64 ∧ v.2 < 2 ^ 64) (hl : (-most ≤ last.1 ∧ last.1 ≤ most) ∧ -most ≤ last.2 ∧ last.2 ≤ most)
    {rest : List Int} {s : Bool} {v2 : Nat × Nat} {last2 : Int × Int} {st2 : List Int × Bool} (hs : StepP way last (p.1 ++ rest, s) v2 last2 st2) : v2 = v ∧ last2 = p.2 ∧ st2 = (rest, s) ∧ (-most ≤ p.2.1 ∧ p.2.1 ≤ most) ∧ -most ≤ p.2.2 ∧ p.2.2 ≤ most := by
  unfold encCell at h
  unfold StepP at hs
  by_cases h0 : way = 0
  · rw [if_pos h0] at h hs
    injection h with h
    subst h
    dsimp only at hs ⊢
    rw [List.append_assoc, take_app2 8 _ _ _ (be_length _ _)] at hs
    dsimp only at hs
    rw [take_app2 8 _ _ _ (be_length _ _)] at hs
    dsimp only at hs
    rw [fromB_be0 8 v.1 (by omega), fromB_be0 8 v.2 (by omega)] at hs
    exact ⟨hs.1, hs.2.2, hs.2.1, hl⟩
  · rw [if_neg h0] at h hs
    by_cases h1 : way = 1
    · rw [if_pos h1] at h hs
      split at h
      · rename_i hn
        injection h with h
        subst h
        unfold narrowB at hn
        rw [Bool.and_eq_true, Option.isSome_iff_exists, Option.isSome_iff_exists] at hn
        obtain ⟨⟨c, hc⟩, d, hd⟩ := hn
        dsimp only at hs ⊢
        rw [hc, hd] at hs
        dsimp only [Option.getD] at hs
        rw [List.append_assoc, take_app2 4 _ _ _ (be_length _ _)] at hs
        dsimp only at hs
        rw [take_app2 4 _ _ _ (be_length _ _)] at hs
        dsimp only at hs
        rw [fromB_be0 4 c (by have := narrow_lt hc; omega), fromB_be0 4 d (by have := narrow_lt hd; omega)] at hs
        obtain ⟨hw1, hw2, h3, h4⟩ := hs
        exact ⟨Prod.ext (narrow_back hv.1 hc hw1) (narrow_back hv.2 hd hw2), h4, h3, hl⟩
      · cases h
    · rw [if_neg h1] at h hs
      split at h
      · rename_i hw
        injection h with h
        subst h
        obtain ⟨⟨_, a1, a2⟩, _, b1, b2⟩ := wholeC_parts hv.1 hv.2 hw
        unfold wholeC at hw
        rw [Bool.and_eq_true] at hw
        dsimp only at hs ⊢
        rw [List.append_assoc, dif_back ⟨a1, a2⟩ hl.1] at hs
        dsimp only at hs
        rw [dif_back ⟨b1, b2⟩ hl.2] at hs
        dsimp only at hs
        rw [unzig_zig, unzig_zig] at hs
        obtain ⟨h3, h4, h5⟩ := hs
        have e1 : last.1 + (fInt v.1 - last.1) = fInt v.1 := by omega
        have e2 : last.2 + (fInt v.2 - last.2) = fInt v.2 := by omega
        rw [e1, e2] at h3
        subst h3
        refine ⟨?_, rfl, h5, ⟨a1, a2⟩, b1, b2⟩
        rw [h4]
        exact Prod.ext (i2f_whole hv.1 hw.1) (i2f_whole hv.2 hw.2)
      · cases h
theorem encL_app (way : Nat) : ∀ (l : List (Nat × Nat)) (last : Int × Int) (a b : List Int), encL way last l (a ++ b) = (encL way last l b).map (a ++ ·)
  | [], _, a, b => rfl
  | v :: vs, last, a, b => by
    rw [encL, encL]
    cases encCell way last v with
    | none => rfl
    | some p =>
      rw [Option.bind_some, Option.bind_some, List.append_assoc]
      exact encL_app way vs p.2 a (b ++ p.1)
theorem dec_pre {way : Nat} {l : List (Nat × Nat)} (hw : Words l) {rest : List Int} (he : encL way (0, 0) l [] = some rest) {L : List (Nat × Nat)} {last : Int × Int} {st : List Int × Bool} (hd : DecS way (rest, false) L last st) :
    L.length ≤ l.length → L = l.take L.length ∧ st.2 = false ∧ encL way last (l.drop L.length) [] = some st.1 ∧ (-most ≤ last.1 ∧ last.1 ≤ most) ∧ -most ≤ last.2 ∧ last.2 ≤ most := by
  induction hd with
  | nil => exact fun _ => ⟨by simp, rfl, by simpa using he, by decide, by decide⟩
  | @snoc L v last last' st st' hd hs ih =>
    intro hle
    rw [List.length_append, List.length_singleton] at hle
    obtain ⟨h1, h2, h3, h4⟩ := ih (by omega)
    rw [drop_at (by omega : L.length < l.length), encL] at h3
    obtain ⟨p, hp, h3⟩ := Option.bind_eq_some_iff.1 h3
    rw [List.nil_append, show p.1 = p.1 ++ [] from (List.append_nil _).symm, encL_app] at h3
    obtain ⟨t, ht, h5⟩ := Option.map_eq_some_iff.1 h3
    have hst : st = (p.1 ++ t, false) := Prod.ext h5.symm h2
    rw [hst] at hs
    obtain ⟨k1, k2, k3, k4⟩ := step_back hp (words_at hw (by omega)) h4 hs
    rw [List.length_append, List.length_singleton, k3, k2]
    refine ⟨?_, rfl, ht, k4⟩
    rw [k1]
    conv => lhs; rw [h1]
    rw [List.take_add_one]
    have : l[L.length]? = some (l.getD L.length (0, 0)) := by
      rw [List.getElem?_eq_getElem (by omega)]; simp [List.getD, (by omega : L.length < l.length)]
    rw [this, List.length_take, Nat.min_eq_left (by omega)]
    rfl
/-- Whatever is read of bytes that a way has written is what was written. -/
theorem dec_back {way : Nat} {N : Int} {l : List (Nat × Nat)} (hw : Words l) {rest : List Int} (he : encW way N l = some ([(way : Int), N] ++ rest)) {L : List (Nat × Nat)} {last : Int × Int} {st : List Int × Bool} (hd : DecS way (rest, false) L last st) (hl : L.length = l.length) :
    L = l ∧ st = ([], false) := by
  unfold encW at he
  rw [show [(way : Int), N] = [(way : Int), N] ++ [] from (List.append_nil _).symm, encL_app] at he
  obtain ⟨t, ht, h5⟩ := Option.map_eq_some_iff.1 he
  rw [List.append_nil] at h5
  have h6 : t = rest := List.append_cancel_left h5
  subst h6
  obtain ⟨h1, h2, h3, _⟩ := dec_pre hw ht hd (by omega)
  rw [hl, List.take_length] at h1
  rw [hl, List.drop_length, encL] at h3
  exact ⟨h1, Prod.ext (Option.some.inj h3).symm h2⟩
end Go.Proofs.Ytomildjihlbbmaa

/-
  Unpack: bytes that are refused at once.
-/
namespace Go.Proofs.Ytomildjihlbbmaa
open Go.RowKit Flt Num Go.Proofs.YtomildjihlbbmaaW.PrintWords Go.Proofs.YtomildjihlbbmaaW.PrintLast Go.Proofs.YtomildjihlbbmaaW.PrintMore Go.Proofs.Ytomildjihlbbmaa.PPackUnpacks
set_option linter.unusedVariables false
attribute [local go_sem] run_f64bits run_f64from run_f32bits run_f32from
def UnpBad (w : World) (e : Ending) (w' : World) : Prop := Below w.heap.size w w' ∧ e = .returned (.tuple #[.agg #[.int .i64 0, .slice none 0 0], .int .i64 210])

set_option maxHeartbeats 4000000 in
set_option maxRecDepth 100000 in
theorem unpackS_any (A : Option Addr) (c : Nat) (b : List Int) (w : World) (hl : b.length < 2) :
    Calls Try.prog 6 #[.slice A b.length c] w fun e w' => UnpBad w e w' := by
  have HL := Lib.hid hl
  clear hl
  go_enter Try.func6, Try.ntmps6
  go_wp2_with fail
  obtain ⟨w1, hw1⟩ : ∃ w1 : World, w1 = (w.alloc (.cells #[.int .i64 0, .slice none 0 0] 26)).alloc (.cells #[.slice A b.length c, .bool false] 45) := ⟨_, rfl⟩
  rw [← hw1]
  have HB1 := Lib.hid (show Below w.heap.size w w1 by rw [hw1]; exact below_alloc (below_alloc (Below.refl _ _) _) _)
  have HX1 := Lib.hid (show w1.heap[w.heap.size]? = some (.cells #[.int .i64 0, .slice none 0 0] 26) by rw [hw1]; exact heap_alloc2_old w _ _)
  have HY1 := Lib.hid (show w1.heap[w.heap.size + 1]? = some (.cells #[.slice A b.length c, .bool false] 45) by rw [hw1]; exact heap_alloc2_new w _ _)
  clear hw1
  refine (take_short 2 (.inr (.inl rfl)) (w.heap.size + 1) A c b false w1 HL.out HY1.out).mono ?_
  rintro e w2 ⟨rfl, w0, h1, h2, h3, h4, hw2⟩
  have HX2 := Lib.hid (show w2.heap[w.heap.size]? = some (.cells #[.int .i64 0, .slice none 0 0] 26) by rw [hw2]; exact blk_kept HX1.out (h2.alloc _) (by show ¬ (w.heap.size = w.heap.size + 1); omega))
  have HY2 := Lib.hid (show w2.heap[w.heap.size + 1]? = some (.cells #[.slice none 0 0, .bool true] 45) by rw [hw2, Below.heap_alloc _ _ _ (blk_lt h1)]; exact h1)
  have HZ2 := Lib.hid (show w2.heap[w1.heap.size]? = some (.cells #[.int .u8 0, .int .u8 0] 5) by rw [hw2]; exact heap_alloc_new' _ _ _ h3)
  have HB2 := Lib.hid (show Below w.heap.size w w2 by rw [hw2]; exact HB1.out.trans ((h4.mono (by omega)).alloc (by have := HB1.out.size; omega) _))
  clear hw2 h1 h2 h3 h4 HX1 HY1 HB1
  obtain ⟨p, hp⟩ : ∃ p : Nat, p = w1.heap.size := ⟨_, rfl⟩
  rw [← hp] at HZ2 ⊢
  clear hp
  obtain ⟨z1, z2, -, -⟩ := two_cells HZ2.out
  obtain ⟨-, y2, -, -⟩ := two_cells HY2.out
  have y2' : ∀ o, (w2.alloc o).cell? ⟨w.heap.size + 1, 1, none⟩ = some (.bool true) := fun o => pw_cell_below (below_alloc (Below.refl _ _) o) y2
  have HX3 := Lib.hid (show (w2.alloc (.cells #[.int .i64 0, .slice none 0 0] 26)).heap[w.heap.size]? = some (.cells #[.int .i64 0, .slice none 0 0] 26) by rw [Below.heap_alloc _ _ _ (blk_lt HX2.out)]; exact HX2.out)
  have HB3 := Lib.hid (show Below w.heap.size w (w2.alloc (.cells #[.int .i64 0, .slice none 0 0] 26)) from HB2.out.alloc HB2.out.size _)
  go_wp2_with (first | ((with_reducible refine gate_store (t := 26) (p := 2) rfl ?_); refine store_grid rfl rfl (.tmp 2) (.tmp 41) rfl (g := w.heap.size) ?hp (u := 0) (A := none) (n := 0) (c := 0) ?hv HX3.out ?_; (case hp => go_simp); (case hv => go_simp); intro w6 hh6 hk6 hb6; have HR6 := Lib.hid hh6; have HB6 := Lib.hid (HB3.out.trans (hb6.mono (Nat.le_refl _))); clear hh6 hk6 hb6))
  obtain ⟨r1, r2, -, -⟩ := two_cells HR6.out
  exact bodyPost_ret (v := .tuple #[.agg #[.int .i64 0, .slice none 0 0], .int .i64 210]) (by simp [results, Try.results6, go_sem, r1, r2]) rfl ⟨HB6.out, rfl⟩

set_option maxHeartbeats 4000000 in
set_option maxRecDepth 100000 in
theorem unpackH_any (A : Option Addr) (c : Nat) (b : List Int) (w : World) (hA : kb.C w A b.length b) (hc : b.length ≤ c) (q N : Nat) (hq : q < 256) (hN : N < 256) (hbad : 2 < q ∨ N < 1 ∨ 64 < N) (rest : List Int) (hbe : b = [(q : Int), (N : Int)] ++ rest) :
    Calls Try.prog 6 #[.slice A b.length c] w fun e w' => UnpBad w e w' := by
  have HA := Lib.hid hA
  have HLEN := Lib.hid (show b.length = rest.length + 2 by rw [hbe]; simp)
  have HC := Lib.hid hc
  obtain ⟨ad, rfl, hc0⟩ := Kd.at_int hA 0 (by decide) (by have := HLEN.out; omega)
  obtain ⟨_, e1, hc1⟩ := Kd.at_int hA 1 (by decide) (by have := HLEN.out; omega)
  cases e1
  rw [hbe] at hc0 hc1
  have HLT := Lib.hid (World.block_lt_of_cell? w _ hc0)
  have HBAD := Lib.hid hbad
  clear hA hc hbe hbad
  go_enter Try.func6, Try.ntmps6
  go_wp2_with fail
  obtain ⟨w1, hw1⟩ : ∃ w1 : World, w1 = (w.alloc (.cells #[.int .i64 0, .slice none 0 0] 26)).alloc (.cells #[.slice (some ad) b.length c, .bool false] 45) := ⟨_, rfl⟩
  rw [← hw1]
  have HB1 := Lib.hid (show Below w.heap.size w w1 by rw [hw1]; exact below_alloc (below_alloc (Below.refl _ _) _) _)
  have HX1 := Lib.hid (show w1.heap[w.heap.size]? = some (.cells #[.int .i64 0, .slice none 0 0] 26) by rw [hw1]; exact heap_alloc2_old w _ _)
  have HY1 := Lib.hid (show w1.heap[w.heap.size + 1]? = some (.cells #[.slice (some ad) b.length c, .bool false] 45) by rw [hw1]; exact heap_alloc2_new w _ _)
  clear hw1
  refine (take_ok2 2 (w.heap.size + 1) (some ad) c b false w1 (by have := HLEN.out; omega) HC.out (Kd.C_below HA.out HB1.out) HY1.out (fun a e hp => by cases e; have := HLT.out; rw [add_block] at this; omega)).mono ?_
  rintro e w2 ⟨rfl, hrd, hk2, hb2⟩
  have HB2 := Lib.hid (HB1.out.trans (hb2.mono (by omega)))
  have HX2 := Lib.hid (blk_kept HX1.out hk2 (by show ¬ (w.heap.size = w.heap.size + 1); omega))
  obtain ⟨RA, rc, hrb, -, -, -⟩ := hrd
  obtain ⟨-, y2, -, -⟩ := two_cells hrb
  dsimp only at y2
  have H0 := Lib.hid (show w.cell? ad = some (.int .u8 (q : Int)) by simpa [Addr.add, rd] using hc0)
  have H1 := Lib.hid (show w.cell? ⟨ad.block, ad.off + 1, none⟩ = some (.int .u8 (N : Int)) by simpa [Addr.add, rd] using hc1)
  have hc0' := pw_cell_below HB2.out H0.out
  have hc1' := pw_cell_below HB2.out H1.out
  clear hrb hk2 hb2 HX1 HY1 hc0 hc1 HB1
  have y2' : ∀ o, (w2.alloc o).cell? ⟨w.heap.size + 1, 1, none⟩ = some (.bool false) := fun o => pw_cell_below (below_alloc (Below.refl _ _) o) y2
  have hc0'' : ∀ o, (w2.alloc o).cell? ad = some (.int .u8 (q : Int)) := fun o => pw_cell_below (below_alloc (Below.refl _ _) o) hc0'
  have HX3 := Lib.hid (show (w2.alloc (.cells #[.int .i64 N, .slice none 0 0] 26)).heap[w.heap.size]? = some (.cells #[.int .i64 0, .slice none 0 0] 26) by rw [Below.heap_alloc _ _ _ (blk_lt HX2.out)]; exact HX2.out)
  have HB3 := Lib.hid (show Below w.heap.size w (w2.alloc (.cells #[.int .i64 N, .slice none 0 0] 26)) from HB2.out.alloc HB2.out.size _)
  have fin : ∀ w6 : World, w6.heap[w.heap.size]? = some (.cells #[.int .i64 0, .slice none 0 0] 26) → w6.cell? ⟨w.heap.size, 0, none⟩ = some (.int .i64 0) := fun w6 h => (two_cells h).1
  by_cases h1 : 2 < q
  · have h1' : (2 : Int) < (q : Int) := by omega
    go_wp2_with (first | ((with_reducible refine gate_store (t := 26) (p := 2) rfl ?_); refine store_grid rfl rfl (.tmp 2) (.tmp 41) rfl (g := w.heap.size) ?hp (u := 0) (A := none) (n := 0) (c := 0) ?hv HX3.out ?_; (case hp => go_simp); (case hv => go_simp); intro w6 hh6 hk6 hb6; have HR6 := Lib.hid hh6; have HB6 := Lib.hid (HB3.out.trans (hb6.mono (Nat.le_refl _))); clear hh6 hk6 hb6))
    obtain ⟨r1, r2, -, -⟩ := two_cells HR6.out
    exact bodyPost_ret (v := .tuple #[.agg #[.int .i64 0, .slice none 0 0], .int .i64 210]) (by simp [results, Try.results6, go_sem, r1, r2]) rfl ⟨HB6.out, rfl⟩
  · have h1' : ¬ (2 : Int) < (q : Int) := by omega
    by_cases h2 : N < 1
    · have h2' : (N : Int) < 1 := by omega
      go_wp2_with (first | ((with_reducible refine gate_store (t := 26) (p := 2) rfl ?_); refine store_grid rfl rfl (.tmp 2) (.tmp 41) rfl (g := w.heap.size) ?hp (u := 0) (A := none) (n := 0) (c := 0) ?hv HX3.out ?_; (case hp => go_simp); (case hv => go_simp); intro w6 hh6 hk6 hb6; have HR6 := Lib.hid hh6; have HB6 := Lib.hid (HB3.out.trans (hb6.mono (Nat.le_refl _))); clear hh6 hk6 hb6))
      obtain ⟨r1, r2, -, -⟩ := two_cells HR6.out
      exact bodyPost_ret (v := .tuple #[.agg #[.int .i64 0, .slice none 0 0], .int .i64 210]) (by simp [results, Try.results6, go_sem, r1, r2]) rfl ⟨HB6.out, rfl⟩
    · have h2' : ¬ (N : Int) < 1 := by omega
      have h3' : (64 : Int) < (N : Int) := by have := HBAD.out; omega
      go_wp2_with (first | ((with_reducible refine gate_store (t := 26) (p := 2) rfl ?_); refine store_grid rfl rfl (.tmp 2) (.tmp 41) rfl (g := w.heap.size) ?hp (u := 0) (A := none) (n := 0) (c := 0) ?hv HX3.out ?_; (case hp => go_simp); (case hv => go_simp); intro w6 hh6 hk6 hb6; have HR6 := Lib.hid hh6; have HB6 := Lib.hid (HB3.out.trans (hb6.mono (Nat.le_refl _))); clear hh6 hk6 hb6))
      obtain ⟨r1, r2, -, -⟩ := two_cells HR6.out
      exact bodyPost_ret (v := .tuple #[.agg #[.int .i64 0, .slice none 0 0], .int .i64 210]) (by simp [results, Try.results6, go_sem, r1, r2]) rfl ⟨HB6.out, rfl⟩
end Go.Proofs.Ytomildjihlbbmaa
