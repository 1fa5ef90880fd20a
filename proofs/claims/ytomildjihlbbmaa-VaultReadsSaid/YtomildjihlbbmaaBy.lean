/-
  by: the reference's bytes of a field by a way.
-/
import Derived.Test.YtomildjihlbbmaaNum
namespace Go.Proofs.Ytomildjihlbbmaa
open Go.RowKit Flt Num Go.Proofs.YtomildjihlbbmaaW.PrintWords Go.Proofs.YtomildjihlbbmaaW.PrintLast Go.Proofs.YtomildjihlbbmaaW.PrintMore Go.Proofs.Ytomildjihlbbmaa.PPackUnpacks
set_option linter.unusedVariables false
attribute [local go_sem] run_f64bits run_f64from run_f32bits run_f32from
theorem two_cells_of {w : World} {g t : Nat} {a b : Value} (h : w.heap[g]? = some (.cells #[a, b] t (0, 0))) : w.cell? ⟨g, 0, none⟩ = some a ∧ w.cell? ⟨g, 1, none⟩ = some b ∧ w.frozen? ⟨g, 0, none⟩ = false ∧ w.frozen? ⟨g, 1, none⟩ = false := two_cells h
theorem R_keep1 {W W' : World} {b g : Nat} {v : Value} {xs : List Int} (h : kb.R 5 W' b (fun k => k ≠ g ∨ W.heap.size ≤ k) v xs) (h1 : g < W.heap.size) : kb.R 5 W' b (fun k => k ≠ g) v xs :=
  Kd.R_mono h (fun k hk => by
    rcases hk with hk | hk
    · exact hk
    · omega)
theorem R_off1 {W : World} {b g t : Nat} {P : Nat → Prop} {v : Value} {xs : List Int} {c1 : Array Value} (h : kb.R 5 W b P v xs) (h1 : W.heap[g]? = some (.cells c1 t (0, 0))) (ht : 5 ≠ t) : kb.R 5 W b (fun k => k ≠ g) v xs := by
  have ht' : ∀ q, q ∈ 5 :: kb.E → q ≠ t := by
    intro q hq
    rcases List.mem_cons.1 hq with rfl | hq
    · exact ht
    · cases hq
  exact Kd.R_mono (Kd.R_types h h1 ht') (fun k hk => hk.2)

set_option maxHeartbeats 4000000 in
set_option maxRecDepth 100000 in
theorem by0_any (N : Int) (hN : 0 ≤ N ∧ N < 256) (A : Option Addr) (c : Nat) (l : List (Nat × Nat)) (w : World) (hC : kc.C w A l.length l) (hW : Words l) (hl : l.length ≤ 4096) :
    Calls Try.prog 38 #[.agg #[.int .i64 N, .slice A l.length c], .int .i64 0] w fun e w' => ∃ v, e = .returned (.tuple #[v, .bool (encL 0 (0, 0) l [0, N]).isSome]) ∧ Below w.heap.size w w' ∧ WOut (encL 0 (0, 0) l [0, N]) w w' v := by
  have HC := Lib.hid hC
  have HW := Lib.hid hW
  have HL := Lib.hid hl
  have hN8 : N % 256 = N := by omega
  have hmax : (l.length : Int) < 9223372036854775807 := by omega
  clear hC hW hl hN
  go_enter Try.func38, Try.ntmps38
  go_wp2_with fail
  go_loopg [6, 9] (l.length + 1) (fun gk v6 v9 wr => ∃ (i : Nat) (acc : List Int), v9 = .int .i64 (i : Int) ∧ Hid (i + gk = l.length + 1) ∧ Hid (i ≤ l.length) ∧ Hid (Below w.heap.size w wr) ∧ Hid (kb.R 5 wr w.heap.size (fun k => k ≠ w.heap.size) v6 acc) ∧ Hid (wr.heap[w.heap.size]? = some (.cells #[.int .i64 N, .slice A l.length c] 26)) ∧ Hid (acc.length = 2 + 16 * i) ∧ Hid (encL 0 (0, 0) (l.drop i) acc = encL 0 (0, 0) l [0, N]))
  case atStart =>
    refine ⟨0, [0, N], rfl, Lib.hid (by omega), Lib.hid (by omega), Lib.hid ?_, Lib.hid ?_, Lib.hid ?_, rfl, rfl⟩
    · exact below_alloc (below_alloc (Below.refl _ _) _) _
    · refine R_off1 (lit_R2 _ 0 N _ _ (World.size_alloc ..) (by omega)) (t := 26) (c1 := #[.int .i64 N, .slice A l.length c]) ?_ (by decide)
      rw [Below.heap_alloc _ _ _ (by rw [World.size_alloc]; omega)]
      exact heap_alloc_new w _
    · rw [Below.heap_alloc _ _ _ (by rw [World.size_alloc]; omega)]
      exact heap_alloc_new w _
  case round =>
    obtain ⟨i, acc, rfl, hk, hi, hb, hr, hx, ha, he⟩ := hrel
    obtain ⟨x1, x2, x3, x4⟩ := two_cells_of hx.out
    by_cases hlt : i < l.length
    · have hlt' : (i : Int) < (l.length : Int) := by omega
      have hnn : (0 : Int) ≤ (i : Int) := by omega
      obtain ⟨ad, rfl, hcell⟩ := at_kc (Kd.C_below HC.out hb.out) i hlt
      have hww := Lib.hid (words_at HW.out hlt)
      have hstep := Lib.hid (he.out.symm.trans (by rw [drop_at hlt, encL]))
      obtain ⟨⟨re, im⟩, hre⟩ : ∃ v : Nat × Nat, v = l.getD i (0, 0) := ⟨_, rfl⟩
      rw [← hre] at hcell hww hstep
      clear hre he
      dsimp only at hcell
      have HA := Lib.hid (show acc.length < 2 ^ 39 by have := ha.out; have := HL.out; omega)
      go_wp2_with fail
      refine (high8_any (fun k => k ≠ w.heap.size) _ _ re w wr hb.out hr.out (by have := HA.out; omega)).mono ?_
      rintro e w2 ⟨v2, rfl, hr2, hb2, hk2⟩
      have HB2 := Lib.hid hb2
      have HR2 := Lib.hid (R_keep1 hr2 (blk_lt hx.out))
      have HX2 := Lib.hid (blk_kept hx.out hk2 (fun h => h rfl))
      clear hr2 hb2 hk2
      go_wp2_with fail
      refine (high8_any (fun k => k ≠ w.heap.size) _ _ im w w2 HB2.out HR2.out (by have := HA.out; rw [List.length_append, be_length]; omega)).mono ?_
      rintro e w3 ⟨v3, rfl, hr3, hb3, hk3⟩
      have HB3 := Lib.hid hb3
      have HR3 := Lib.hid (R_keep1 hr3 (blk_lt HX2.out))
      have HX3 := Lib.hid (blk_kept HX2.out hk3 (fun h => h rfl))
      clear hr3 hb3 hk3
      have hi1 : wrap64 ((i : Int) + 1) = ((i + 1 : Nat) : Int) := wrap64_id (by omega) (by omega)
      go_wp2_with fail
      go_roundg (gk - 1)
      case measure => have := hk.out; omega
      case rel =>
        refine ⟨i + 1, acc ++ be 8 re ++ be 8 im, by simp, Lib.hid (by have := hk.out; omega), Lib.hid (by omega), HB3, HR3, HX3, Lib.hid ?_, Lib.hid ?_⟩
        · have := ha.out; rw [List.length_append, List.length_append, be_length, be_length]; omega
        · rw [hstep.out, encCell, if_pos rfl, Option.bind_some, List.append_assoc]
    · have hlt' : ¬ (i : Int) < (l.length : Int) := by omega
      have hie : i = l.length := by have := hi.out; omega
      have hfin := Lib.hid (show encL 0 (0, 0) l [0, N] = some acc by rw [← he.out, hie, List.drop_length, encL])
      go_wp2
      go_ret2
      exact ⟨_, by rw [hfin.out]; rfl, hb.out, .some_ hfin.out (R_true hr.out)⟩

set_option maxHeartbeats 4000000 in
set_option maxRecDepth 100000 in
theorem by1_any (N : Int) (hN : 0 ≤ N ∧ N < 256) (A : Option Addr) (c : Nat) (l : List (Nat × Nat)) (w : World) (hC : kc.C w A l.length l) (hW : Words l) (hl : l.length ≤ 4096) :
    Calls Try.prog 38 #[.agg #[.int .i64 N, .slice A l.length c], .int .i64 1] w fun e w' => ∃ v, e = .returned (.tuple #[v, .bool (encL 1 (0, 0) l [1, N]).isSome]) ∧ Below w.heap.size w w' ∧ WOut (encL 1 (0, 0) l [1, N]) w w' v := by
  have HC := Lib.hid hC
  have HW := Lib.hid hW
  have HL := Lib.hid hl
  have hN8 : N % 256 = N := by omega
  have hmax : (l.length : Int) < 9223372036854775807 := by omega
  clear hC hW hl hN
  go_enter Try.func38, Try.ntmps38
  go_wp2_with fail
  go_loopg [6, 9] (l.length + 1) (fun gk v6 v9 wr => ∃ (i : Nat) (acc : List Int), v9 = .int .i64 (i : Int) ∧ Hid (i + gk = l.length + 1) ∧ Hid (i ≤ l.length) ∧ Hid (Below w.heap.size w wr) ∧ Hid (kb.R 5 wr w.heap.size (fun k => k ≠ w.heap.size) v6 acc) ∧ Hid (wr.heap[w.heap.size]? = some (.cells #[.int .i64 N, .slice A l.length c] 26)) ∧ Hid (acc.length = 2 + 8 * i) ∧ Hid (encL 1 (0, 0) (l.drop i) acc = encL 1 (0, 0) l [1, N]))
  case atStart =>
    refine ⟨0, [1, N], rfl, Lib.hid (by omega), Lib.hid (by omega), Lib.hid ?_, Lib.hid ?_, Lib.hid ?_, rfl, rfl⟩
    · exact below_alloc (below_alloc (Below.refl _ _) _) _
    · refine R_off1 (lit_R2 _ 1 N _ _ (World.size_alloc ..) (by omega)) (t := 26) (c1 := #[.int .i64 N, .slice A l.length c]) ?_ (by decide)
      rw [Below.heap_alloc _ _ _ (by rw [World.size_alloc]; omega)]
      exact heap_alloc_new w _
    · rw [Below.heap_alloc _ _ _ (by rw [World.size_alloc]; omega)]
      exact heap_alloc_new w _
  case round =>
    obtain ⟨i, acc, rfl, hk, hi, hb, hr, hx, ha, he⟩ := hrel
    obtain ⟨x1, x2, x3, x4⟩ := two_cells_of hx.out
    by_cases hlt : i < l.length
    · have hlt' : (i : Int) < (l.length : Int) := by omega
      have hnn : (0 : Int) ≤ (i : Int) := by omega
      obtain ⟨ad, rfl, hcell⟩ := at_kc (Kd.C_below HC.out hb.out) i hlt
      have hww := Lib.hid (words_at HW.out hlt)
      have hstep := Lib.hid (he.out.symm.trans (by rw [drop_at hlt, encL]))
      obtain ⟨⟨re, im⟩, hre⟩ : ∃ v : Nat × Nat, v = l.getD i (0, 0) := ⟨_, rfl⟩
      rw [← hre] at hcell hww hstep
      clear hre he
      dsimp only at hcell
      have HA := Lib.hid (show acc.length < 2 ^ 39 by have := ha.out; have := HL.out; omega)
      go_wp2_with fail
      refine (RNarrow_any re im hww.out.1 hww.out.2 _).mono ?_
      rintro e w1 ⟨c1, d1, ok1, rfl, hno, hb1⟩
      have HB1 := Lib.hid (hb.out.trans (hb1.mono hb.out.size))
      have HR1 := Lib.hid (Kd.R_below hr.out hb1)
      have HX1 := Lib.hid ((hb1.block _ (blk_lt hx.out)).trans hx.out)
      clear x1 x2 x3 x4
      obtain ⟨x1, x2, x3, x4⟩ := two_cells_of HX1.out
      rcases bool_cases ok1 with hok | hok
      all_goals subst hok
      rotate_left
      · have hnone := Lib.hid (step1_no hstep.out hno.2.2.1.symm)
        clear hno hb1
        go_wp2
        go_ret2
        exact ⟨_, by rw [hnone.out]; rfl, HB1.out, .none_ hnone.out rfl⟩
      have hsome := Lib.hid (step1_yes hstep.out hno)
      have hc32 := hno.1
      have hd32 := hno.2.1
      have hcw : (c1 : Int) % 18446744073709551616 = (c1 : Int) := by omega
      have hdw : (d1 : Int) % 18446744073709551616 = (d1 : Int) := by omega
      clear hno hb1
      go_wp2_with fail
      refine (high4_any (fun k => k ≠ w.heap.size) _ _ c1 w w1 HB1.out HR1.out (by have := HA.out; omega)).mono ?_
      rintro e w2 ⟨v2, rfl, hr2, hb2, hk2⟩
      have HB2 := Lib.hid hb2
      have HR2 := Lib.hid (R_keep1 hr2 (blk_lt HX1.out))
      have HX2 := Lib.hid (blk_kept HX1.out hk2 (fun h => h rfl))
      clear hr2 hb2 hk2
      go_wp2_with fail
      refine (high4_any (fun k => k ≠ w.heap.size) _ _ d1 w w2 HB2.out HR2.out (by have := HA.out; rw [List.length_append, be_length]; omega)).mono ?_
      rintro e w3 ⟨v3, rfl, hr3, hb3, hk3⟩
      have HB3 := Lib.hid hb3
      have HR3 := Lib.hid (R_keep1 hr3 (blk_lt HX2.out))
      have HX3 := Lib.hid (blk_kept HX2.out hk3 (fun h => h rfl))
      clear hr3 hb3 hk3
      have hi1 : wrap64 ((i : Int) + 1) = ((i + 1 : Nat) : Int) := wrap64_id (by omega) (by omega)
      go_wp2_with fail
      go_roundg (gk - 1)
      case measure => have := hk.out; omega
      case rel =>
        refine ⟨i + 1, acc ++ be 4 c1 ++ be 4 d1, by simp, Lib.hid (by have := hk.out; omega), Lib.hid (by omega), HB3, HR3, HX3, Lib.hid ?_, Lib.hid ?_⟩
        · have := ha.out; rw [List.length_append, List.length_append, be_length, be_length]; omega
        · exact hsome.out.symm
    · have hlt' : ¬ (i : Int) < (l.length : Int) := by omega
      have hie : i = l.length := by have := hi.out; omega
      have hfin := Lib.hid (show encL 1 (0, 0) l [1, N] = some acc by rw [← he.out, hie, List.drop_length, encL])
      go_wp2
      go_ret2
      exact ⟨_, by rw [hfin.out]; rfl, hb.out, .some_ hfin.out (R_true hr.out)⟩
end Go.Proofs.Ytomildjihlbbmaa

/-
  by: the reference's bytes of a field by the near way.
-/
namespace Go.Proofs.Ytomildjihlbbmaa
open Go.RowKit Flt Num Go.Proofs.YtomildjihlbbmaaW.PrintWords Go.Proofs.YtomildjihlbbmaaW.PrintLast Go.Proofs.YtomildjihlbbmaaW.PrintMore Go.Proofs.Ytomildjihlbbmaa.PPackUnpacks
set_option linter.unusedVariables false
attribute [local go_sem] run_f64bits run_f64from run_f32bits run_f32from

set_option maxHeartbeats 4000000 in
set_option maxRecDepth 100000 in
theorem by2_any (N : Int) (hN : 0 ≤ N ∧ N < 256) (A : Option Addr) (c : Nat) (l : List (Nat × Nat)) (w : World) (hC : kc.C w A l.length l) (hW : Words l) (hl : l.length ≤ 4096) :
    Calls Try.prog 38 #[.agg #[.int .i64 N, .slice A l.length c], .int .i64 2] w fun e w' => ∃ v, e = .returned (.tuple #[v, .bool (encL 2 (0, 0) l [2, N]).isSome]) ∧ Below w.heap.size w w' ∧ WOut (encL 2 (0, 0) l [2, N]) w w' v := by
  have HC := Lib.hid hC
  have HW := Lib.hid hW
  have HL := Lib.hid hl
  have hN8 : N % 256 = N := by omega
  have hmax : (l.length : Int) < 9223372036854775807 := by omega
  clear hC hW hl hN
  go_enter Try.func38, Try.ntmps38
  go_wp2_with fail
  go_loopg [6, 7, 8, 9] (l.length + 1) (fun gk v6 v7 v8 v9 wr => ∃ (i : Nat) (acc : List Int) (a b : Int), v7 = .int .i64 a ∧ v8 = .int .i64 b ∧ v9 = .int .i64 (i : Int) ∧ Hid (i + gk = l.length + 1) ∧ Hid (i ≤ l.length) ∧ Hid (Below w.heap.size w wr) ∧ Hid (kb.R 5 wr w.heap.size (fun k => k ≠ w.heap.size) v6 acc) ∧ Hid (wr.heap[w.heap.size]? = some (.cells #[.int .i64 N, .slice A l.length c] 26)) ∧ Hid (-most ≤ a ∧ a ≤ most ∧ -most ≤ b ∧ b ≤ most) ∧ Hid (2 ≤ acc.length ∧ acc.length ≤ 2 + 14 * i) ∧ Hid (encL 2 (a, b) (l.drop i) acc = encL 2 (0, 0) l [2, N]))
  case atStart =>
    refine ⟨0, [2, N], 0, 0, rfl, rfl, rfl, Lib.hid (by omega), Lib.hid (by omega), Lib.hid ?_, Lib.hid ?_, Lib.hid ?_, Lib.hid (by decide), Lib.hid (by simp), rfl⟩
    · exact below_alloc (below_alloc (Below.refl _ _) _) _
    · refine R_off1 (lit_R2 _ 2 N _ _ (World.size_alloc ..) (by omega)) (t := 26) (c1 := #[.int .i64 N, .slice A l.length c]) ?_ (by decide)
      rw [Below.heap_alloc _ _ _ (by rw [World.size_alloc]; omega)]
      exact heap_alloc_new w _
    · rw [Below.heap_alloc _ _ _ (by rw [World.size_alloc]; omega)]
      exact heap_alloc_new w _
  case round =>
    obtain ⟨i, acc, a, b, rfl, rfl, rfl, hk, hi, hb, hr, hx, hm, ha, he⟩ := hrel
    obtain ⟨x1, x2, x3, x4⟩ := two_cells_of hx.out
    by_cases hlt : i < l.length
    · have hlt' : (i : Int) < (l.length : Int) := by omega
      have hnn : (0 : Int) ≤ (i : Int) := by omega
      obtain ⟨ad, rfl, hcell⟩ := at_kc (Kd.C_below HC.out hb.out) i hlt
      have hww := Lib.hid (words_at HW.out hlt)
      have hstep := Lib.hid (he.out.symm.trans (by rw [drop_at hlt, encL]))
      obtain ⟨⟨re, im⟩, hre⟩ : ∃ v : Nat × Nat, v = l.getD i (0, 0) := ⟨_, rfl⟩
      rw [← hre] at hcell hww hstep
      clear hre he
      dsimp only at hcell
      have HA := Lib.hid (show acc.length < 2 ^ 39 by have := ha.out.2; have := HL.out; omega)
      go_wp2_with fail
      refine (RWhole_any re im hww.out.1 hww.out.2 2147483648 (by decide) _).mono ?_
      rintro e w1 ⟨rfl, hb1⟩
      have HB1 := Lib.hid (hb.out.trans (hb1.mono hb.out.size))
      have HR1 := Lib.hid (Kd.R_below hr.out hb1)
      have HX1 := Lib.hid ((hb1.block _ (blk_lt hx.out)).trans hx.out)
      rcases bool_cases (wholeC re im 2147483648) with hok | hok
      rotate_left
      · have hnone := Lib.hid (step2_no hstep.out hok)
        rw [hok]
        clear hb1
        go_wp2
        go_ret2
        exact ⟨_, by rw [hnone.out]; rfl, HB1.out, .none_ hnone.out rfl⟩
      have hsome := Lib.hid (step2_yes hstep.out hok)
      obtain ⟨⟨hf1, hg1, hg2⟩, hf2, hg3, hg4⟩ := wholeC_parts hww.out.1 hww.out.2 hok
      have hc1 := run_f2i3 hf1
      have hc2 := run_f2i3 hf2
      have hm' := hm.out
      have hd1 : wrap64 (fInt re - a) = fInt re - a := wrap64_id (by unfold most at *; omega) (by unfold most at *; omega)
      have hd2 : wrap64 (fInt im - b) = fInt im - b := wrap64_id (by unfold most at *; omega) (by unfold most at *; omega)
      have HD := Lib.hid (show (-8589934592 ≤ fInt re - a ∧ fInt re - a ≤ 8589934592) ∧ -8589934592 ≤ fInt im - b ∧ fInt im - b ≤ 8589934592 from by unfold most at *; omega)
      have HM := Lib.hid (show -most ≤ fInt re ∧ fInt re ≤ most ∧ -most ≤ fInt im ∧ fInt im ≤ most from ⟨hg1, hg2, hg3, hg4⟩)
      rw [hok]
      clear hb1 hm' hg1 hg2 hg3 hg4 hok
      go_wp2_with fail
      refine (folded_any (fInt re - a) _ HD.out.1.1 HD.out.1.2).mono ?_
      rintro e w2 ⟨rfl, ⟨n2, rfl⟩⟩
      go_wp2_with fail
      refine (low_any (fun k => k ≠ w.heap.size) _ _ (zig (fInt re - a)) w _ (below_drewN HB1.out n2) (Kd.R_drewN HR1.out n2) (by have := HA.out; omega) (by have := zig_lt HD.out.1.1 HD.out.1.2; omega)).mono ?_
      rintro e w3 ⟨v3, rfl, hr3, hb3, hk3⟩
      clear hc1 hc2 hd1 hf1 hf2
      have HB3 := Lib.hid hb3
      have HR3 := Lib.hid (R_keep1 hr3 (blk_lt HX1.out : w.heap.size < (w1.drewN n2).heap.size))
      have HX3 := Lib.hid (blk_kept (HX1.out : (w1.drewN n2).heap[w.heap.size]? = _) hk3 (fun h => h rfl))
      have HA3 := Lib.hid (show (acc ++ vari 6 (zig (fInt re - a))).length < 2 ^ 40 by have := HA.out; have := vari_length 6 (zig (fInt re - a)); rw [List.length_append]; omega)
      clear hr3 hb3 hk3
      go_wp2_with fail
      refine (folded_any (fInt im - b) _ HD.out.2.1 HD.out.2.2).mono ?_
      rintro e w4 ⟨rfl, ⟨n4, rfl⟩⟩
      go_wp2_with fail
      refine (low_any (fun k => k ≠ w.heap.size) _ _ (zig (fInt im - b)) w _ (below_drewN HB3.out n4) (Kd.R_drewN HR3.out n4) HA3.out (by have := zig_lt HD.out.2.1 HD.out.2.2; omega)).mono ?_
      rintro e w5 ⟨v5, rfl, hr5, hb5, hk5⟩
      have HB5 := Lib.hid hb5
      have HR5 := Lib.hid (R_keep1 hr5 (blk_lt HX3.out : w.heap.size < (w3.drewN n4).heap.size))
      have HX5 := Lib.hid (blk_kept (HX3.out : (w3.drewN n4).heap[w.heap.size]? = _) hk5 (fun h => h rfl))
      clear hr5 hb5 hk5 hd2 hcell x1 x2 x3 x4
      have hi1 : wrap64 ((i : Int) + 1) = ((i + 1 : Nat) : Int) := wrap64_id (by omega) (by omega)
      go_wp2_with fail
      go_roundg (gk - 1)
      case measure => have := hk.out; omega
      case rel =>
        refine ⟨i + 1, acc ++ vari 6 (zig (fInt re - a)) ++ vari 6 (zig (fInt im - b)), fInt re, fInt im, by simp, by simp, by simp, Lib.hid (by have := hk.out; omega), Lib.hid (by omega), HB5, HR5, HX5, HM, Lib.hid ?_, Lib.hid hsome.out.symm⟩
        · have := ha.out; have := vari_length 6 (zig (fInt re - a)); have := vari_length 6 (zig (fInt im - b)); rw [List.length_append, List.length_append]; omega
    · have hlt' : ¬ (i : Int) < (l.length : Int) := by omega
      have hie : i = l.length := by have := hi.out; omega
      have hfin := Lib.hid (show encL 2 (0, 0) l [2, N] = some acc by rw [← he.out, hie, List.drop_length, encL])
      go_wp2
      go_ret2
      exact ⟨_, by rw [hfin.out]; rfl, hb.out, .some_ hfin.out (R_true hr.out)⟩
end Go.Proofs.Ytomildjihlbbmaa

/-
  shortest, the program's and the reference's.
-/
namespace Go.Proofs.Ytomildjihlbbmaa
open Go.RowKit Flt Num Go.Proofs.YtomildjihlbbmaaW.PrintWords Go.Proofs.YtomildjihlbbmaaW.PrintLast Go.Proofs.YtomildjihlbbmaaW.PrintMore Go.Proofs.Ytomildjihlbbmaa.PPackUnpacks
set_option linter.unusedVariables false
def encW (way : Nat) (N : Int) (l : List (Nat × Nat)) : Option (List Int) := encL way (0, 0) l [way, N]
def better (best : List Int) (o : Option (List Int)) : List Int := match o with
  | some b => if b.length < best.length then b else best
  | none => best
theorem better_pos {best r : List Int} (h : r.length < best.length) : better best (some r) = r := if_pos h
theorem better_neg {best r : List Int} (h : ¬ r.length < best.length) : better best (some r) = best := if_neg h
def shortL (N : Int) (l : List (Nat × Nat)) : List Int := better (better ((encW 0 N l).getD []) (encW 1 N l)) (encW 2 N l)
def stage (N : Int) (l : List (Nat × Nat)) : Nat → List Int
  | 0 => (encW 0 N l).getD []
  | 1 => better ((encW 0 N l).getD []) (encW 1 N l)
  | _ => shortL N l
theorem enc0_some (N : Int) : ∀ (l : List (Nat × Nat)) (last : Int × Int) (acc : List Int), ∃ r, encL 0 last l acc = some r
  | [], _, acc => ⟨acc, rfl⟩
  | v :: vs, last, acc => by
    obtain ⟨r, hr⟩ := enc0_some N vs last (acc ++ (be 8 v.1 ++ be 8 v.2))
    exact ⟨r, by rw [encL, encCell, if_pos rfl, Option.bind_some]; exact hr⟩
theorem encL_pre (way : Nat) : ∀ (l : List (Nat × Nat)) (last : Int × Int) (acc r : List Int), encL way last l acc = some r → ∃ t, r = acc ++ t
  | [], _, acc, r, h => ⟨[], by injection h with h; simp [h]⟩
  | v :: vs, last, acc, r, h => by
    rw [encL] at h
    obtain ⟨p, hp, h⟩ := Option.bind_eq_some_iff.1 h
    obtain ⟨t, ht⟩ := encL_pre way vs _ _ _ h
    exact ⟨p.1 ++ t, by rw [ht, List.append_assoc]⟩
theorem encW_pos {way : Nat} {N : Int} {l : List (Nat × Nat)} {r : List Int} (h : encW way N l = some r) : 0 < r.length := by
  obtain ⟨t, rfl⟩ := encL_pre _ _ _ _ _ h
  simp
theorem und26 : ∃ fs, Try.prog.underlying 26 = some (.struct fs) := by
  have h : (match Try.prog.underlying 26 with | some (.struct _) => true | _ => false) = true := by kernel_rfl
  cases hq : Try.prog.underlying 26 with
  | none => rw [hq] at h; cases h
  | some d => rw [hq] at h; cases d <;> first | exact ⟨_, rfl⟩ | cases h
theorem size26 : (Try.prog.info? 26).map (·.size) = some 2 := by kernel_rfl
theorem load_grid {ops : Array Oper} {rest : List Oper} {o : Oper} {a : Act} {Q : Exit → Act → World → Prop} {W : World} (hgd : o.guard = none) (x : Operand) (ho : o.op = .load 26 x)
    {g : Nat} (hx : a.eval x = .pointer (some ⟨g, 0, none⟩)) {u v : Value} (hg : W.heap[g]? = some (.cells #[u, v] 26 (0, 0))) (h : wpList Try.prog ops Q rest (a.put o.dst (.agg #[u, v])) W) : wpList Try.prog ops Q (o :: rest) a W := by
  obtain ⟨d, hu⟩ := und26
  exact wpList_load_row hgd 26 x ho g hx 26 #[u, v] (0, 0) _ hg hu rfl size26 h
/-- the row of a written way, or nil -/
theorem WOut.row {o : Option (List Int)} {w w' : World} {v : Value} {r : List Int} (h : WOut o w w' v) (e : o = some r) : kb.R 5 w' w.heap.size (fun _ => True) v r := by rw [e] at h; exact h
theorem WOut.nil {o : Option (List Int)} {w w' : World} {v : Value} (h : WOut o w w' v) (e : o = none) : v = .slice none 0 0 := by rw [e] at h; exact h

theorem idx0 (w : World) : (Instr.index 73 (.agg #[.int .i64 1, .int .i64 2]) (.int .i64 0)).run Try.prog w = .ok (.int .i64 1) w := by kernel_rfl
theorem idx1 (w : World) : (Instr.index 73 (.agg #[.int .i64 1, .int .i64 2]) (.int .i64 1)).run Try.prog w = .ok (.int .i64 2) w := by kernel_rfl
attribute [local go_sem] idx0 idx1

set_option maxHeartbeats 4000000 in
set_option maxRecDepth 100000 in
theorem shortest_any (N : Int) (hN : 0 ≤ N ∧ N < 256) (A : Option Addr) (c : Nat) (l : List (Nat × Nat)) (w : World) (hC : kc.C w A l.length l) (hW : Words l) (hl : l.length ≤ 4096) :
    Calls Try.prog 25 #[.agg #[.int .i64 N, .slice A l.length c]] w fun e w' => ∃ v, e = .returned v ∧ Below w.heap.size w w' ∧ kb.R 5 w' w.heap.size (fun _ => True) v (shortL N l) := by
  have HC := Lib.hid hC
  have HW := Lib.hid hW
  have HL := Lib.hid hl
  have HN := Lib.hid hN
  clear hC hW hl hN
  go_enter Try.func25, Try.ntmps25
  go_wp2_with fail
  obtain ⟨w1, hw1⟩ : ∃ w1 : World, w1 = w.alloc (.cells #[.int .i64 N, .slice A l.length c] 26) := ⟨_, rfl⟩
  rw [← hw1]
  have HB1 := Lib.hid (show Below w.heap.size w w1 by rw [hw1]; exact below_alloc (Below.refl _ _) _)
  have HX1 := Lib.hid (show w1.heap[w.heap.size]? = some (.cells #[.int .i64 N, .slice A l.length c] 26) by rw [hw1]; exact heap_alloc_new w _)
  clear hw1
  refine (written0_any N HN.out A c l w1 (Kd.C_below HC.out HB1.out) HW.out HL.out).mono ?_
  rintro e w2 ⟨v2, rfl, hb2, ho2⟩
  have HB2 := Lib.hid (HB1.out.trans (hb2.mono HB1.out.size))
  have HX2 := Lib.hid ((hb2.block _ (blk_lt HX1.out)).trans HX1.out)
  obtain ⟨r0, hr0⟩ := enc0_some N l (0, 0) [0, N]
  have HR2 := Lib.hid (show kb.R 5 w2 w.heap.size (fun _ => True) v2 (stage N l 0) by rw [show stage N l 0 = r0 from congrArg (·.getD []) (show encW 0 N l = some r0 from hr0)]; exact Kd.R_lower (ho2.row hr0) HB1.out.size)
  clear hb2 ho2 hr0 HB1 HX1
  go_wp2_with fail
  go_loopg [3, 10] 3 (fun gk v3 v10 wr => ∃ (i : Nat) (z : Int), v10 = .int .i64 z ∧ Hid (z = i) ∧ Hid (i + gk = 3) ∧ Hid (i ≤ 2) ∧ Hid (Below w.heap.size w wr) ∧ Hid (wr.heap[w.heap.size]? = some (.cells #[.int .i64 N, .slice A l.length c] 26)) ∧ Hid (kb.R 5 wr w.heap.size (fun _ => True) v3 (stage N l i)))
  case atStart => exact ⟨0, 0, rfl, Lib.hid rfl, Lib.hid rfl, Lib.hid (by decide), HB2, HX2, HR2⟩
  case round =>
    obtain ⟨i, z, rfl, hz, hk, hi, hb, hx, hr⟩ := hrel
    obtain hi2 | hi2 | hi2 : i = 0 ∨ i = 1 ∨ i = 2 := by have := hi.out; omega
    all_goals subst hi2
    · obtain rfl : z = 0 := hz.out
      have HS := Lib.hid (show stage N l 1 = better (stage N l 0) (encW 1 N l) from rfl)
      go_wp2_with (first | ((with_reducible refine gate_dst (N := 13) rfl ?_); refine load_grid rfl (.tmp 1) rfl (g := w.heap.size) ?hx (u := .int .i64 N) (v := .slice A l.length c) hx.out ?_; (case hx => go_simp)))
      refine (written1_any N HN.out A c l wr (Kd.C_below HC.out hb.out) HW.out HL.out).mono ?_
      rintro e w3 ⟨v3, rfl, hb3, ho3⟩
      have HB3 := Lib.hid (hb.out.trans (hb3.mono hb.out.size))
      have HX3 := Lib.hid ((hb3.block _ (blk_lt hx.out)).trans hx.out)
      have HR3 := Lib.hid (Kd.R_below hr.out hb3)
      obtain ⟨A0, c0, rfl, hle0, -⟩ := Kd.R_reads HR3.out
      rcases ho : encW 1 N l with _ | r
      · have hv := ho3.nil ho
        subst hv
        rw [ho] at HS
        clear hb3 ho3 ho
        go_wp2_with fail
        go_roundg (gk - 1)
        case measure => have := hk.out; omega
        case rel => exact ⟨1, 1, by first | rfl | simp, Lib.hid rfl, Lib.hid (by have := hk.out; omega), Lib.hid (by decide), HB3, HX3, Lib.hid (by rw [HS.out]; exact HR3.out)⟩
      · have hrow := ho3.row ho
        obtain ⟨g3, cap3, rfl, hg1, hg2, -⟩ := Kd.R_form hrow (encW_pos ho)
        have HRR := Lib.hid (Kd.R_lower hrow hb.out.size)
        rw [ho] at HS
        clear hb3 ho3 ho hrow hg1 hg2
        by_cases hlen : r.length < (stage N l 0).length
        · have hlen' : (r.length : Int) < ((stage N l 0).length : Int) := by omega
          go_wp2_with fail
          go_roundg (gk - 1)
          case measure => have := hk.out; omega
          case rel => exact ⟨1, 1, by first | rfl | simp, Lib.hid rfl, Lib.hid (by have := hk.out; omega), Lib.hid (by decide), HB3, HX3, Lib.hid (by rw [HS.out]; rw [better_pos hlen]; exact HRR.out)⟩
        · have hlen' : ¬ (r.length : Int) < ((stage N l 0).length : Int) := by omega
          go_wp2_with fail
          go_roundg (gk - 1)
          case measure => have := hk.out; omega
          case rel => exact ⟨1, 1, by first | rfl | simp, Lib.hid rfl, Lib.hid (by have := hk.out; omega), Lib.hid (by decide), HB3, HX3, Lib.hid (by rw [HS.out]; rw [better_neg hlen]; exact HR3.out)⟩
    · obtain rfl : z = 1 := hz.out
      have HS := Lib.hid (show stage N l 2 = better (stage N l 1) (encW 2 N l) from rfl)
      go_wp2_with (first | ((with_reducible refine gate_dst (N := 13) rfl ?_); refine load_grid rfl (.tmp 1) rfl (g := w.heap.size) ?hx (u := .int .i64 N) (v := .slice A l.length c) hx.out ?_; (case hx => go_simp)))
      refine (written2_any N HN.out A c l wr (Kd.C_below HC.out hb.out) HW.out HL.out).mono ?_
      rintro e w3 ⟨v3, rfl, hb3, ho3⟩
      have HB3 := Lib.hid (hb.out.trans (hb3.mono hb.out.size))
      have HX3 := Lib.hid ((hb3.block _ (blk_lt hx.out)).trans hx.out)
      have HR3 := Lib.hid (Kd.R_below hr.out hb3)
      obtain ⟨A0, c0, rfl, hle0, -⟩ := Kd.R_reads HR3.out
      rcases ho : encW 2 N l with _ | r
      · have hv := ho3.nil ho
        subst hv
        rw [ho] at HS
        clear hb3 ho3 ho
        go_wp2_with fail
        go_roundg (gk - 1)
        case measure => have := hk.out; omega
        case rel => exact ⟨2, 2, by first | rfl | simp, Lib.hid rfl, Lib.hid (by have := hk.out; omega), Lib.hid (by decide), HB3, HX3, Lib.hid (by rw [HS.out]; exact HR3.out)⟩
      · have hrow := ho3.row ho
        obtain ⟨g3, cap3, rfl, hg1, hg2, -⟩ := Kd.R_form hrow (encW_pos ho)
        have HRR := Lib.hid (Kd.R_lower hrow hb.out.size)
        rw [ho] at HS
        clear hb3 ho3 ho hrow hg1 hg2
        by_cases hlen : r.length < (stage N l 1).length
        · have hlen' : (r.length : Int) < ((stage N l 1).length : Int) := by omega
          go_wp2_with fail
          go_roundg (gk - 1)
          case measure => have := hk.out; omega
          case rel => exact ⟨2, 2, by first | rfl | simp, Lib.hid rfl, Lib.hid (by have := hk.out; omega), Lib.hid (by decide), HB3, HX3, Lib.hid (by rw [HS.out]; rw [better_pos hlen]; exact HRR.out)⟩
        · have hlen' : ¬ (r.length : Int) < ((stage N l 1).length : Int) := by omega
          go_wp2_with fail
          go_roundg (gk - 1)
          case measure => have := hk.out; omega
          case rel => exact ⟨2, 2, by first | rfl | simp, Lib.hid rfl, Lib.hid (by have := hk.out; omega), Lib.hid (by decide), HB3, HX3, Lib.hid (by rw [HS.out]; rw [better_neg hlen]; exact HR3.out)⟩
    · obtain rfl : z = 2 := hz.out
      go_wp2
      go_ret
      exact ⟨_, rfl, hb.out, hr.out⟩
set_option maxHeartbeats 4000000 in
set_option maxRecDepth 100000 in
theorem rshortest_any (N : Int) (hN : 0 ≤ N ∧ N < 256) (A : Option Addr) (c : Nat) (l : List (Nat × Nat)) (w : World) (hC : kc.C w A l.length l) (hW : Words l) (hl : l.length ≤ 4096) :
    Calls Try.prog 28 #[.agg #[.int .i64 N, .slice A l.length c]] w fun e w' => ∃ v k, e = .returned (.tuple #[v, .int .i64 k]) ∧ Below w.heap.size w w' ∧ kb.R 5 w' w.heap.size (fun _ => True) v (shortL N l) := by
  have HC := Lib.hid hC
  have HW := Lib.hid hW
  have HL := Lib.hid hl
  have HN := Lib.hid hN
  clear hC hW hl hN
  go_enter Try.func28, Try.ntmps28
  go_wp2_with fail
  obtain ⟨w1, hw1⟩ : ∃ w1 : World, w1 = w.alloc (.cells #[.int .i64 N, .slice A l.length c] 26) := ⟨_, rfl⟩
  rw [← hw1]
  have HB1 := Lib.hid (show Below w.heap.size w w1 by rw [hw1]; exact below_alloc (Below.refl _ _) _)
  have HX1 := Lib.hid (show w1.heap[w.heap.size]? = some (.cells #[.int .i64 N, .slice A l.length c] 26) by rw [hw1]; exact heap_alloc_new w _)
  clear hw1
  refine (by0_any N HN.out A c l w1 (Kd.C_below HC.out HB1.out) HW.out HL.out).mono ?_
  rintro e w2 ⟨v2, rfl, hb2, ho2⟩
  have HB2 := Lib.hid (HB1.out.trans (hb2.mono HB1.out.size))
  have HX2 := Lib.hid ((hb2.block _ (blk_lt HX1.out)).trans HX1.out)
  obtain ⟨r0, hr0⟩ := enc0_some N l (0, 0) [0, N]
  have HO0 := Lib.hid (show (encL 0 (0, 0) l [0, N]).isSome = true by rw [hr0]; rfl)
  rw [HO0.out]
  have HR2 := Lib.hid (show kb.R 5 w2 w.heap.size (fun _ => True) v2 (stage N l 0) by rw [show stage N l 0 = r0 from congrArg (·.getD []) (show encW 0 N l = some r0 from hr0)]; exact Kd.R_lower (ho2.row hr0) HB1.out.size)
  clear hb2 ho2 hr0 HB1 HX1
  go_wp2_with fail
  go_loopg [4, 6, 7] 3 (fun gk v4 v6 v7 wr => ∃ (i : Nat) (z : Int) (k : Int), v6 = .int .i64 k ∧ v7 = .int .i64 z ∧ Hid (z = (i : Int) + 1) ∧ Hid (i + gk = 3) ∧ Hid (i ≤ 2) ∧ Hid (Below w.heap.size w wr) ∧ Hid (wr.heap[w.heap.size]? = some (.cells #[.int .i64 N, .slice A l.length c] 26)) ∧ Hid (kb.R 5 wr w.heap.size (fun _ => True) v4 (stage N l i)))
  case atStart => exact ⟨0, 1, 0, rfl, rfl, Lib.hid rfl, Lib.hid rfl, Lib.hid (by decide), HB2, HX2, HR2⟩
  case round =>
    obtain ⟨i, z, k, rfl, rfl, hz, hk, hi, hb, hx, hr⟩ := hrel
    obtain hi2 | hi2 | hi2 : i = 0 ∨ i = 1 ∨ i = 2 := by have := hi.out; omega
    all_goals subst hi2
    · obtain rfl : z = 1 := hz.out
      have HS := Lib.hid (show stage N l 1 = better (stage N l 0) (encW 1 N l) from rfl)
      go_wp2_with (first | ((with_reducible refine gate_dst (N := 23) rfl ?_); refine load_grid rfl (.tmp 1) rfl (g := w.heap.size) ?hx (u := .int .i64 N) (v := .slice A l.length c) hx.out ?_; (case hx => go_simp)))
      refine (by1_any N HN.out A c l wr (Kd.C_below HC.out hb.out) HW.out HL.out).mono ?_
      rintro e w3 ⟨v3, rfl, hb3, ho3⟩
      have HB3 := Lib.hid (hb.out.trans (hb3.mono hb.out.size))
      have HX3 := Lib.hid ((hb3.block _ (blk_lt hx.out)).trans hx.out)
      have HR3 := Lib.hid (Kd.R_below hr.out hb3)
      obtain ⟨A0, c0, rfl, hle0, -⟩ := Kd.R_reads HR3.out
      rcases ho : encW 1 N l with _ | r
      · have hv := ho3.nil ho
        have HOS := Lib.hid (show (encL 1 (0, 0) l [1, N]).isSome = false by rw [show encL 1 (0, 0) l [1, N] = none from ho]; rfl)
        rw [HOS.out]
        subst hv
        rw [ho] at HS
        clear hb3 ho3 ho
        go_wp2_with fail
        go_roundg (gk - 1)
        case measure => have := hk.out; omega
        case rel => exact ⟨1, 2, _, rfl, by first | rfl | simp, Lib.hid rfl, Lib.hid (by have := hk.out; omega), Lib.hid (by decide), HB3, HX3, Lib.hid (by rw [HS.out]; exact HR3.out)⟩
      · have hrow := ho3.row ho
        have HOS := Lib.hid (show (encL 1 (0, 0) l [1, N]).isSome = true by rw [show encL 1 (0, 0) l [1, N] = some r from ho]; rfl)
        rw [HOS.out]
        obtain ⟨g3, cap3, rfl, hg1, hg2, -⟩ := Kd.R_form hrow (encW_pos ho)
        have HRR := Lib.hid (Kd.R_lower hrow hb.out.size)
        rw [ho] at HS
        clear hb3 ho3 ho hrow hg1 hg2
        by_cases hlen : r.length < (stage N l 0).length
        · have hlen' : (r.length : Int) < ((stage N l 0).length : Int) := by omega
          go_wp2_with fail
          go_roundg (gk - 1)
          case measure => have := hk.out; omega
          case rel => exact ⟨1, 2, _, rfl, by first | rfl | simp, Lib.hid rfl, Lib.hid (by have := hk.out; omega), Lib.hid (by decide), HB3, HX3, Lib.hid (by rw [HS.out]; rw [better_pos hlen]; exact HRR.out)⟩
        · have hlen' : ¬ (r.length : Int) < ((stage N l 0).length : Int) := by omega
          go_wp2_with fail
          go_roundg (gk - 1)
          case measure => have := hk.out; omega
          case rel => exact ⟨1, 2, _, rfl, by first | rfl | simp, Lib.hid rfl, Lib.hid (by have := hk.out; omega), Lib.hid (by decide), HB3, HX3, Lib.hid (by rw [HS.out]; rw [better_neg hlen]; exact HR3.out)⟩
    · obtain rfl : z = 2 := hz.out
      have HS := Lib.hid (show stage N l 2 = better (stage N l 1) (encW 2 N l) from rfl)
      go_wp2_with (first | ((with_reducible refine gate_dst (N := 23) rfl ?_); refine load_grid rfl (.tmp 1) rfl (g := w.heap.size) ?hx (u := .int .i64 N) (v := .slice A l.length c) hx.out ?_; (case hx => go_simp)))
      refine (by2_any N HN.out A c l wr (Kd.C_below HC.out hb.out) HW.out HL.out).mono ?_
      rintro e w3 ⟨v3, rfl, hb3, ho3⟩
      have HB3 := Lib.hid (hb.out.trans (hb3.mono hb.out.size))
      have HX3 := Lib.hid ((hb3.block _ (blk_lt hx.out)).trans hx.out)
      have HR3 := Lib.hid (Kd.R_below hr.out hb3)
      obtain ⟨A0, c0, rfl, hle0, -⟩ := Kd.R_reads HR3.out
      rcases ho : encW 2 N l with _ | r
      · have hv := ho3.nil ho
        have HOS := Lib.hid (show (encL 2 (0, 0) l [2, N]).isSome = false by rw [show encL 2 (0, 0) l [2, N] = none from ho]; rfl)
        rw [HOS.out]
        subst hv
        rw [ho] at HS
        clear hb3 ho3 ho
        go_wp2_with fail
        go_roundg (gk - 1)
        case measure => have := hk.out; omega
        case rel => exact ⟨2, 3, _, rfl, by first | rfl | simp, Lib.hid rfl, Lib.hid (by have := hk.out; omega), Lib.hid (by decide), HB3, HX3, Lib.hid (by rw [HS.out]; exact HR3.out)⟩
      · have hrow := ho3.row ho
        have HOS := Lib.hid (show (encL 2 (0, 0) l [2, N]).isSome = true by rw [show encL 2 (0, 0) l [2, N] = some r from ho]; rfl)
        rw [HOS.out]
        obtain ⟨g3, cap3, rfl, hg1, hg2, -⟩ := Kd.R_form hrow (encW_pos ho)
        have HRR := Lib.hid (Kd.R_lower hrow hb.out.size)
        rw [ho] at HS
        clear hb3 ho3 ho hrow hg1 hg2
        by_cases hlen : r.length < (stage N l 1).length
        · have hlen' : (r.length : Int) < ((stage N l 1).length : Int) := by omega
          go_wp2_with fail
          go_roundg (gk - 1)
          case measure => have := hk.out; omega
          case rel => exact ⟨2, 3, _, rfl, by first | rfl | simp, Lib.hid rfl, Lib.hid (by have := hk.out; omega), Lib.hid (by decide), HB3, HX3, Lib.hid (by rw [HS.out]; rw [better_pos hlen]; exact HRR.out)⟩
        · have hlen' : ¬ (r.length : Int) < ((stage N l 1).length : Int) := by omega
          go_wp2_with fail
          go_roundg (gk - 1)
          case measure => have := hk.out; omega
          case rel => exact ⟨2, 3, _, rfl, by first | rfl | simp, Lib.hid rfl, Lib.hid (by have := hk.out; omega), Lib.hid (by decide), HB3, HX3, Lib.hid (by rw [HS.out]; rw [better_neg hlen]; exact HR3.out)⟩
    · obtain rfl : z = 3 := hz.out
      go_wp2
      go_ret2
      exact ⟨_, _, rfl, hb.out, hr.out⟩
end Go.Proofs.Ytomildjihlbbmaa
