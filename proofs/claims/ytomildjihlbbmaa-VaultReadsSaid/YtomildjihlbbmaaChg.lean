/-
  Change, of two fields that are right and of one side; Change refused; Pack of the reference.
-/
import Derived.Test.YtomildjihlbbmaaVlt
namespace Go.Proofs.Ytomildjihlbbmaa
open Go.RowKit Flt Num Go.Proofs.YtomildjihlbbmaaW.PrintWords Go.Proofs.YtomildjihlbbmaaW.PrintLast Go.Proofs.YtomildjihlbbmaaW.PrintMore Go.Proofs.Ytomildjihlbbmaa.PPackUnpacks
set_option linter.unusedVariables false
set_option linter.unusedSimpArgs false
attribute [local go_sem] run_f64bits run_f64from run_f32bits run_f32from
theorem blk_below {W W' : World} {g : Nat} {o : Obj} (h : W.heap[g]? = some o) (hb : Below W.heap.size W W') : W'.heap[g]? = some o := (hb.block _ (blk_lt h)).trans h
set_option maxHeartbeats 1000000 in
theorem unlike_any (a b : Nat) (ha : a < 2 ^ 64) (hb : b < 2 ^ 64) (w : World) : Calls Try.prog 66 #[.float .f64 a, .float .f64 b] w fun e w' => e = .returned (.float .f64 (a ^^^ b)) ∧ w = w' := by
  have hx : bits .xor .u64 (a : Int) (b : Int) = ((a ^^^ b : Nat) : Int) := u64_xor_nat a b ha hb
  clear ha hb
  go_enter Try.func66, Try.ntmps66
  go_wp2
  go_ret
  exact ⟨by first | rfl | simp [hx], rfl⟩
set_option maxHeartbeats 1000000 in
theorem rright_yes (N M : Nat) (hN : 1 ≤ N ∧ N ≤ 64) (hM : M = N * N) (A : Option Addr) (c : Nat) (w : World) :
    Calls Try.prog 67 #[.agg #[.int .i64 N, .slice A M c]] w fun e w' => e = .returned (.bool true) ∧ Below w.heap.size w w' := by
  have hN2 : (1 : Int) ≤ (N : Int) := by omega
  have hN3 : (N : Int) ≤ 64 := by omega
  have hNle : N * N ≤ 4096 := Nat.mul_le_mul hN.2 hN.2
  have hNN : wrap64 ((N : Int) * (N : Int)) = (M : Int) := by rw [hM]; exact wrap64_id (by omega) (by omega)
  clear hN hM hNle
  have HX := Lib.hid (heap_alloc_new w (.cells #[.int .i64 N, .slice A M c] 26))
  obtain ⟨y1, y2, -, -⟩ := two_cells HX.out
  go_enter Try.func67, Try.ntmps67
  go_wp2
  go_ret
  exact ⟨by simp [hNN], below_alloc (Below.refl _ _) _⟩
set_option maxHeartbeats 2000000 in
set_option maxRecDepth 100000 in
theorem rpack_any (N : Nat) (hN : 1 ≤ N ∧ N ≤ 64) (A : Option Addr) (c : Nat) (L : List (Nat × Nat)) (w : World) (hC : kc.C w A L.length L) (hW : Words L) (hl : L.length = N * N) :
    Calls Try.prog 75 #[.agg #[.int .i64 N, .slice A L.length c]] w fun e w' => ∃ v, e = .returned (.tuple #[v, .int .i64 0]) ∧ Below w.heap.size w w' ∧ kb.R 5 w' w.heap.size (fun _ => True) v (shortL N L) := by
  have HC := Lib.hid hC
  have HW := Lib.hid hW
  have HL := Lib.hid hl
  have HL2 := Lib.hid (show L.length ≤ 4096 by rw [hl]; exact Nat.mul_le_mul hN.2 hN.2)
  have HN := Lib.hid hN
  clear hC hW hl hN
  have HX1 := Lib.hid (heap_alloc_new w (.cells #[.int .i64 N, .slice A L.length c] 26))
  have HB1 := Lib.hid (show Below w.heap.size w (w.alloc (.cells #[.int .i64 N, .slice A L.length c] 26)) from below_alloc (Below.refl _ _) _)
  go_enter Try.func75, Try.ntmps75
  go_wp2_with (first | ((with_reducible refine gate_dst (N := 6) rfl ?_); refine load_grid rfl (.tmp 1) rfl (g := w.heap.size) ?hx (u := .int .i64 N) (v := .slice A L.length c) HX1.out ?_; (case hx => go_simp)))
  refine (rright_yes N L.length HN.out HL.out A c _).mono ?_
  rintro e w2 ⟨rfl, hb2⟩
  have HB2 := Lib.hid (HB1.out.trans (hb2.mono (HB1.out.size)))
  have HX2 := Lib.hid ((hb2.block _ (blk_lt HX1.out)).trans HX1.out)
  clear hb2
  go_wp2_with (first | ((with_reducible refine gate_dst (N := 10) rfl ?_); refine load_grid rfl (.tmp 1) rfl (g := w.heap.size) ?hx (u := .int .i64 N) (v := .slice A L.length c) HX2.out ?_; (case hx => go_simp)))
  refine (rshortest_any (N : Int) (by have := HN.out; omega) A c L _ (Kd.C_below HC.out HB2.out) HW.out HL2.out).mono ?_
  rintro e w3 ⟨v, k, rfl, hb3, hr3⟩
  have HB3 := Lib.hid (HB2.out.trans (hb3.mono HB2.out.size))
  have HR3 := Lib.hid (Kd.R_lower hr3 HB2.out.size)
  clear hb3 hr3
  go_wp2
  go_ret2
  exact ⟨v, rfl, HB3.out, HR3.out⟩
set_option maxHeartbeats 2000000 in
set_option maxRecDepth 100000 in
theorem change_zero (N : Nat) (hN : 1 ≤ N ∧ N ≤ 64) (A : Option Addr) (c M : Nat) (hM : M = N * N) (w : World) :
    Calls Try.prog 55 #[.agg #[.int .i64 N, .slice A M c], .agg #[.int .i64 0, .slice none 0 0]] w fun e w' => e = .returned (.tuple #[.agg #[.int .i64 0, .slice none 0 0], .int .i64 1]) ∧ Below w.heap.size w w' := by
  have HN := Lib.hid hN
  have HM := Lib.hid hM
  clear hN hM
  go_enter Try.func55, Try.ntmps55
  obtain ⟨w1, hw1⟩ : ∃ w1 : World, w1 = ((w.alloc (.cells #[.int .i64 N, .slice A M c] 26)).alloc (.cells #[.int .i64 0, .slice none 0 0] 26)).alloc (.cells #[.int .i64 0, .slice none 0 0] 26) := ⟨_, rfl⟩
  have HB1 := Lib.hid (show Below w.heap.size w w1 by rw [hw1]; exact below_alloc (below_alloc (below_alloc (Below.refl _ _) _) _) _)
  have HX1 := Lib.hid (show w1.heap[w.heap.size]? = some (.cells #[.int .i64 N, .slice A M c] 26) by rw [hw1]; exact blk_below (heap_alloc2_old w _ _) (below_alloc (Below.refl _ _) _))
  have HY1 := Lib.hid (show w1.heap[w.heap.size + 1]? = some (.cells #[.int .i64 0, .slice none 0 0] 26) by rw [hw1]; exact blk_below (heap_alloc2_new w _ _) (below_alloc (Below.refl _ _) _))
  have HZ1 := Lib.hid (show w1.heap[w.heap.size + 1 + 1]? = some (.cells #[.int .i64 0, .slice none 0 0] 26) by rw [hw1]; exact heap_alloc_new' _ _ _ (by rw [World.size_alloc, World.size_alloc]))
  have HW1 := Lib.hid hw1.symm
  clear hw1
  go_wp2_with (first | (rw [HW1.out]; (with_reducible refine gate_dst (N := 9) rfl ?_); refine load_grid rfl (.tmp 2) rfl (g := w.heap.size) ?hx (u := .int .i64 N) (v := .slice A M c) HX1.out ?_; (case hx => go_simp)))
  refine (right_yes N M HN.out HM.out A c _).mono ?_
  rintro e w2 ⟨rfl, hb2⟩
  have HB2 := Lib.hid (HB1.out.trans (hb2.mono (HB1.out.size)))
  have HY2 := Lib.hid (blk_below HY1.out hb2)
  have HZ2 := Lib.hid (blk_below HZ1.out hb2)
  clear hb2
  go_wp2_with (first | ((with_reducible refine gate_dst (N := 13) rfl ?_); refine gate_guard ?hgd ?_; (case hgd => go_simp); refine load_grid rfl (.tmp 3) rfl (g := w.heap.size + 1) ?hx (u := .int .i64 0) (v := .slice none 0 0) HY2.out ?_; (case hx => go_simp)))
  refine (right_zero none 0 0 _).mono ?_
  rintro e w3 ⟨rfl, hb3⟩
  have HB3 := Lib.hid (HB2.out.trans (hb3.mono (HB2.out.size)))
  have HZ3 := Lib.hid (blk_below HZ2.out hb3)
  clear hb3
  go_wp2_with (first | ((with_reducible refine gate_store (t := 26) (p := 4) rfl ?_); refine store_grid rfl rfl (.tmp 4) (.tmp 24) rfl (g := w.heap.size + 1 + 1) ?hp (u := 0) (A := none) (n := 0) (c := 0) ?hv HZ3.out ?_; (case hp => go_simp); (case hv => go_simp); intro w6 hh6 hk6 hb6; have HR6 := Lib.hid hh6; have HB6 := Lib.hid (HB3.out.trans (hb6.mono (by omega))); clear hh6 hk6 hb6))
  obtain ⟨r1, r2, -, -⟩ := two_cells HR6.out
  exact bodyPost_ret (v := .tuple #[.agg #[.int .i64 0, .slice none 0 0], .int .i64 1]) (by simp [results, Try.results55, go_sem, r1, r2]) rfl ⟨rfl, HB6.out⟩
set_option maxHeartbeats 2000000 in
set_option maxRecDepth 100000 in
theorem change_ne (N N' : Nat) (hN : 1 ≤ N ∧ N ≤ 64) (hN' : 1 ≤ N' ∧ N' ≤ 64) (hne : N ≠ N') (A A' : Option Addr) (c c' M M' : Nat) (hM : M = N * N) (hM' : M' = N' * N') (w : World) :
    Calls Try.prog 55 #[.agg #[.int .i64 N, .slice A M c], .agg #[.int .i64 N', .slice A' M' c']] w fun e w' => e = .returned (.tuple #[.agg #[.int .i64 0, .slice none 0 0], .int .i64 1]) ∧ Below w.heap.size w w' := by
  have HN := Lib.hid hN
  have HM := Lib.hid hM
  have HN' := Lib.hid hN'
  have HM' := Lib.hid hM'
  have hne1 : decide ((N : Int) = (N' : Int)) = false := decide_eq_false (by omega)
  have hne2 : ((N : Int) == (N' : Int)) = false := by rw [beq_eq_false_iff_ne]; omega
  have hne3 : ((N : Int) != (N' : Int)) = true := by rw [bne, hne2]; rfl
  clear hN hM hN' hM' hne
  go_enter Try.func55, Try.ntmps55
  obtain ⟨w1, hw1⟩ : ∃ w1 : World, w1 = ((w.alloc (.cells #[.int .i64 N, .slice A M c] 26)).alloc (.cells #[.int .i64 N', .slice A' M' c'] 26)).alloc (.cells #[.int .i64 0, .slice none 0 0] 26) := ⟨_, rfl⟩
  have HB1 := Lib.hid (show Below w.heap.size w w1 by rw [hw1]; exact below_alloc (below_alloc (below_alloc (Below.refl _ _) _) _) _)
  have HX1 := Lib.hid (show w1.heap[w.heap.size]? = some (.cells #[.int .i64 N, .slice A M c] 26) by rw [hw1]; exact blk_below (heap_alloc2_old w _ _) (below_alloc (Below.refl _ _) _))
  have HY1 := Lib.hid (show w1.heap[w.heap.size + 1]? = some (.cells #[.int .i64 N', .slice A' M' c'] 26) by rw [hw1]; exact blk_below (heap_alloc2_new w _ _) (below_alloc (Below.refl _ _) _))
  have HZ1 := Lib.hid (show w1.heap[w.heap.size + 1 + 1]? = some (.cells #[.int .i64 0, .slice none 0 0] 26) by rw [hw1]; exact heap_alloc_new' _ _ _ (by rw [World.size_alloc, World.size_alloc]))
  have HW1 := Lib.hid hw1.symm
  clear hw1
  go_wp2_with (first | (rw [HW1.out]; (with_reducible refine gate_dst (N := 9) rfl ?_); refine load_grid rfl (.tmp 2) rfl (g := w.heap.size) ?hx (u := .int .i64 N) (v := .slice A M c) HX1.out ?_; (case hx => go_simp)))
  refine (right_yes N M HN.out HM.out A c _).mono ?_
  rintro e w2 ⟨rfl, hb2⟩
  have HB2 := Lib.hid (HB1.out.trans (hb2.mono (HB1.out.size)))
  have HX2 := Lib.hid (blk_below HX1.out hb2)
  have HY2 := Lib.hid (blk_below HY1.out hb2)
  have HZ2 := Lib.hid (blk_below HZ1.out hb2)
  clear hb2
  go_wp2_with (first | ((with_reducible refine gate_dst (N := 13) rfl ?_); refine gate_guard ?hgd ?_; (case hgd => go_simp); refine load_grid rfl (.tmp 3) rfl (g := w.heap.size + 1) ?hx (u := .int .i64 N') (v := .slice A' M' c') HY2.out ?_; (case hx => go_simp)))
  refine (right_yes N' M' HN'.out HM'.out A' c' _).mono ?_
  rintro e w3 ⟨rfl, hb3⟩
  have HB3 := Lib.hid (HB2.out.trans (hb3.mono (HB2.out.size)))
  have HZ3 := Lib.hid (blk_below HZ2.out hb3)
  obtain ⟨x1, x2, x3, x4⟩ := two_cells (blk_below HX2.out hb3)
  obtain ⟨y1, y2, y3, y4⟩ := two_cells (blk_below HY2.out hb3)
  clear hb3
  go_wp2_with (first | ((with_reducible refine gate_store (t := 26) (p := 4) rfl ?_); refine store_grid rfl rfl (.tmp 4) (.tmp 24) rfl (g := w.heap.size + 1 + 1) ?hp (u := 0) (A := none) (n := 0) (c := 0) ?hv HZ3.out ?_; (case hp => go_simp); (case hv => go_simp); intro w6 hh6 hk6 hb6; have HR6 := Lib.hid hh6; have HB6 := Lib.hid (HB3.out.trans (hb6.mono (by omega))); clear hh6 hk6 hb6))
  obtain ⟨r1, r2, -, -⟩ := two_cells HR6.out
  exact bodyPost_ret (v := .tuple #[.agg #[.int .i64 0, .slice none 0 0], .int .i64 1]) (by simp [results, Try.results55, go_sem, r1, r2]) rfl ⟨rfl, HB6.out⟩
/-- what of the change stands after i cells -/
def mix (L L' : List (Nat × Nat)) (i : Nat) : List (Nat × Nat) := (xorL L L').take i ++ List.replicate (L.length - i) (0, 0)
theorem xorL_len {L L' : List (Nat × Nat)} (h : L'.length = L.length) : (xorL L L').length = L.length := by rw [xorL, List.length_zipWith, h, Nat.min_self]
theorem mix_len {L L' : List (Nat × Nat)} (h : L'.length = L.length) {i : Nat} (hi : i ≤ L.length) : (mix L L' i).length = L.length := by
  unfold mix; rw [List.length_append, List.length_take, xorL_len h, List.length_replicate]; omega
theorem mix_set {L L' : List (Nat × Nat)} (h : L'.length = L.length) {i : Nat} (hi : i < L.length) : (mix L L' i).set i (xorC (L.getD i (0, 0)) (L'.getD i (0, 0))) = mix L L' (i + 1) := by
  have hx : (xorL L L').length = L.length := xorL_len h
  have hl : ((xorL L L').take i).length = i := by rw [List.length_take]; omega
  unfold mix
  rw [List.set_append_right (h := by omega), hl, Nat.sub_self, show L.length - i = (L.length - (i + 1)) + 1 from by omega, List.replicate_succ, List.set_cons_zero, List.take_succ_eq_append_getElem (by omega), List.append_assoc]
  congr 2
  have e1 : (xorL L L')[i]'(by omega) = xorC L[i] (L'[i]'(by omega)) := by unfold xorL; rw [List.getElem_zipWith]
  rw [e1]
  simp [List.getD, hi, show i < L'.length by omega]
theorem mix_full {L L' : List (Nat × Nat)} (h : L'.length = L.length) : mix L L' L.length = xorL L L' := by
  unfold mix; rw [Nat.sub_self, List.replicate_zero, List.append_nil, List.take_of_length_le (by rw [xorL_len h]; exact Nat.le_refl _)]
theorem mix_zero (L L' : List (Nat × Nat)) : mix L L' 0 = List.replicate L.length (0, 0) := by unfold mix; simp
/-- the state of Change's loop -/
structure ChgS (H hb N : Nat) (A A' : Option Addr) (c c' : Nat) (L L' : List (Nat × Nat)) (w wr : World) (i : Nat) (v : Value) : Prop where
  below : Below H w wr
  f : wr.heap[H]? = some (.cells #[.int .i64 N, .slice A L.length c] 26)
  g : wr.heap[H + 1]? = some (.cells #[.int .i64 N, .slice A' L'.length c'] 26)
  res : wr.heap[H + 1 + 1]? = some (.cells #[.int .i64 0, .slice none 0 0] 26)
  h : wr.heap[hb]? = some (.cells #[.int .i64 N, v] 26)
  row : kc.R 42 wr H (fun _ => True) v (mix L L' i)
  hb : H + 1 + 1 < hb
theorem exec_load_grid {a : Act} {o : Oper} {W : World} {x : Operand} (ho : o.op = .load 26 x) {g : Nat} (hx : a.eval x = .pointer (some ⟨g, 0, none⟩)) {u v : Value} (hg : W.heap[g]? = some (.cells #[u, v] 26 (0, 0))) : (execOp a.eval o).run Try.prog W = .ok (.value (.agg #[u, v])) W := by
  obtain ⟨d, hu⟩ := und26
  unfold execOp
  simp only [ho, hx, Instr.loadAt, Instr.sureAddr, Sem.run_bind, Sem.run_pure, Result.andThen_ok, run_loadVar_row W g 26 26 #[u, v] (0, 0) _ hg hu rfl size26]
theorem store_grid_step {ops : Array Oper} {o : Oper} {a : Act} {K : Act → World → Prop} {Q : Exit → Act → World → Prop} {W : World} (hw : Region.wanted o (yielded ops a.tmps) = true) (hN : o.dst = none) (p x : Operand) (ho : o.op = .store 26 p x)
    {g : Nat} (haddr : a.eval p = .pointer (some ⟨g, 0, none⟩)) {u : Int} {A : Option Addr} {n c : Nat} (hx : a.eval x = .agg #[.int .i64 u, .slice A n c]) {c1 c2 : Value} (hh : W.heap[g]? = some (.cells #[c1, c2] 26 (0, 0)))
    (h : ∀ w1, w1.heap[g]? = some (.cells #[.int .i64 u, .slice A n c] 26 (0, 0)) → Kept W w1 (fun k => k = g) → Below g W w1 → K a w1) : if Region.wanted o (yielded ops a.tmps) = true then Oper.wp Try.prog o a W K Q else K (a.put none undef) W := by
  rw [if_pos hw]
  have hrun := run_store_run (P := Try.prog) 26 (.agg #[.int .i64 u, .slice A n c]) [.int .i64 u, .slice A n c] (g := g) (o := 0) hh rfl size26 (by simp) (by intro q hq; simp at hq; rcases hq with rfl | rfl <;> rfl)
  have e : W.setCells g 0 [.int .i64 u, .slice A n c] = W.setRow g #[.int .i64 u, .slice A n c] := by
    show (W.setCell ⟨g, 0, none⟩ _).setCell ⟨g, 1, none⟩ _ = _
    rw [set_two_eq hh]
  rw [e] at hrun
  have hK : Kept W (W.setRow g #[.int .i64 u, .slice A n c]) (fun k => k = g) := ⟨by simp, fun i _ hn => setRow_other W g i _ hn⟩
  have hB : Below g W (W.setRow g #[.int .i64 u, .slice A n c]) := ⟨rfl, rfl, rfl, by simp, fun k hk => setRow_other W g k _ (by omega)⟩
  unfold Oper.wp execOp
  simp only [ho, haddr, hx, Sem.run_bind, Sem.run_pure, Result.andThen_ok, hrun]
  show K (a.put o.dst undef) _
  rw [hN]
  exact h _ (setRow_heap W g _ _ 26 (0, 0) hh) hK hB
/-- behind the making of the row and of the variable, in either order -/
structure ChgM (H N : Nat) (A A' : Option Addr) (c c' : Nat) (L L' : List (Nat × Nat)) (w : World) (s : Option Addr × Nat × Nat) (wr : World) : Prop where
  below : Below H w wr
  f : wr.heap[H]? = some (.cells #[.int .i64 N, .slice A L.length c] 26)
  g : wr.heap[H + 1]? = some (.cells #[.int .i64 N, .slice A' L'.length c'] 26)
  res : wr.heap[H + 1 + 1]? = some (.cells #[.int .i64 0, .slice none 0 0] 26)
  h : wr.heap[s.2.2]? = some (.cells #[.int .i64 0, .slice none 0 0] 26)
  row : kc.R 42 wr H (fun _ => True) (.slice s.1 L.length s.2.1) (List.replicate L.length (0, 0))
  hb : H + 1 + 1 < s.2.2
theorem ChgM.fcells {H N : Nat} {A A' : Option Addr} {c c' : Nat} {L L' : List (Nat × Nat)} {w : World} {s : Option Addr × Nat × Nat} {wr : World} (h : ChgM H N A A' c c' L L' w s wr) : wr.cell? ⟨H, 0, none⟩ = some (.int .i64 N) ∧ wr.cell? ⟨H, 1, none⟩ = some (.slice A L.length c) := ⟨(two_cells h.f).1, (two_cells h.f).2.1⟩
theorem below_undrew {W w1 : World} (h : Below W.drew.heap.size W.drew w1) : Below W.heap.size W w1 := ⟨h.os, h.tape, h.output, h.size, h.block⟩
theorem below_of_grown_none {W w1 : World} (h : W.grownBy w1 none) : Below W.heap.size W w1 := (Below.refl _ _).grown h (Nat.le_refl _) (fun k e => by cases e)
theorem kc_cell {W : World} {base g cap : Nat} {ok : Nat → Prop} {L : List (Nat × Nat)} (h : kc.R 42 W base ok (.slice (some ⟨g, 0, none⟩) L.length cap) L) (i : Nat) (hi : i < L.length) :
    W.cell? ⟨g, i, none⟩ = some (.complex .f64 (L.getD i (0, 0)).1 (L.getD i (0, 0)).2) ∧ W.frozen? ⟨g, i, none⟩ = false := by
  have := Kd.R_cell (enc := fun x : Nat × Nat => Value.complex .f64 x.1 x.2) (h1 := fun _ => rfl) ((0, 0) : Nat × Nat) h (i : Int) (by omega) (by omega)
  simpa [rdOf] using this
theorem kc_put {W : World} {base g cap : Nat} {ok : Nat → Prop} {L : List (Nat × Nat)} (h : kc.R 42 W base ok (.slice (some ⟨g, 0, none⟩) L.length cap) L) (i : Nat) (x : Nat × Nat) :
    kc.R 42 (W.setCell ⟨g, i, none⟩ (.complex .f64 x.1 x.2)) base ok (.slice (some ⟨g, 0, none⟩) L.length cap) (L.set i x) := by
  have h2 := (Kd.R_put (enc := fun x : Nat × Nat => Value.complex .f64 x.1 x.2) (h1 := fun _ => rfl) h (i : Int) x).1
  rw [Int.toNat_natCast] at h2
  exact h2
theorem ChgS.next {H hb N : Nat} {A A' : Option Addr} {c c' : Nat} {L L' : List (Nat × Nat)} {w wr : World} {i g cap : Nat} (hl : L'.length = L.length) (hi : i < L.length) (h : ChgS H hb N A A' c c' L L' w wr i (.slice (some ⟨g, 0, none⟩) L.length cap)) :
    ChgS H hb N A A' c c' L L' w (wr.drew.setCell ⟨g, i, none⟩ (.complex .f64 ((L.getD i (0, 0)).1 ^^^ (L'.getD i (0, 0)).1) ((L.getD i (0, 0)).2 ^^^ (L'.getD i (0, 0)).2))) (i + 1) (.slice (some ⟨g, 0, none⟩) L.length cap) := by
  have hrow := Kd.R_drewN h.row 1
  have ne : ∀ {k : Nat} {cells : Array Value}, wr.heap[k]? = some (.cells cells 26 (0, 0)) → k ≠ g := by
    intro k cells hk e
    exact Kd.R_ne h.row hk (by decide) (by rw [e]; rfl)
  have mv : ∀ {k : Nat} {cells : Array Value} (u : Value), wr.heap[k]? = some (.cells cells 26 (0, 0)) → (wr.drew.setCell ⟨g, i, none⟩ u).heap[k]? = some (.cells cells 26 (0, 0)) := fun {k cells} u hk => (Below.heap_setCell wr.drew ⟨g, i, none⟩ u k (ne hk)).trans hk
  have hput : kc.R 42 (wr.drew.setCell ⟨g, i, none⟩ (.complex .f64 ((L.getD i (0, 0)).1 ^^^ (L'.getD i (0, 0)).1) ((L.getD i (0, 0)).2 ^^^ (L'.getD i (0, 0)).2))) H (fun _ => True) (.slice (some ⟨g, 0, none⟩) (mix L L' i).length cap) ((mix L L' i).set i (xorC (L.getD i (0, 0)) (L'.getD i (0, 0)))) :=
    kc_put (L := mix L L' i) (by rw [mix_len hl (by omega)]; exact hrow) i (xorC (L.getD i (0, 0)) (L'.getD i (0, 0)))
  rw [mix_set hl hi, mix_len hl (by omega)] at hput
  exact
    { below := (show Below H w wr.drew from below_drewN h.below 1).setCell (Kd.R_base h.row g rfl) _
      f := mv _ h.f
      g := mv _ h.g
      res := mv _ h.res
      h := mv _ h.h
      row := hput
      hb := h.hb }
theorem ChgM.start {H N : Nat} {A A' : Option Addr} {c c' : Nat} {L L' : List (Nat × Nat)} {w wm w5 : World} {hb cr : Nat} {AR : Option Addr} (h : ChgM H N A A' c c' L L' w (AR, cr, hb) wm)
    (hh : w5.heap[hb]? = some (.cells #[.int .i64 N, .slice AR L.length cr] 26 (0, 0))) (hk : Kept wm w5 (fun k => k = hb)) (hB : Below hb wm w5) :
    ChgS H hb N A A' c c' L L' w w5 0 (.slice AR L.length cr) := by
  have hx := h.hb
  have hx2 : H + 1 + 1 < hb := hx
  have hrow : kc.R 42 wm H (fun _ => True) (.slice AR L.length cr) (List.replicate L.length (0, 0)) := h.row
  have hhb : wm.heap[hb]? = some (.cells #[.int .i64 0, .slice none 0 0] 26 (0, 0)) := h.h
  exact
    { below := h.below.trans (hB.mono (by omega))
      f := blk_kept h.f hk (by show ¬ (H = hb); omega)
      g := blk_kept h.g hk (by show ¬ (H + 1 = hb); omega)
      res := blk_kept h.res hk (by show ¬ (H + 1 + 1 = hb); omega)
      h := hh
      row := by rw [mix_zero]; exact Kd.R_mono (Kd.R_kept (Kd.R_types hrow hhb (by decide)) hk (fun k ho he => ho.2 he)) (fun _ _ => trivial)
      hb := hx2 }
theorem run_store_complex (P : Program) (w : World) (a : Addr) (m : Mode) (k : FloatKind) (x y : Nat) : (store a (.complex k x y) m).run P w = stored P w a (.complex k x y) m := run_store P w a _ m rfl
attribute [local go_sem] run_store_complex
set_option maxHeartbeats 8000000 in
set_option maxRecDepth 100000 in
theorem change_any (N : Nat) (hN : 1 ≤ N ∧ N ≤ 64) (A A' : Option Addr) (c c' : Nat) (L L' : List (Nat × Nat)) (hL : L.length = N * N) (hL' : L'.length = N * N) (hW : Words L) (hW' : Words L') (w : World) (hA : kc.C w A L.length L) (hA' : kc.C w A' L'.length L') :
    Calls Try.prog 55 #[.agg #[.int .i64 N, .slice A L.length c], .agg #[.int .i64 N, .slice A' L'.length c']] w fun e w' => ∃ B cb, e = .returned (.tuple #[.agg #[.int .i64 N, .slice B (xorL L L').length cb], .int .i64 0]) ∧ Below w.heap.size w w' ∧ kc.R 42 w' w.heap.size (fun _ => True) (.slice B (xorL L L').length cb) (xorL L L') := by
  have HN := Lib.hid hN
  have HL := Lib.hid hL
  have HL' := Lib.hid hL'
  have HLL := Lib.hid (hL'.trans hL.symm)
  have HL4 := Lib.hid (show L.length ≤ 4096 by rw [hL]; exact Nat.mul_le_mul hN.2 hN.2)
  have HW := Lib.hid hW
  have HW' := Lib.hid hW'
  have HA := Lib.hid hA
  have HA' := Lib.hid hA'
  have hne1 : decide ((N : Int) = (N : Int)) = true := decide_eq_true rfl
  have hne2 : ((N : Int) == (N : Int)) = true := beq_self_eq_true _
  have hne3 : ((N : Int) != (N : Int)) = false := by rw [bne, hne2]; rfl
  clear hN hL hL' hW hW' hA hA'
  go_enter Try.func55, Try.ntmps55
  obtain ⟨w1, hw1⟩ : ∃ w1 : World, w1 = ((w.alloc (.cells #[.int .i64 N, .slice A L.length c] 26)).alloc (.cells #[.int .i64 N, .slice A' L'.length c'] 26)).alloc (.cells #[.int .i64 0, .slice none 0 0] 26) := ⟨_, rfl⟩
  have HB1 := Lib.hid (show Below w.heap.size w w1 by rw [hw1]; exact below_alloc (below_alloc (below_alloc (Below.refl _ _) _) _) _)
  have HX1 := Lib.hid (show w1.heap[w.heap.size]? = some (.cells #[.int .i64 N, .slice A L.length c] 26) by rw [hw1]; exact blk_below (heap_alloc2_old w _ _) (below_alloc (Below.refl _ _) _))
  have HY1 := Lib.hid (show w1.heap[w.heap.size + 1]? = some (.cells #[.int .i64 N, .slice A' L'.length c'] 26) by rw [hw1]; exact blk_below (heap_alloc2_new w _ _) (below_alloc (Below.refl _ _) _))
  have HZ1 := Lib.hid (show w1.heap[w.heap.size + 1 + 1]? = some (.cells #[.int .i64 0, .slice none 0 0] 26) by rw [hw1]; exact heap_alloc_new' _ _ _ (by rw [World.size_alloc, World.size_alloc]))
  have HW1 := Lib.hid hw1.symm
  clear hw1
  go_wp2_with (first | (rw [HW1.out]; (with_reducible refine gate_dst (N := 9) rfl ?_); refine load_grid rfl (.tmp 2) rfl (g := w.heap.size) ?hx (u := .int .i64 N) (v := .slice A L.length c) HX1.out ?_; (case hx => go_simp)))
  refine (right_yes N L.length HN.out HL.out A c _).mono ?_
  rintro e w2 ⟨rfl, hb2⟩
  have HD2 := Lib.hid (HB1.out.trans (hb2.mono (HB1.out.size)))
  have HX2 := Lib.hid (blk_below HX1.out hb2)
  have HY2 := Lib.hid (blk_below HY1.out hb2)
  have HZ2 := Lib.hid (blk_below HZ1.out hb2)
  clear hb2
  go_wp2_with (first | ((with_reducible refine gate_dst (N := 13) rfl ?_); refine gate_guard ?hgd ?_; (case hgd => go_simp); refine load_grid rfl (.tmp 3) rfl (g := w.heap.size + 1) ?hx (u := .int .i64 N) (v := .slice A' L'.length c') HY2.out ?_; (case hx => go_simp)))
  refine (right_yes N L'.length HN.out HL'.out A' c' _).mono ?_
  rintro e w3 ⟨rfl, hb3⟩
  have HD3 := Lib.hid (HD2.out.trans (hb3.mono (HD2.out.size)))
  have HX3 := Lib.hid (blk_below HX2.out hb3)
  have HY3 := Lib.hid (blk_below HY2.out hb3)
  have HZ3 := Lib.hid (blk_below HZ2.out hb3)
  obtain ⟨x1, x2, x3, x4⟩ := two_cells HX3.out
  obtain ⟨y1, y2, y3, y4⟩ := two_cells HY3.out
  clear hb3
  have HD4 := Lib.hid (show Below w.heap.size w w3.drew from below_drewN HD3.out 1)
  have HA3 := Lib.hid (show Below w3.heap.size w3 (w3.alloc (.cells #[.int .i64 0, .slice none 0 0] 26)).drew from below_drewN (below_alloc (Below.refl _ _) _) 1)
  have HD5 := Lib.hid (show Below w.heap.size w (w3.alloc (.cells #[.int .i64 0, .slice none 0 0] 26)).drew from HD3.out.trans (HA3.out.mono HD3.out.size))
  go_upto_region 3 with (fail)
  clear x1 x2 x3 x4 y1 y2 y3 y4
  go_cut [6] from 25 to 31 (fun v6 wx => ∃ hb AR cr, v6 = .pointer (some ⟨hb, 0, none⟩) ∧ Hid (ChgS w.heap.size hb N A A' c c' L L' w wx 0 (.slice AR L.length cr)))
  case first =>
    refine start_ (n := 9) (S := fun w' => w'.cell? ⟨w.heap.size, 0, none⟩ = some (.int .i64 N) ∧ w'.cell? ⟨w.heap.size, 1, none⟩ = some (.slice A L.length c)) (ds := [8]) #[false, false, false, false, false, false, false, false, false] (by kernel_rfl) rfl rfl ⟨(two_cells HX3.out).1, (two_cells HX3.out).2.1⟩ (fun hHeld => ?_)
    refine pure_ (i := 0) (N := some 25) (v := ?_) (a' := ?_) #[true, false, false, false, false, false, false, false, false] rfl rfl (by kernel_rfl) (fun _ _ _ h => h) (Or.inl ⟨by rfl, ?_⟩) ?_ ?_
    rotate_left
    · intro w'
      go_simp
      with_reducible rfl
    rotate_left
    · simp only [Act.put, List.setIfInBounds_toArray, List.set_cons_zero, List.set_cons_succ, i64_w, i32_w]
      rfl
    refine pure_ (i := 2) (N := some 27) (v := ?_) (a' := ?_) #[true, false, true, false, false, false, false, false, false] rfl rfl (by kernel_rfl) (fun _ _ _ h => h) (Or.inl ⟨by rfl, ?_⟩) ?_ ?_
    rotate_left
    · intro w'
      go_simp
      with_reducible rfl
    rotate_left
    · simp only [Act.put, List.setIfInBounds_toArray, List.set_cons_zero, List.set_cons_succ, i64_w, i32_w]
      rfl
    refine take_ (i := 1) (N := some 26) (v := ?_) (a' := ?_) #[true, true, true, false, false, false, false, false, false] rfl rfl (by kernel_rfl) (fun _ _ _ h => h) (Or.inl ⟨by rfl, ?_⟩) hHeld ?_ ?_
    rotate_left
    · rintro w' ⟨s0, s1⟩
      go_simp
      with_reducible rfl
    rotate_left
    · simp only [Act.put, List.setIfInBounds_toArray, List.set_cons_zero, List.set_cons_succ, i64_w, i32_w]
      rfl
    refine take_ (i := 3) (N := some 28) (v := ?_) (a' := ?_) #[true, true, true, true, false, false, false, false, false] rfl rfl (by kernel_rfl) (fun _ _ _ h => h) (Or.inl ⟨by rfl, ?_⟩) hHeld ?_ ?_
    rotate_left
    · rintro w' ⟨s0, s1⟩
      go_simp
      with_reducible rfl
    rotate_left
    · simp only [Act.put, List.setIfInBounds_toArray, List.set_cons_zero, List.set_cons_succ, i64_w, i32_w]
      rfl
    refine pure_ (i := 4) (N := some 29) (v := ?_) (a' := ?_) #[true, true, true, true, true, false, false, false, false] rfl rfl (by kernel_rfl) (fun _ _ _ h => h) (Or.inl ⟨by rfl, ?_⟩) ?_ ?_
    rotate_left
    · intro w'
      go_simp
      with_reducible rfl
    rotate_left
    · simp only [Act.put, List.setIfInBounds_toArray, List.set_cons_zero, List.set_cons_succ, i64_w, i32_w]
      rfl
    refine join_ (σ := Option Addr × Nat × Nat) 1 #[true, true, true, true, true, true, true, true, false] (fun s => [(30, .slice s.1 L.length s.2.1), (6, .pointer (some ⟨s.2.2, 0, none⟩)), (31, .agg #[.int .i64 N, .slice s.1 L.length s.2.1])]) (fun s w' => ChgM w.heap.size N A A' c c' L L' w s w') ?_ ?_
    rotate_left
    · intro hCont
      refine two_ (i := 5) (j := 7) (Ni := some 30) (Nj := some 6) #[true, true, true, true, true, true, false, false, false] #[true, true, true, true, true, false, false, true, false] rfl rfl rfl rfl (by kernel_rfl) (by decide) (by decide) (fun K hK => ?_) (fun K hK => ?_)
      · skip
        refine Kd.R_make_step kc (w0 := w) w.heap.size 42 (by rfl) (N := 30) (by rfl) 24 (.tmp 29) (.tmp 29) (by rfl) (L.length : Int) (by rfl) (by rfl) und24 (.complex .f64 0 0) 16 info42 rfl (by decide) (by decide) (0, 0) (ok := fun _ => True) (okp := fun _ => False) rfl (fun _ h => h.elim) trivial (by omega) (by have := HL4.out; rw [Int.toNat_natCast]; omega) HD4.out HD4.out.size ?_
        intro v1 w1 hr1 hb1 hg1 ho1
        rw [Int.toNat_natCast] at hr1
        obtain ⟨AR, cr, hv1⟩ := Kd.R_slice hr1
        rw [List.length_replicate] at hv1
        subst hv1
        have HR1 := Lib.hid hr1
        have HB1x := Lib.hid hb1
        have HG1 := Lib.hid (below_undrew (below_of_grown_none hg1))
        clear hr1 hb1 hg1 ho1
        refine hK.out _ _ ⟨(two_cells (blk_below HX3.out HG1.out)).1, (two_cells (blk_below HX3.out HG1.out)).2.1⟩ (fun hHeld => ?_)
        clear hK K
        refine norm_ (a' := ?_) ?_ ?_
        rotate_left
        · show Act.put _ (some 30) _ = _
          simp only [Act.put, List.setIfInBounds_toArray, List.set_cons_zero, List.set_cons_succ, i64_w, i32_w]
          rfl
        refine pure_ (i := 6) (N := some 31) (v := ?_) (a' := ?_) #[true, true, true, true, true, true, true, false, false] rfl rfl (by kernel_rfl) (fun _ _ _ h => h) (Or.inl ⟨by rfl, ?_⟩) ?_ ?_
        rotate_left
        · intro w'
          go_simp
          with_reducible rfl
        rotate_left
        · simp only [Act.put, List.setIfInBounds_toArray, List.set_cons_zero, List.set_cons_succ, i64_w, i32_w]
          rfl
        refine one_ (i := 7) (N := some 6) #[true, true, true, true, true, true, true, true, false] rfl rfl (by kernel_rfl) (by decide) (fun K hK => ?_)
        refine value_ (w1 := ?_) (v := ?_) (by rfl) rfl ?_ ?_
        rotate_left 2
        · go_simp
          constructor
          · rfl
          · rfl
        refine hK.out _ _ ⟨(two_cells (blk_below (blk_below HX3.out HG1.out) (below_alloc (Below.refl _ _) _))).1, (two_cells (blk_below (blk_below HX3.out HG1.out) (below_alloc (Below.refl _ _) _))).2.1⟩ (fun hHeld => ?_)
        clear hK K
        refine norm_ (a' := ?_) ?_ ?_
        rotate_left
        · show Act.put _ (some 6) _ = _
          simp only [Act.put, List.setIfInBounds_toArray, List.set_cons_zero, List.set_cons_succ, i64_w, i32_w]
          rfl
        exact norm_ (by simp only [putAll, Act.put, List.setIfInBounds_toArray, List.set_cons_zero, List.set_cons_succ]) (hCont (AR, cr, w1.heap.size) _ { below := HB1x.out.alloc HB1x.out.size _, f := blk_below (blk_below HX3.out HG1.out) (below_alloc (Below.refl _ _) _), g := blk_below (blk_below HY3.out HG1.out) (below_alloc (Below.refl _ _) _), res := blk_below (blk_below HZ3.out HG1.out) (below_alloc (Below.refl _ _) _), h := heap_alloc_new w1 _, row := Kd.R_alloc HR1.out _, hb := Nat.lt_of_lt_of_le (blk_lt HZ3.out) HG1.out.size })
      · skip
        refine value_ (w1 := ?_) (v := ?_) (by rfl) rfl ?_ ?_
        rotate_left 2
        · go_simp
          constructor
          · rfl
          · rfl
        refine hK.out _ _ ⟨(two_cells (blk_below HX3.out HA3.out)).1, (two_cells (blk_below HX3.out HA3.out)).2.1⟩ (fun hHeld => ?_)
        clear hK K
        refine norm_ (a' := ?_) ?_ ?_
        rotate_left
        · show Act.put _ (some 6) _ = _
          simp only [Act.put, List.setIfInBounds_toArray, List.set_cons_zero, List.set_cons_succ, i64_w, i32_w]
          rfl
        refine one_ (i := 5) (N := some 30) #[true, true, true, true, true, true, false, true, false] rfl rfl (by kernel_rfl) (by decide) (fun K hK => ?_)
        refine Kd.R_make_step kc (w0 := w) w.heap.size 42 (by rfl) (N := 30) (by rfl) 24 (.tmp 29) (.tmp 29) (by rfl) (L.length : Int) (by rfl) (by rfl) und24 (.complex .f64 0 0) 16 info42 rfl (by decide) (by decide) (0, 0) (ok := fun _ => True) (okp := fun _ => False) rfl (fun _ h => h.elim) trivial (by omega) (by have := HL4.out; rw [Int.toNat_natCast]; omega) HD5.out HD5.out.size ?_
        intro v1 w1 hr1 hb1 hg1 ho1
        rw [Int.toNat_natCast] at hr1
        obtain ⟨AR, cr, hv1⟩ := Kd.R_slice hr1
        rw [List.length_replicate] at hv1
        subst hv1
        have HR1 := Lib.hid hr1
        have HB1x := Lib.hid hb1
        have HG1 := Lib.hid (below_of_grown_none hg1)
        clear hr1 hb1 hg1 ho1
        refine hK.out _ _ ⟨(two_cells (blk_below (blk_below HX3.out HA3.out) HG1.out)).1, (two_cells (blk_below (blk_below HX3.out HA3.out) HG1.out)).2.1⟩ (fun hHeld => ?_)
        clear hK K
        refine norm_ (a' := ?_) ?_ ?_
        rotate_left
        · show Act.put _ (some 30) _ = _
          simp only [Act.put, List.setIfInBounds_toArray, List.set_cons_zero, List.set_cons_succ, i64_w, i32_w]
          rfl
        refine pure_ (i := 6) (N := some 31) (v := ?_) (a' := ?_) #[true, true, true, true, true, true, true, true, false] rfl rfl (by kernel_rfl) (fun _ _ _ h => h) (Or.inl ⟨by rfl, ?_⟩) ?_ ?_
        rotate_left
        · intro w'
          go_simp
          with_reducible rfl
        rotate_left
        · simp only [Act.put, List.setIfInBounds_toArray, List.set_cons_zero, List.set_cons_succ, i64_w, i32_w]
          rfl
        exact norm_ (by simp only [putAll, Act.put, List.setIfInBounds_toArray, List.set_cons_zero, List.set_cons_succ]) (hCont (AR, cr, w3.heap.size) _ { below := HB1x.out, f := blk_below (blk_below HX3.out HA3.out) HG1.out, g := blk_below (blk_below HY3.out HA3.out) HG1.out, res := blk_below (blk_below HZ3.out HA3.out) HG1.out, h := blk_below (show (w3.alloc (.cells #[.int .i64 0, .slice none 0 0] 26)).drew.heap[w3.heap.size]? = _ from heap_alloc_new w3 _) HG1.out, row := HR1.out, hb := blk_lt HZ3.out })
    rintro ⟨AR, cr, hb⟩ wm hm
    have hHeld := hm.fcells
    refine norm_ (a' := ?_) ?_ ?_
    rotate_left
    · simp only [putAll, Act.put, List.setIfInBounds_toArray, List.set_cons_zero, List.set_cons_succ]
      rfl
    refine last_ (i := 8) (N := none) #[true, true, true, true, true, true, true, true, true] rfl rfl (by kernel_rfl) (by decide) (fun K hK => ?_)
    refine store_grid_step (by rfl) rfl (.tmp 6) (.tmp 31) rfl (g := hb) (by rfl) (u := (N : Int)) (A := AR) (n := L.length) (c := cr) (by rfl) hm.h ?_
    intro w5 hh5 hk5 hb5
    refine hK.out _ _ ?_
    clear hK K
    refine done_ (by kernel_rfl) ?_
    go_wp2_with fail
    go_meet
    exact ⟨hb, AR, cr, rfl, Lib.hid (ChgM.start hm hh5 hk5 hb5)⟩
  case rest =>
    obtain ⟨hb, AR, cr, rfl, hs⟩ := hcut
    obtain ⟨x1, x2, x3, x4⟩ := two_cells hs.out.f
    go_wp2_with fail
    clear x1 x2 x3 x4
    go_loopg [35] (L.length + 1) (fun gk v35 wr => ∃ (i : Nat) (v : Value), v35 = .int .i64 (i : Int) ∧ Hid (i + gk = L.length + 1) ∧ Hid (i ≤ L.length) ∧ Hid (ChgS w.heap.size hb N A A' c c' L L' w wr i v))
    case atStart => exact ⟨0, _, rfl, Lib.hid (by omega), Lib.hid (by omega), hs⟩
    case round =>
      obtain ⟨i, v, rfl, hg, hi, hS⟩ := hrel
      by_cases hlt : i < L.length
      · have hlt' : (i : Int) < (L.length : Int) := by omega
        have hlt2 : (i : Int) < (L'.length : Int) := by have := HLL.out; omega
        have hnn : (0 : Int) ≤ (i : Int) := by omega
        obtain ⟨hg0, cap, hv, -⟩ := Kd.R_form hS.out.row (by rw [mix_len HLL.out (by omega)]; omega)
        rw [mix_len HLL.out (by omega)] at hv
        subst hv
        obtain ⟨ad, hA1, hcell⟩ := at_kc (Kd.C_below HA.out hS.out.below) i hlt
        subst hA1
        obtain ⟨bd, hA2, hcell2⟩ := at_kc (Kd.C_below HA'.out hS.out.below) i (by have := HLL.out; omega)
        subst hA2
        obtain ⟨⟨p1, p2⟩, hp⟩ : ∃ v : Nat × Nat, v = L.getD i (0, 0) := ⟨_, rfl⟩
        obtain ⟨⟨q1, q2⟩, hq⟩ : ∃ v : Nat × Nat, v = L'.getD i (0, 0) := ⟨_, rfl⟩
        have HPW := Lib.hid (words_at HW.out hlt)
        have HQW := Lib.hid (words_at HW'.out (show i < L'.length by have := HLL.out; omega))
        have HNX := Lib.hid (hS.out.next HLL.out hlt)
        rw [← hp] at hcell HPW HNX
        rw [← hq] at hcell2 HQW HNX
        clear hp hq
        dsimp only at hcell hcell2 HPW HQW HNX
        have hcl := kc_cell (L := mix L L' i) (by rw [mix_len HLL.out (by omega)]; exact hS.out.row) i (by rw [mix_len HLL.out (by omega)]; exact hlt)
        obtain ⟨hcl1, hcl2⟩ := hcl
        have hi1 : wrap64 ((i : Int) + 1) = ((i + 1 : Nat) : Int) := wrap64_id (by have := HL4.out; omega) (by have := HL4.out; omega)
        have HI1 := Lib.hid hi1
        clear hi1
        go_upto_region 7 with (fail)
        refine start_ (n := 24) (S := fun w' => w'.cell? ⟨hb, 1, none⟩ = some (.slice (some ⟨hg0, 0, none⟩) L.length cap) ∧ w'.cell? ⟨w.heap.size + 1, 1, none⟩ = some (.slice (some bd) L'.length c') ∧ w'.cell? (bd.add i) = some (.complex .f64 q1 q2)) (ds := [23]) #[false, false, false, false, false, false, false, false, false, false, false, false, false, false, false, false, false, false, false, false, false, false, false, false] (by kernel_rfl) rfl rfl ⟨(two_cells hS.out.h).2.1, (two_cells hS.out.g).2.1, hcell2⟩ (fun hHeld => ?_)
        refine pure_ (i := 0) (N := some 40) (v := ?_) (a' := ?_) #[true, false, false, false, false, false, false, false, false, false, false, false, false, false, false, false, false, false, false, false, false, false, false, false] rfl rfl (by kernel_rfl) (fun _ _ _ h => h) (Or.inl ⟨by rfl, ?_⟩) ?_ ?_
        rotate_left
        · intro w'
          go_simp
          with_reducible rfl
        rotate_left
        · simp only [Act.put, List.setIfInBounds_toArray, List.set_cons_zero, List.set_cons_succ, i64_w, i32_w]
          rfl
        refine pure_ (i := 2) (N := some 42) (v := ?_) (a' := ?_) #[true, false, true, false, false, false, false, false, false, false, false, false, false, false, false, false, false, false, false, false, false, false, false, false] rfl rfl (by kernel_rfl) (fun _ _ _ h => h) (Or.inl ⟨by rfl, ?_⟩) ?_ ?_
        rotate_left
        · intro w'
          go_simp
          with_reducible rfl
        rotate_left
        · simp only [Act.put, List.setIfInBounds_toArray, List.set_cons_zero, List.set_cons_succ, i64_w, i32_w]
          rfl
        refine pure_ (i := 3) (N := some 43) (v := ?_) (a' := ?_) #[true, false, true, true, false, false, false, false, false, false, false, false, false, false, false, false, false, false, false, false, false, false, false, false] rfl rfl (by kernel_rfl) (fun _ _ _ h => h) (Or.inl ⟨by rfl, ?_⟩) ?_ ?_
        rotate_left
        · intro w'
          go_simp
          with_reducible rfl
        rotate_left
        · simp only [Act.put, List.setIfInBounds_toArray, List.set_cons_zero, List.set_cons_succ, i64_w, i32_w]
          rfl
        refine pure_ (i := 4) (N := some 44) (v := ?_) (a' := ?_) #[true, false, true, true, true, false, false, false, false, false, false, false, false, false, false, false, false, false, false, false, false, false, false, false] rfl rfl (by kernel_rfl) (fun _ _ _ h => h) (Or.inl ⟨by rfl, ?_⟩) ?_ ?_
        rotate_left
        · intro w'
          go_simp
          with_reducible rfl
        rotate_left
        · simp only [Act.put, List.setIfInBounds_toArray, List.set_cons_zero, List.set_cons_succ, i64_w, i32_w]
          rfl
        refine pure_ (i := 5) (N := some 45) (v := ?_) (a' := ?_) #[true, false, true, true, true, true, false, false, false, false, false, false, false, false, false, false, false, false, false, false, false, false, false, false] rfl rfl (by kernel_rfl) (fun _ _ _ h => h) (Or.inl ⟨by rfl, ?_⟩) ?_ ?_
        rotate_left
        · intro w'
          go_simp
          with_reducible rfl
        rotate_left
        · simp only [Act.put, List.setIfInBounds_toArray, List.set_cons_zero, List.set_cons_succ, i64_w, i32_w]
          rfl
        refine pure_ (i := 7) (N := some 47) (v := ?_) (a' := ?_) #[true, false, true, true, true, true, false, true, false, false, false, false, false, false, false, false, false, false, false, false, false, false, false, false] rfl rfl (by kernel_rfl) (fun _ _ _ h => h) (Or.inl ⟨by rfl, ?_⟩) ?_ ?_
        rotate_left
        · intro w'
          go_simp
          with_reducible rfl
        rotate_left
        · simp only [Act.put, List.setIfInBounds_toArray, List.set_cons_zero, List.set_cons_succ, i64_w, i32_w]
          rfl
        refine pure_ (i := 12) (N := some 52) (v := ?_) (a' := ?_) #[true, false, true, true, true, true, false, true, false, false, false, false, true, false, false, false, false, false, false, false, false, false, false, false] rfl rfl (by kernel_rfl) (fun _ _ _ h => h) (Or.inl ⟨by rfl, ?_⟩) ?_ ?_
        rotate_left
        · intro w'
          go_simp
          with_reducible rfl
        rotate_left
        · simp only [Act.put, List.setIfInBounds_toArray, List.set_cons_zero, List.set_cons_succ, i64_w, i32_w]
          rfl
        refine pure_ (i := 13) (N := some 53) (v := ?_) (a' := ?_) #[true, false, true, true, true, true, false, true, false, false, false, false, true, true, false, false, false, false, false, false, false, false, false, false] rfl rfl (by kernel_rfl) (fun _ _ _ h => h) (Or.inl ⟨by rfl, ?_⟩) ?_ ?_
        rotate_left
        · intro w'
          go_simp
          with_reducible rfl
        rotate_left
        · simp only [Act.put, List.setIfInBounds_toArray, List.set_cons_zero, List.set_cons_succ, i64_w, i32_w]
          rfl
        refine pure_ (i := 14) (N := some 54) (v := ?_) (a' := ?_) #[true, false, true, true, true, true, false, true, false, false, false, false, true, true, true, false, false, false, false, false, false, false, false, false] rfl rfl (by kernel_rfl) (fun _ _ _ h => h) (Or.inl ⟨by rfl, ?_⟩) ?_ ?_
        rotate_left
        · intro w'
          go_simp
          with_reducible rfl
        rotate_left
        · simp only [Act.put, List.setIfInBounds_toArray, List.set_cons_zero, List.set_cons_succ, i64_w, i32_w]
          rfl
        refine pure_ (i := 16) (N := some 56) (v := ?_) (a' := ?_) #[true, false, true, true, true, true, false, true, false, false, false, false, true, true, true, false, true, false, false, false, false, false, false, false] rfl rfl (by kernel_rfl) (fun _ _ _ h => h) (Or.inl ⟨by rfl, ?_⟩) ?_ ?_
        rotate_left
        · intro w'
          go_simp
          with_reducible rfl
        rotate_left
        · simp only [Act.put, List.setIfInBounds_toArray, List.set_cons_zero, List.set_cons_succ, i64_w, i32_w]
          rfl
        refine take_ (i := 1) (N := some 41) (v := ?_) (a' := ?_) #[true, true, true, true, true, true, false, true, false, false, false, false, true, true, true, false, true, false, false, false, false, false, false, false] rfl rfl (by kernel_rfl) (fun _ _ _ h => h) (Or.inl ⟨by rfl, ?_⟩) hHeld ?_ ?_
        rotate_left
        · rintro w' ⟨s0, s1, s2⟩
          go_simp
          with_reducible rfl
        rotate_left
        · simp only [Act.put, List.setIfInBounds_toArray, List.set_cons_zero, List.set_cons_succ, i64_w, i32_w]
          rfl
        refine take_ (i := 6) (N := some 46) (v := ?_) (a' := ?_) #[true, true, true, true, true, true, true, true, false, false, false, false, true, true, true, false, true, false, false, false, false, false, false, false] rfl rfl (by kernel_rfl) (fun _ _ _ h => h) (Or.inl ⟨by rfl, ?_⟩) hHeld ?_ ?_
        rotate_left
        · rintro w' ⟨s0, s1, s2⟩
          go_simp
          with_reducible rfl
        rotate_left
        · simp only [Act.put, List.setIfInBounds_toArray, List.set_cons_zero, List.set_cons_succ, i64_w, i32_w]
          rfl
        refine pure_ (i := 8) (N := some 48) (v := ?_) (a' := ?_) #[true, true, true, true, true, true, true, true, true, false, false, false, true, true, true, false, true, false, false, false, false, false, false, false] rfl rfl (by kernel_rfl) (fun _ _ _ h => h) (Or.inl ⟨by rfl, ?_⟩) ?_ ?_
        rotate_left
        · intro w'
          go_simp
          with_reducible rfl
        rotate_left
        · simp only [Act.put, List.setIfInBounds_toArray, List.set_cons_zero, List.set_cons_succ, i64_w, i32_w]
          rfl
        refine take_ (i := 9) (N := some 49) (v := ?_) (a' := ?_) #[true, true, true, true, true, true, true, true, true, true, false, false, true, true, true, false, true, false, false, false, false, false, false, false] rfl rfl (by kernel_rfl) (fun _ _ _ h => h) (Or.inl ⟨by rfl, ?_⟩) hHeld ?_ ?_
        rotate_left
        · rintro w' ⟨s0, s1, s2⟩
          go_simp
          with_reducible rfl
        rotate_left
        · simp only [Act.put, List.setIfInBounds_toArray, List.set_cons_zero, List.set_cons_succ, i64_w, i32_w]
          rfl
        refine pure_ (i := 10) (N := some 50) (v := ?_) (a' := ?_) #[true, true, true, true, true, true, true, true, true, true, true, false, true, true, true, false, true, false, false, false, false, false, false, false] rfl rfl (by kernel_rfl) (fun _ _ _ h => h) (Or.inl ⟨by rfl, ?_⟩) ?_ ?_
        rotate_left
        · intro w'
          go_simp
          with_reducible rfl
        rotate_left
        · simp only [Act.put, List.setIfInBounds_toArray, List.set_cons_zero, List.set_cons_succ, i64_w, i32_w]
          rfl
        refine take_ (i := 15) (N := some 55) (v := ?_) (a' := ?_) #[true, true, true, true, true, true, true, true, true, true, true, false, true, true, true, true, true, false, false, false, false, false, false, false] rfl rfl (by kernel_rfl) (fun _ _ _ h => h) (Or.inl ⟨by rfl, ?_⟩) hHeld ?_ ?_
        rotate_left
        · rintro w' ⟨s0, s1, s2⟩
          go_simp
          with_reducible rfl
        rotate_left
        · simp only [Act.put, List.setIfInBounds_toArray, List.set_cons_zero, List.set_cons_succ, i64_w, i32_w]
          rfl
        refine pure_ (i := 17) (N := some 57) (v := ?_) (a' := ?_) #[true, true, true, true, true, true, true, true, true, true, true, false, true, true, true, true, true, true, false, false, false, false, false, false] rfl rfl (by kernel_rfl) (fun _ _ _ h => h) (Or.inl ⟨by rfl, ?_⟩) ?_ ?_
        rotate_left
        · intro w'
          go_simp
          with_reducible rfl
        rotate_left
        · simp only [Act.put, List.setIfInBounds_toArray, List.set_cons_zero, List.set_cons_succ, i64_w, i32_w]
          rfl
        refine take_ (i := 18) (N := some 58) (v := ?_) (a' := ?_) #[true, true, true, true, true, true, true, true, true, true, true, false, true, true, true, true, true, true, true, false, false, false, false, false] rfl rfl (by kernel_rfl) (fun _ _ _ h => h) (Or.inl ⟨by rfl, ?_⟩) hHeld ?_ ?_
        rotate_left
        · rintro w' ⟨s0, s1, s2⟩
          go_simp
          with_reducible rfl
        rotate_left
        · simp only [Act.put, List.setIfInBounds_toArray, List.set_cons_zero, List.set_cons_succ, i64_w, i32_w]
          rfl
        refine pure_ (i := 19) (N := some 59) (v := ?_) (a' := ?_) #[true, true, true, true, true, true, true, true, true, true, true, false, true, true, true, true, true, true, true, true, false, false, false, false] rfl rfl (by kernel_rfl) (fun _ _ _ h => h) (Or.inl ⟨by rfl, ?_⟩) ?_ ?_
        rotate_left
        · intro w'
          go_simp
          with_reducible rfl
        rotate_left
        · simp only [Act.put, List.setIfInBounds_toArray, List.set_cons_zero, List.set_cons_succ, i64_w, i32_w]
          rfl
        refine one_ (i := 11) (N := some 51) #[true, true, true, true, true, true, true, true, true, true, true, true, true, true, true, true, true, true, true, true, false, false, false, false] rfl rfl (by kernel_rfl) (by decide) (fun K hK => ?_)
        refine goes_ Try.func66 (by kernel_rfl) rfl #[.float .f64 p1, .float .f64 q1] (by rfl) rfl rfl (by simp only [List.map_toArray, List.map_cons, List.map_nil]; rfl) ?_
        with_reducible refine (unlike_any p1 q1 HPW.out.1 HQW.out.1 _).mono ?_
        rintro e w2 ⟨rfl, rfl⟩
        refine ⟨_, rfl, ?_⟩
        refine hK.out _ _ ⟨hHeld.1, hHeld.2.1, hHeld.2.2⟩ (fun hHeld => ?_)
        clear hK K
        refine norm_ (a' := ?_) ?_ ?_
        rotate_left
        · show Act.put _ (some 51) _ = _
          simp only [Act.put, List.setIfInBounds_toArray, List.set_cons_zero, List.set_cons_succ, i64_w, i32_w]
          rfl
        refine one_ (i := 20) (N := some 60) #[true, true, true, true, true, true, true, true, true, true, true, true, true, true, true, true, true, true, true, true, true, false, false, false] rfl rfl (by kernel_rfl) (by decide) (fun K hK => ?_)
        refine goes_ Try.func66 (by kernel_rfl) rfl #[.float .f64 p2, .float .f64 q2] (by rfl) rfl rfl (by simp only [List.map_toArray, List.map_cons, List.map_nil]; rfl) ?_
        with_reducible refine (unlike_any p2 q2 HPW.out.2 HQW.out.2 _).mono ?_
        rintro e w2 ⟨rfl, rfl⟩
        refine ⟨_, rfl, ?_⟩
        refine hK.out _ _ ⟨hHeld.1, hHeld.2.1, hHeld.2.2⟩ (fun hHeld => ?_)
        clear hK K
        refine norm_ (a' := ?_) ?_ ?_
        rotate_left
        · show Act.put _ (some 60) _ = _
          simp only [Act.put, List.setIfInBounds_toArray, List.set_cons_zero, List.set_cons_succ, i64_w, i32_w]
          rfl
        refine pure_ (i := 21) (N := some 61) (v := ?_) (a' := ?_) #[true, true, true, true, true, true, true, true, true, true, true, true, true, true, true, true, true, true, true, true, true, true, false, false] rfl rfl (by kernel_rfl) (fun _ _ _ h => h) (Or.inl ⟨by rfl, ?_⟩) ?_ ?_
        rotate_left
        · intro w'
          go_simp
          with_reducible rfl
        rotate_left
        · simp only [Act.put, List.setIfInBounds_toArray, List.set_cons_zero, List.set_cons_succ, i64_w, i32_w]
          rfl
        refine pure_ (i := 22) (N := some 62) (v := ?_) (a' := ?_) #[true, true, true, true, true, true, true, true, true, true, true, true, true, true, true, true, true, true, true, true, true, true, true, false] rfl rfl (by kernel_rfl) (fun _ _ _ h => h) (Or.inl ⟨by rfl, ?_⟩) ?_ ?_
        rotate_left
        · intro w'
          go_simp
          with_reducible rfl
        rotate_left
        · simp only [Act.put, List.setIfInBounds_toArray, List.set_cons_zero, List.set_cons_succ, i64_w, i32_w]
          rfl
        refine last_ (i := 23) (N := none) #[true, true, true, true, true, true, true, true, true, true, true, true, true, true, true, true, true, true, true, true, true, true, true, true] rfl rfl (by kernel_rfl) (by decide) (fun K hK => ?_)
        refine skip_ (w1 := ?_) (by rfl) rfl ?_ ?_
        rotate_left
        · go_simp
          rfl
        refine hK.out _ _ ?_
        clear hK K
        refine done_ (by kernel_rfl) ?_
        clear hcl1 hcl2 hcell hcell2
        have hi1 := HI1.out
        go_wp2_with fail
        go_roundg (gk - 1)
        case measure => have := hg.out; omega
        case rel => exact ⟨i + 1, _, by rw [hi1], Lib.hid (by have := hg.out; omega), Lib.hid (by omega), HNX⟩
      · have hlt' : ¬ (i : Int) < (L.length : Int) := by omega
        obtain rfl : i = L.length := by have := hi.out; omega
        have hrow := hS.out.row
        rw [mix_full HLL.out] at hrow
        obtain ⟨AX, cx, rfl⟩ := Kd.R_slice hrow
        have HROW := Lib.hid hrow
        clear hrow
        go_wp2_with (first
          | ((with_reducible refine gate_dst (N := 64) rfl ?_); refine load_grid rfl (.tmp 6) rfl (g := hb) ?hx (u := .int .i64 N) (v := .slice AX (xorL L L').length cx) hS.out.h ?_; (case hx => go_simp))
          | ((with_reducible refine gate_store (t := 26) (p := 4) rfl ?_); refine store_grid rfl rfl (.tmp 4) (.tmp 64) rfl (g := w.heap.size + 1 + 1) ?hp (u := (N : Int)) (A := AX) (n := (xorL L L').length) (c := cx) ?hv hS.out.res ?_; (case hp => go_simp); (case hv => go_simp); intro w8 hh8 hk8 hb8; have HR8 := Lib.hid hh8; have HK8 := Lib.hid hk8; have HB8 := Lib.hid (hS.out.below.trans (hb8.mono (by omega))); clear hh8 hk8 hb8))
        obtain ⟨r1, r2, -, -⟩ := two_cells HR8.out
        refine bodyPost_ret (v := .tuple #[.agg #[.int .i64 N, .slice AX (xorL L L').length cx], .int .i64 0]) (by simp [results, Try.results55, go_sem, r1, r2]) rfl ⟨AX, cx, rfl, HB8.out, ?_⟩
        exact Kd.R_mono (Kd.R_kept (Kd.R_types HROW.out hS.out.res (by decide)) HK8.out (fun k ho he => ho.2 he)) (fun _ _ => trivial)
end Go.Proofs.Ytomildjihlbbmaa
