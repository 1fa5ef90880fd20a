/-
  The deferred closure of walk: it takes a panic of broken away, and does nothing else.
-/
import Derived.Test.YtomildjihlbbmaaRcs
import Derived.Defers
import Derived.Recover
namespace Go.Proofs.Ytomildjihlbbmaa
open Go.RowKit Flt Num Go.Proofs.YtomildjihlbbmaaW.PrintWords Go.Proofs.YtomildjihlbbmaaW.PrintLast Go.Proofs.YtomildjihlbbmaaW.PrintMore Go.Proofs.Ytomildjihlbbmaa.PVaultReads
set_option linter.unusedVariables false
set_option linter.unusedSimpArgs false
set_option maxHeartbeats 1000000 in
theorem catch_idle (w : World) :
    CallsD Try.prog 41 #[] .returning w fun e u' w' => e = .returned (.tuple #[]) ∧ u' = .returning ∧ w' = w := by
  refine callsD_of_wpS Try.func41 rfl fun c₀ cs hu => ?_
  apply wpS_seq
  apply wpS_region
  simp [wpOpsS, go_sem, recoverD, hu, Try.ntmps41, Exit.thenS]
  refine wpS_of_wp ?_
  simp only [Array.replicate, List.replicate, List.setIfInBounds_toArray, List.set_cons_zero, List.set_cons_succ]
  go_wp2
  cases c₀
  simp_all [bodyPostS, results, Try.results41]
set_option maxHeartbeats 1000000 in
set_option maxRecDepth 100000 in
theorem catch_broken (older : List PanicEntry) (w : World) :
    CallsD Try.prog 41 #[] (.panicking ({ v := .iface 81 (.agg #[]), recovered := false } :: older)) w fun e u' w' =>
      e = .returned (.tuple #[]) ∧ u' = .panicking ({ v := .iface 81 (.agg #[]), recovered := true } :: older) ∧ Below w.heap.size w w' := by
  refine callsD_of_wpS Try.func41 rfl fun c₀ cs hu => ?_
  apply wpS_seq
  apply wpS_region
  simp [wpOpsS, go_sem, recoverD, hu, Try.ntmps41, Exit.thenS]
  refine wpS_of_wp ?_
  simp only [Array.replicate, List.replicate, List.setIfInBounds_toArray, List.set_cons_zero, List.set_cons_succ]
  clear hu
  have hta : ∀ w, (Instr.typeAssert (.iface 81 (.agg #[])) 20 81 true).run Try.prog w = .ok (.tuple #[.agg #[], .bool true]) w := fun _ => by kernel_rfl
  go_wp2
  exact ⟨rfl, _, rfl, .tuple #[], by simp [results, Try.results41], rfl, rfl, below_alloc (Below.refl _ _) _⟩
theorem one_cell {w : World} {g t : Nat} {a : Value} (h : w.heap[g]? = some (.cells #[a] t (0, 0))) : w.cell? ⟨g, 0, none⟩ = some a ∧ w.frozen? ⟨g, 0, none⟩ = false := ⟨by rw [cell_of_row w g 0 _ _ _ h]; rfl, blk_frozen h 0⟩
theorem one_set {w : World} {g t : Nat} {a c : Value} (h : w.heap[g]? = some (.cells #[a] t (0, 0))) : (w.setCell ⟨g, 0, none⟩ c).heap[g]? = some (.cells #[c] t (0, 0)) := by
  rw [setCell_eq_setRow w g 0 _ t (0, 0) _ h, setRow_heap w g _ _ t (0, 0) h]; rfl
theorem blk_types {w : World} {g k : Nat} {t u : TypeId} {a c : Array Value} (h : w.heap[g]? = some (Obj.cells a t (0, 0))) (h' : w.heap[k]? = some (Obj.cells c u (0, 0))) (hne : t ≠ u) : g ≠ k := by
  rintro rfl
  rw [h] at h'
  injection h' with h'
  injection h' with _ h'
  exact hne h'
/-- what a told walk keeps -/
def Keeps (base : Nat) (w w' : World) : Prop :=
  Below base w w' ∧ (∀ (k : Nat) (cells : Array Value), w.heap[k]? = some (Obj.cells cells 79 (0, 0)) → w'.heap[k]? = some (Obj.cells cells 79 (0, 0))) ∧
    (∀ (b0 : Nat) (v : Value) (M : List (Nat × Nat)), kc.R 42 w b0 (fun _ => True) v M → kc.R 42 w' b0 (fun _ => True) v M)
/-- what Cut's variables hold -/
structure TldC (p1 p2 : Nat) (l : List Fld) (a : Nat) (w : World) : Prop where
  one : w.heap[p1]? = some (.cells #[.int .i64 (l.length : Int)] 3 (0, 0))
  two : w.heap[p2]? = some (.cells #[.int .i64 (a : Int)] 3 (0, 0))
set_option maxHeartbeats 1000000 in
set_option maxRecDepth 100000 in
theorem toldC_any (base p1 p2 : Nat) (hb1 : base ≤ p1) (hne : p1 < p2) (N : Nat) (B : Option Addr) (c : Nat) (L : List (Nat × Nat)) (a a' : Nat) (l : List Fld) (hl : l.length < 1000) (w : World) (h : TldC p1 p2 l a w) (x : Fld) :
    Calls Try.prog 35 #[.agg #[.int .i64 N, .slice B L.length c], .int .i64 a', .pointer (some ⟨p1, 0, none⟩), .pointer (some ⟨p2, 0, none⟩)] w fun e w' => e = .returned (.tuple #[]) ∧ TldC p1 p2 (l ++ [x]) a' w' ∧ Keeps base w w' := by
  have H := Lib.hid h
  have h1 := blk_below h.one (below_alloc (Below.refl _ w) (.cells #[.int .i64 N, .slice B L.length c] 26))
  have h2 := blk_below h.two (below_alloc (Below.refl _ w) (.cells #[.int .i64 N, .slice B L.length c] 26))
  have H1 := Lib.hid h1
  have H2 := Lib.hid h2
  obtain ⟨x1, x2⟩ := one_cell h1
  obtain ⟨y1, y2⟩ := one_cell h2
  have hs : wrap64 ((l.length : Int) + 1) = ((l.length + 1 : Nat) : Int) := wrap64_id (by omega) (by omega)
  have HS := Lib.hid hs
  have HNE := Lib.hid hne
  have hne2 : ¬ p2 = p1 := by omega
  have hne3 : ¬ p1 = p2 := by omega
  clear h h1 h2 hs hl hne
  go_enter Try.func35, Try.ntmps35
  go_wp2
  go_end0
  refine ⟨rfl, ⟨?_, ?_⟩, ?_⟩
  · rw [HS.out, Below.heap_setCell _ _ _ _ (show p1 ≠ p2 by have := HNE.out; omega), List.length_append, List.length_singleton]
    exact one_set H1.out
  · refine one_set ((Below.heap_setCell _ _ _ _ (show p2 ≠ p1 by have := HNE.out; omega)).trans H2.out)
  · refine ⟨((((Below.refl base w).alloc (Nat.le_of_lt (Nat.lt_of_le_of_lt hb1 (blk_lt H.out.one))) _).setCell hb1 _).setCell (Nat.le_trans hb1 (Nat.le_of_lt HNE.out)) _), fun k cells hk => ?_, fun b0 v M hM => ?_⟩
    · have k2 := blk_below hk (below_alloc (Below.refl _ w) (.cells #[.int .i64 N, .slice B L.length c] 26))
      have n1 : k ≠ p1 := blk_types k2 H1.out (by decide)
      have n2 : k ≠ p2 := blk_types k2 H2.out (by decide)
      exact (Below.heap_setCell _ _ _ _ n2).trans ((Below.heap_setCell _ _ _ _ n1).trans k2)
    · exact Kd.R_set (Kd.R_set (Kd.R_alloc hM _) H1.out (by decide) 0 _) ((Below.heap_setCell _ _ _ _ (show p2 ≠ p1 by have := HNE.out; omega)).trans H2.out) (by decide) 0 _
/-- what Slices' variables hold -/
structure TldS (base p1 p2 : Nat) (l : List Fld) (a : Nat) (w : World) : Prop where
  one : ∃ v, w.heap[p1]? = some (.cells #[v] 32 (0, 0)) ∧ kg.R 26 w base (fun _ => True) v l
  two : w.heap[p2]? = some (.cells #[.int .i64 (a : Int)] 3 (0, 0))
set_option maxHeartbeats 8000000 in
set_option maxRecDepth 100000 in
theorem toldS_any (base p1 p2 : Nat) (hb1 : base ≤ p1) (hne : p1 < p2) (N : Nat) (B : Option Addr) (c : Nat) (L : List (Nat × Nat)) (a a' : Nat) (l : List Fld) (hl : l.length < 1000) (hL : L.length ≤ 4096) (w : World) (hC : kc.C w B L.length L) (h : TldS base p1 p2 l a w) :
    Calls Try.prog 33 #[.agg #[.int .i64 N, .slice B L.length c], .int .i64 a', .pointer (some ⟨p1, 0, none⟩), .pointer (some ⟨p2, 0, none⟩)] w fun e w' => e = .returned (.tuple #[]) ∧ TldS base p1 p2 (l ++ [(N, L)]) a' w' ∧ Keeps base w w' := by
  obtain ⟨w1, hw1⟩ : ∃ w1 : World, w1 = w.alloc (.cells #[.int .i64 N, .slice B L.length c] 26) := ⟨_, rfl⟩
  have HB1 := Lib.hid (show Below w.heap.size w w1 by rw [hw1]; exact below_alloc (Below.refl _ _) _)
  obtain ⟨⟨v, h1, hr⟩, h2⟩ := h
  obtain ⟨LA, lc, rfl⟩ := Kd.R_slice hr
  have HP := Lib.hid (show p1 < w.heap.size ∧ p2 < w.heap.size from ⟨blk_lt h1, blk_lt h2⟩)
  have H1 := Lib.hid (blk_below h1 HB1.out)
  have H2 := Lib.hid (blk_below h2 HB1.out)
  have HR1 := Lib.hid (Kd.R_below hr HB1.out)
  have HC1 := Lib.hid (show kc.C w1.drew B L.length L from Kd.C_below (Kd.C_below hC HB1.out) (below_drewN (Below.refl _ w1) 1))
  have HX := Lib.hid (show w1.heap[w.heap.size]? = some (.cells #[.int .i64 N, .slice B L.length c] 26 (0, 0)) by rw [hw1]; exact heap_alloc_new w _)
  have HBS := Lib.hid (show base ≤ w.heap.size from Nat.le_trans hb1 (Nat.le_of_lt HP.out.1))
  have HL16 := Lib.hid (show (([] : List (Nat × Nat)).length + L.length) * 16 ≤ 140737488355328 by simp; omega)
  have HL32 := Lib.hid (show (l.length + 1) * 32 ≤ 140737488355328 by omega)
  have HNX0 := Lib.hid (show ∀ k, (Value.slice LA l.length lc).ownBlock = some k → k < w.heap.size from fun k hk => ((Kd.R_bound hr).1 k hk).2.2.1)
  have HNX := Lib.hid (show some w.heap.size ≠ (Value.slice LA l.length lc).ownBlock from fun e => by have := HNX0.out _ e.symm; omega)
  have HNE := Lib.hid hne
  have HB0 := Lib.hid hb1
  have HW1 := Lib.hid hw1.symm
  have HBWx := Lib.hid (fun w2 (hB : Below w1.heap.size w1 w2) => (show Below base w w2 from (HB1.out.mono HBS.out).trans (hB.mono (Nat.le_trans HBS.out HB1.out.size))))
  clear h1 h2 hr hC hw1 hb1 hne hl hL
  go_enter Try.func33, Try.ntmps33
  go_upto_region 1 with (fail)
  rw [HW1.out]
  refine start_ (n := 10) (S := fun w' => w'.cell? ⟨p1, 0, none⟩ = some (.slice LA l.length lc) ∧ w'.cell? ⟨w.heap.size, 0, none⟩ = some (.int .i64 N) ∧ w'.cell? ⟨w.heap.size, 1, none⟩ = some (.slice B L.length c)) (ds := [9]) #[false, false, false, false, false, false, false, false, false, false] (by kernel_rfl) rfl rfl ⟨(one_cell H1.out).1, (two_cells HX.out).1, (two_cells HX.out).2.1⟩ (fun hHeld => ?_)
  refine pure_ (i := 1) (N := some 7) (v := ?_) (a' := ?_) #[false, true, false, false, false, false, false, false, false, false] rfl rfl (by kernel_rfl) (fun _ _ _ h => h) (Or.inl ⟨by rfl, ?_⟩) ?_ ?_
  rotate_left
  · intro w'
    go_simp
    with_reducible rfl
  rotate_left
  · simp only [Act.put, List.setIfInBounds_toArray, List.set_cons_zero, List.set_cons_succ, i64_w, i32_w]
    rfl
  refine pure_ (i := 3) (N := some 9) (v := ?_) (a' := ?_) #[false, true, false, true, false, false, false, false, false, false] rfl rfl (by kernel_rfl) (fun _ _ _ h => h) (Or.inl ⟨by rfl, ?_⟩) ?_ ?_
  rotate_left
  · intro w'
    go_simp
    with_reducible rfl
  rotate_left
  · simp only [Act.put, List.setIfInBounds_toArray, List.set_cons_zero, List.set_cons_succ, i64_w, i32_w]
    rfl
  refine take_ (i := 0) (N := some 6) (v := ?_) (a' := ?_) #[true, true, false, true, false, false, false, false, false, false] rfl rfl (by kernel_rfl) (fun _ _ _ h => h) (Or.inl ⟨by rfl, ?_⟩) hHeld ?_ ?_
  rotate_left
  · rintro w' ⟨s0, s1, s2⟩
    go_simp
    with_reducible rfl
  rotate_left
  · simp only [Act.put, List.setIfInBounds_toArray, List.set_cons_zero, List.set_cons_succ, i64_w, i32_w]
    rfl
  refine take_ (i := 2) (N := some 8) (v := ?_) (a' := ?_) #[true, true, true, true, false, false, false, false, false, false] rfl rfl (by kernel_rfl) (fun _ _ _ h => h) (Or.inl ⟨by rfl, ?_⟩) hHeld ?_ ?_
  rotate_left
  · rintro w' ⟨s0, s1, s2⟩
    go_simp
    with_reducible rfl
  rotate_left
  · simp only [Act.put, List.setIfInBounds_toArray, List.set_cons_zero, List.set_cons_succ, i64_w, i32_w]
    rfl
  refine take_ (i := 4) (N := some 10) (v := ?_) (a' := ?_) #[true, true, true, true, true, false, false, false, false, false] rfl rfl (by kernel_rfl) (fun _ _ _ h => h) (Or.inl ⟨by rfl, ?_⟩) hHeld ?_ ?_
  rotate_left
  · rintro w' ⟨s0, s1, s2⟩
    go_simp
    with_reducible rfl
  rotate_left
  · simp only [Act.put, List.setIfInBounds_toArray, List.set_cons_zero, List.set_cons_succ, i64_w, i32_w]
    rfl
  refine one_ (i := 5) (N := some 11) #[true, true, true, true, true, true, false, false, false, false] rfl rfl (by kernel_rfl) (by decide) (fun K hK => ?_)
  refine Kd.R_append_rows_step kc (Rr := kc.K w1.drew) (w0 := w1.drew) w1.heap.size (by rfl) (.const (.slice none 0 0)) (.tmp 10) 24 42 (.complex .f64 0 0) 16 (by rfl) und24 info42 rfl (by decide) (by decide) (.slice none 0 0) [] L B L.length c (fun _ => True) (fun _ => False) (by rfl) (by rfl) (Kd.R_nil _ _ _ _ _) HC1.out (fun _ _ h => h) (fun _ h => h.elim) (fun _ _ => trivial) (Below.refl _ _) (Nat.le_refl _) HL16.out ?_
  intro v2 w2 hr2 hb2 hg2 ha2
  rw [List.nil_append] at hr2
  obtain ⟨NB, nc, rfl⟩ := Kd.R_slice hr2
  have HR2 := Lib.hid hr2
  have HB2 := Lib.hid (show Below w1.heap.size w1 w2 from below_undrew2 hb2)
  clear hr2 hb2 hg2 ha2
  refine hK.out _ _ ⟨(one_cell (blk_below H1.out HB2.out)).1, (two_cells (blk_below HX.out HB2.out)).1, (two_cells (blk_below HX.out HB2.out)).2.1⟩ (fun hHeld => ?_)
  clear hK K
  refine norm_ (a' := ?_) ?_ ?_
  rotate_left
  · show Act.put _ (some 11) _ = _
    simp only [Act.put, List.setIfInBounds_toArray, List.set_cons_zero, List.set_cons_succ, i64_w, i32_w]
    rfl
  refine pure_ (i := 6) (N := some 12) (v := ?_) (a' := ?_) #[true, true, true, true, true, true, true, false, false, false] rfl rfl (by kernel_rfl) (fun _ _ _ h => h) (Or.inl ⟨by rfl, ?_⟩) ?_ ?_
  rotate_left
  · intro w'
    go_simp
    with_reducible rfl
  rotate_left
  · simp only [Act.put, List.setIfInBounds_toArray, List.set_cons_zero, List.set_cons_succ, i64_w, i32_w]
    rfl
  refine one_ (i := 7) (N := some 13) #[true, true, true, true, true, true, true, true, false, false] rfl rfl (by kernel_rfl) (by decide) (fun K hK => ?_)
  refine value_ (w1 := ?_) (v := ?_) (by rfl) rfl ?_ ?_
  rotate_left 2
  · go_simp
    constructor
    · rfl
    · rfl
  refine hK.out _ _ ⟨(one_cell (blk_below H1.out (HB2.out.alloc HB2.out.size _))).1, (two_cells (blk_below HX.out (HB2.out.alloc HB2.out.size _))).1, (two_cells (blk_below HX.out (HB2.out.alloc HB2.out.size _))).2.1⟩ (fun hHeld => ?_)
  clear hK K
  refine norm_ (a' := ?_) ?_ ?_
  rotate_left
  · show Act.put _ (some 13) _ = _
    simp only [Act.put, List.setIfInBounds_toArray, List.set_cons_zero, List.set_cons_succ, i64_w, i32_w]
    rfl
  refine one_ (i := 8) (N := some 14) #[true, true, true, true, true, true, true, true, true, false] rfl rfl (by kernel_rfl) (by decide) (fun K hK => ?_)
  refine Kd.R_append_step kg (w0 := w) base (by rfl) (.tmp 6) (.tmp 13) 32 26 (.agg #[.int .i64 0, .slice none 0 0]) 32 (by rfl) und32 info26 rfl (by decide) (by decide) (.slice LA l.length lc) l (N, L) [.int .i64 (N : Int), .slice NB L.length nc] (fun _ => True) (fun k => some k ≠ (Value.slice LA l.length lc).ownBlock) (by rfl) (by rfl) (kg_M (Kd.R_mono (Kd.R_apartR (Kd.R_lower HR2.out (Nat.le_trans HBS.out HB1.out.size)) (Kd.R_below HR1.out HB2.out) (by decide)) (fun k hk => hk.2))) (fun k hk => ⟨trivial, hk⟩) (fun _ _ => trivial) (Kd.R_below HR1.out HB2.out) (HBWx.out _ HB2.out) (Nat.le_trans HBS.out (Nat.le_trans HB1.out.size HB2.out.size)) HL32.out ?_
  intro v3 w3 ho hbb hgr hat
  obtain ⟨LB, ld, hv3⟩ := Kd.R_slice ho
  rw [List.length_append, List.length_singleton] at hv3
  subst hv3
  have HR3 := Lib.hid ho
  have HB3 := Lib.hid hbb
  have HG3 := Lib.hid hgr
  have H13 := Lib.hid ((hgr.block p1 (blk_lt (blk_below H1.out HB2.out)) (Kd.R_ne (Kd.R_below HR1.out HB2.out) (blk_below H1.out HB2.out) (by decide))).trans (blk_below H1.out HB2.out))
  obtain ⟨t1, t2⟩ := one_cell H13.out
  clear ho hbb hgr hat
  refine hK.out _ _ ⟨t1, (two_cells ((HG3.out.block w.heap.size (blk_lt (blk_below HX.out HB2.out)) (HNX.out)).trans (blk_below HX.out HB2.out))).1, (two_cells ((HG3.out.block w.heap.size (blk_lt (blk_below HX.out HB2.out)) (HNX.out)).trans (blk_below HX.out HB2.out))).2.1⟩ (fun hHeld => ?_)
  clear hK K
  refine norm_ (a' := ?_) ?_ ?_
  rotate_left
  · show Act.put _ (some 14) _ = _
    simp only [Act.put, List.setIfInBounds_toArray, List.set_cons_zero, List.set_cons_succ, i64_w, i32_w]
    rfl
  refine last_ (i := 9) (N := none) #[true, true, true, true, true, true, true, true, true, true] rfl rfl (by kernel_rfl) (by decide) (fun K hK => ?_)
  refine skip_ (w1 := ?_) (by rfl) rfl ?_ ?_
  rotate_left
  · go_simp
    rfl
  refine hK.out _ _ ?_
  clear hK K
  refine done_ (by kernel_rfl) ?_
  have HPW := Lib.hid (show Below base w w3 from HB3.out)
  have hq0 := Below.heap_setCell w3 ⟨p1, 0, none⟩ (.slice LB (l.length+1) ld) p2 (show p2 ≠ p1 by have := HNE.out; omega)
  have h23 := (HG3.out.block p2 (blk_lt (blk_below H2.out HB2.out)) (Kd.R_ne (Kd.R_below HR1.out HB2.out) (blk_below H2.out HB2.out) (by decide))).trans (blk_below H2.out HB2.out)
  have H23 := Lib.hid h23
  obtain ⟨y1, y2⟩ := one_cell (hq0.trans h23)
  have HQ := Lib.hid hq0
  clear hq0 h23
  go_wp2
  go_end0
  refine ⟨rfl, ⟨⟨.slice LB (l.length+1) ld, ?_, ?_⟩, ?_⟩, ?_⟩
  · rw [Below.heap_setCell _ _ _ _ (show p1 ≠ p2 by have := HNE.out; omega)]
    exact one_set H13.out
  · have h := HR3.out
    exact Kd.R_set (Kd.R_set h H13.out (by decide) 0 (.slice LB (l.length+1) ld)) (HQ.out.trans H23.out) (by decide) 0 (.int .i64 (a' : Int))
  · exact one_set (HQ.out.trans H23.out)
  · refine ⟨(HPW.out.setCell HB0.out _).setCell (Nat.le_trans HB0.out (Nat.le_of_lt HNE.out)) _, fun k cells hk => ?_, fun b0 v M hM => ?_⟩
    · have k2 := blk_below (blk_below hk HB1.out) HB2.out
      have k3 := (HG3.out.block k (blk_lt k2) (Kd.R_ne (Kd.R_below HR1.out HB2.out) k2 (by decide))).trans k2
      have n1 : k ≠ p1 := blk_types k3 H13.out (by decide)
      have n2 : k ≠ p2 := blk_types k3 H23.out (by decide)
      exact (Below.heap_setCell _ _ _ _ n2).trans ((Below.heap_setCell _ _ _ _ n1).trans k3)
    · have m2 := Kd.R_over (Kd.R_below (Kd.R_below hM HB1.out) HB2.out) (Kd.R_below HR1.out HB2.out) (by decide) HG3.out
      exact Kd.R_set (Kd.R_set m2 H13.out (by decide) 0 (.slice LB (l.length+1) ld)) (HQ.out.trans H23.out) (by decide) 0 (.int .i64 (a' : Int))
end Go.Proofs.Ytomildjihlbbmaa
