/-
  alive of the vault's law: one field, added to an empty file, is a file of thirteen bytes.
-/
import Derived.Test.YtomildjihlbbmaaSlm
namespace Go.Proofs.Ytomildjihlbbmaa
open Go.RowKit Flt Num Go.Proofs.YtomildjihlbbmaaW.PrintWords Go.Proofs.YtomildjihlbbmaaW.PrintLast Go.Proofs.YtomildjihlbbmaaW.PrintMore Go.Proofs.Ytomildjihlbbmaa.PVaultReads
set_option linter.unusedVariables false
set_option linter.unusedSimpArgs false
attribute [local go_sem] run_f64bits run_f64from run_f32bits run_f32from
def rec31 : List Int := [0, 0, 0, 5, 1, 181, 197, 217, 0, 2, 1, 6, 1]
theorem body31 : bodyL none (1, L31) = [0, 2, 1, 6, 1] := by
  unfold bodyL
  dsimp only
  rw [short31]
theorem recL31 : recL none (1, L31) = rec31 := by
  unfold recL
  rw [body31]
  decide
theorem fok31 : FOk (1, L31) := ⟨by decide, rfl, packs_fixed.words⟩
theorem next31 : IsNext none rec31 (1, L31) 13 := by
  refine ⟨by decide, by decide, by decide, 1, L31, packs_fixed, ?_, recL31⟩
  rw [if_neg (by decide)]
theorem cut31 : cutAll rec31 = ([(1, L31)], 13) := by
  have h : CutS rec31 [(1, L31)] 13 := (CutS.start rec31).next (by decide) next31 (by decide)
  exact h.none (by decide) (fun f n => no_next_short (by decide) f n)
theorem cut_nil : cutAll [] = ([], 0) := (CutS.start []).none (by decide) (fun f n => no_next_short (by decide) f n)
theorem bytes31 : Bytes rec31 := by intro c hc; simp [rec31] at hc; omega
theorem kb_nil (w : World) : kb.C w none 0 [] := Kd.C_of_reads (enc := Value.int .u8) (d := (0 : Int)) (h1 := fun _ => rfl) ⟨rfl, by decide, fun h => absurd h (by decide)⟩
theorem bytes_R {w : World} {base : Nat} {ok : Nat → Prop} {v : Value} {l : List Int} (h : kb.R 5 w base ok v l) (hp : 0 < l.length) :
    ∃ g cap, v = .slice (some ⟨g, 0, none⟩) l.length cap ∧ l.length ≤ cap ∧ kb.C w (some ⟨g, 0, none⟩) l.length l ∧ ∀ j, j < l.length → w.cell? ⟨g, j, none⟩ = some (.int .u8 (l.getD j 0)) := by
  obtain ⟨g, cap, rfl, -⟩ := Kd.R_form h hp
  have h2 := Kd.R_reads' h
  have hr := Kd.reads_of_C (enc := Value.int .u8) (d := (0 : Int)) (h1 := fun _ => rfl) h2.2.2
  obtain ⟨ad, e, hc⟩ := hr.2.2 hp
  injection e with e
  subst e
  refine ⟨g, cap, rfl, h2.2.1, h2.2.2, fun j hj => ?_⟩
  have := hc j hj
  have e1 : (⟨g, 0, none⟩ : Addr).add j = ⟨g, j, none⟩ := by unfold Addr.add; split <;> simp_all
  rwa [e1] at this
set_option maxHeartbeats 2000000 in
set_option maxRecDepth 100000 in
theorem way31 (A : Option Addr) (c : Nat) (w : World) (hC : kc.C w A 1 L31) :
    Calls Try.prog 39 #[.agg #[.int .i64 1, .slice A 1 c]] w fun e w' => e = .returned (.tuple #[.int .i64 2, .int .i64 0]) ∧ Below w.heap.size w w' := by
  have HC := Lib.hid hC
  have HX1 := Lib.hid (heap_alloc_new w (.cells #[.int .i64 1, .slice A 1 c] 26))
  have HB1 := Lib.hid (show Below w.heap.size w (w.alloc (.cells #[.int .i64 1, .slice A 1 c] 26)) from below_alloc (Below.refl _ _) _)
  clear hC
  go_enter Try.func39, Try.ntmps39
  go_wp2_with (first | ((with_reducible refine gate_dst (N := 4) rfl ?_); refine load_grid rfl (.tmp 1) rfl (g := w.heap.size) ?hx (u := .int .i64 1) (v := .slice A 1 c) HX1.out ?_; (case hx => go_simp)))
  refine (right_yes 1 1 (by decide) rfl A c _).mono ?_
  rintro e w2 ⟨rfl, hb2⟩
  have HB2 := Lib.hid (HB1.out.trans (hb2.mono (HB1.out.size)))
  have HX2 := Lib.hid ((hb2.block _ (blk_lt HX1.out)).trans HX1.out)
  clear hb2
  go_wp2_with (first | ((with_reducible refine gate_dst (N := 7) rfl ?_); refine load_grid rfl (.tmp 1) rfl (g := w.heap.size) ?hx (u := .int .i64 1) (v := .slice A 1 c) HX2.out ?_; (case hx => go_simp)))
  refine (shortest_any ((1 : Nat) : Int) (by decide) A c L31 _ (Kd.C_below HC.out HB2.out) packs_fixed.words (by decide)).mono ?_
  rintro e w3 ⟨v, rfl, hb3, hr3⟩
  rw [short31] at hr3
  obtain ⟨g, cap, rfl, -, -, hcell⟩ := bytes_R hr3 (by decide)
  have h0 : w3.cell? ⟨g, 0, none⟩ = some (.int .u8 2) := hcell 0 (by decide)
  have HB3 := Lib.hid (HB2.out.trans (hb3.mono HB2.out.size))
  clear hb3 hr3 hcell
  go_wp2_with fail
  go_ret2
  exact ⟨rfl, HB3.out⟩
set_option maxHeartbeats 8000000 in
set_option maxRecDepth 100000 in
theorem add31 (A : Option Addr) (c : Nat) (w : World) (hC : kc.C w A 1 L31) :
    Calls Try.prog 30 #[.slice none 0 0, .agg #[.int .i64 1, .slice A 1 c]] w fun e w' => ∃ v, e = .returned (.tuple #[v, .int .i64 0]) ∧ Below w.heap.size w w' ∧ kb.R 5 w' w.heap.size (fun _ => True) v rec31 := by
  obtain ⟨w1, hw1⟩ : ∃ w1 : World, w1 = w.alloc (.cells #[.int .i64 1, .slice A 1 c] 26) := ⟨_, rfl⟩
  have HX1 := Lib.hid (show w1.heap[w.heap.size]? = some (.cells #[.int .i64 1, .slice A 1 c] 26 (0, 0)) by rw [hw1]; exact heap_alloc_new w _)
  have HB1 := Lib.hid (show Below w.heap.size w w1 by rw [hw1]; exact below_alloc (Below.refl _ _) _)
  have HC := Lib.hid hC
  have HW1 := Lib.hid hw1.symm
  clear hC hw1
  go_enter Try.func30, Try.ntmps30
  go_wp2_with fail
  rw [HW1.out]
  refine (slices_any none 0 [] w1 (kb_nil _) (Nat.le_refl _) (fun c hc => by cases hc)).mono ?_
  rintro e w2 ⟨hb2, ⟨hne, -⟩ | ⟨-, v, rfl, hr⟩⟩
  · exact (hne (by rw [cut_nil]; rfl)).elim
  rw [cut_nil] at hr
  obtain ⟨LA, lc, rfl⟩ := Kd.R_slice hr
  have HB2 := Lib.hid (HB1.out.trans (hb2.mono HB1.out.size))
  have HX2 := Lib.hid (blk_below HX1.out hb2)
  clear hb2 hr
  go_wp2_with (first | ((with_reducible refine gate_dst (N := 22) rfl ?_); refine load_grid rfl (.tmp 3) rfl (g := w.heap.size) ?hx (u := .int .i64 1) (v := .slice A 1 c) HX2.out ?_; (case hx => go_simp)))
  refine (way31 A c w2 (Kd.C_below HC.out HB2.out)).mono ?_
  rintro e w3 ⟨rfl, hb3⟩
  obtain ⟨w4, hw4⟩ : ∃ w4 : World, w4 = w3.alloc (.cells #[.int .i64 0, .slice none 0 0, .bool false] 79) := ⟨_, rfl⟩
  have HB34 := Lib.hid (show Below w3.heap.size w3 w4 by rw [hw4]; exact below_alloc (Below.refl _ _) _)
  have HB4 := Lib.hid ((HB2.out.trans (hb3.mono HB2.out.size)).trans (HB34.out.mono (Nat.le_trans HB2.out.size hb3.size)))
  have HX4 := Lib.hid (blk_below (blk_below HX2.out hb3) HB34.out)
  have HK4 := Lib.hid (show Kpr none w3.heap.size w4 by rw [hw4]; exact heap_alloc_new w3 _)
  have HP4 := Lib.hid (show w.heap.size ≤ w3.heap.size from Nat.le_trans HB2.out.size hb3.size)
  have HW4 := Lib.hid hw4.symm
  clear hb3 hw4
  go_upto_region 10 with (fail)
  rw [HW4.out]
  go_wp2_with (first | ((with_reducible refine gate_dst (N := 39) rfl ?_); refine load_grid rfl (.tmp 3) rfl (g := w.heap.size) ?hx (u := .int .i64 1) (v := .slice A 1 c) HX4.out ?_; (case hx => go_simp)))
  refine (record_any none w3.heap.size 1 A c L31 fok31 (fun g h => by cases h) w4 (Kd.C_below HC.out HB4.out) HK4.out).mono ?_
  rintro e w5 ⟨v, rfl, hr5, hb5, -, -⟩
  rw [recL31] at hr5
  have HB5 := Lib.hid (HB4.out.trans (hb5.mono HP4.out))
  obtain ⟨RA, rc, rfl⟩ := Kd.R_slice hr5
  have HR5 := Lib.hid (Kd.R_reads' hr5).2.2
  clear hb5 hr5
  have hlen : rec31.length = 13 := rfl
  rw [hlen]
  go_wp2_with (first
    | ((with_reducible refine gate_dst (N := 57) rfl ?_); refine make0 (w0 := w) w.heap.size rfl _ (.tmp 56) rfl rfl rfl (c := 13) rfl (by decide) HB5.out HB5.out.size ?_; intro w6 hr6 hb6 hg6; have HR6 := Lib.hid hr6; have HB6 := Lib.hid hb6; have HG6 := Lib.hid hg6; clear hr6 hb6 hg6)
    | ((with_reducible refine gate_builtin (b := .append) (xs := #[.tmp 58, .tmp 59]) rfl ?_); at_builtin; refine Kd.R_append_row (Value.int .u8) (0 : Int) (h1 := fun _ => rfl) (w0 := w) w.heap.size rfl (.tmp 58) (.tmp 59) 22 5 (.int .u8 0) 1 rfl Try.underlying22 info5 rfl (by decide) (.slice (some ⟨w5.heap.size, 0, none⟩) 0 13) [] [] none 0 0 (fun _ => True) rfl rfl (fun _ _ => trivial) HR6.out (kb_nil _) HB6.out HB6.out.size (by decide) ?_; intro v7 w7 hr7 hb7 hg7 hat; obtain ⟨SA, sc, hv7⟩ := Kd.R_slice hr7; subst hv7; have HR7 := Lib.hid hr7; have HB7 := Lib.hid hb7; have HG7 := Lib.hid hg7; clear hr7 hb7 hg7 hat)
    | ((with_reducible refine gate_builtin (b := .append) (xs := #[.tmp 60, .tmp 61]) rfl ?_); at_builtin; refine Kd.R_append_row (Value.int .u8) (0 : Int) (h1 := fun _ => rfl) (w0 := w) w.heap.size rfl (.tmp 60) (.tmp 61) 22 5 (.int .u8 0) 1 rfl Try.underlying22 info5 rfl (by decide) (.slice SA 0 sc) [] rec31 RA 13 rc (fun _ => True) rfl rfl (fun _ _ => trivial) HR7.out ?aR HB7.out HB7.out.size (by decide) ?_; (case aR => exact Kd.C_below HR5.out ((below_of_grown_none HG6.out).grown HG7.out (below_of_grown_none HG6.out).size (fun k e => by simp [Value.ownBlock] at e; omega))); intro v8 w8 hr8 hb8 hg8 hat; have HR8 := Lib.hid (show kb.R 5 w8 w.heap.size (fun _ => True) v8 rec31 from hr8); have HB8 := Lib.hid hb8; clear hr8 hb8 hg8 hat))
  go_ret2
  exact ⟨v8, rfl, HB8.out, HR8.out⟩
set_option maxHeartbeats 8000000 in
set_option maxRecDepth 100000 in
theorem alive22 (w : World) : Calls Try.prog 9 #[] w fun e w' => e = .returned (.bool true) ∧ Below w.heap.size w w' := by
  go_enter Try.func9, Try.ntmps9
  go_wp2_with fail
  obtain ⟨w1, hw1⟩ : ∃ w1 : World, w1 = w.alloc (.cells #[.complex .f64 4613937818241073152 13830554455654793216] 42) := ⟨_, rfl⟩
  rw [← hw1]
  have HB1 := Lib.hid (show Below w.heap.size w w1 by rw [hw1]; exact below_alloc (Below.refl _ _) _)
  have HX1 := Lib.hid (show w1.heap[w.heap.size]? = some (.cells #[.complex .f64 4613937818241073152 13830554455654793216] 42) by rw [hw1]; exact heap_alloc_new w _)
  clear hw1
  refine (add31 (some ⟨w.heap.size, 0, none⟩) 1 w1 (C_one HX1.out)).mono ?_
  rintro e w2 ⟨v, rfl, hb2, hr2⟩
  have HB2 := Lib.hid (HB1.out.trans (hb2.mono HB1.out.size))
  obtain ⟨g, cap, rfl, hcap, hC, hcell⟩ := bytes_R hr2 (by decide)
  have HCAP := Lib.hid hcap
  have HC := Lib.hid hC
  have H3 := Lib.hid (show w2.cell? ⟨g, 3, none⟩ = some (.int .u8 5) from hcell 3 (by decide))
  have H8 := Lib.hid (show w2.cell? ⟨g, 8, none⟩ = some (.int .u8 0) from hcell 8 (by decide))
  clear hb2 hr2 hcap hC hcell
  go_wp2_with fail
  refine (cut_any (some ⟨g, 0, none⟩) cap rec31 w2 HC.out HCAP.out bytes31).mono ?_
  rintro e w3 ⟨hb3, rfl⟩
  have HB3 := Lib.hid (HB2.out.trans (hb3.mono HB2.out.size))
  have c3 := pw_cell_below hb3 H3.out
  have c8 := pw_cell_below hb3 H8.out
  clear hb3
  rw [cut31]
  have hlen : rec31.length = 13 := rfl
  have hl1 : ([(1, L31)] : List Fld).length = 1 := rfl
  rw [hlen]
  simp only [hl1]
  clear hlen hl1
  go_wp2_with fail
  obtain ⟨w4, hw4⟩ : ∃ w4 : World, w4 = w3.alloc (.cells #[.int .u8 0] 5) := ⟨_, rfl⟩
  have hR := lit_R1 w3 0 w.heap.size HB3.out.size
  rw [← hw4] at hR
  have HB4 := Lib.hid (show Below w.heap.size w w4 by rw [hw4]; exact HB3.out.alloc HB3.out.size _)
  have HR4 := Lib.hid (Kd.R_reads' hR).2.2
  rw [← hw4]
  clear hw4 hR
  refine (vsum_any (some ⟨w3.heap.size, 0, none⟩) 1 [0] w4 HR4.out (by decide) (by intro c hc; simp at hc; omega) (by decide)).mono ?_
  rintro e w5 ⟨rfl, ⟨n5, rfl⟩⟩
  have hsum : sumB [0] = 31 := by decide
  rw [hsum]
  go_wp2_with fail
  go_ret
  exact ⟨rfl, below_drewN HB4.out n5⟩
end Go.Proofs.Ytomildjihlbbmaa
