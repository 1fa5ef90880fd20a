/-
  VaultReads: the law returns true for any bytes and any index.
-/
import Derived.Test.YtomildjihlbbmaaAdd
namespace Go.Proofs.Ytomildjihlbbmaa
open Go.RowKit Flt Num Go.Proofs.YtomildjihlbbmaaW.PrintWords Go.Proofs.YtomildjihlbbmaaW.PrintLast Go.Proofs.YtomildjihlbbmaaW.PrintMore Go.Proofs.Ytomildjihlbbmaa.PVaultReads
set_option linter.unusedVariables false
set_option linter.unusedSimpArgs false
attribute [local go_sem] run_f64bits run_f64from run_f32bits run_f32from
noncomputable def slcE (b : List Int) : Int := if (cutAll b).2 = b.length then 0 else 220
noncomputable def slcL (b : List Int) : List Fld := if (cutAll b).2 = b.length then (cutAll b).1 else []
noncomputable def getE (b : List Int) (i : Int) : Int := if (cutAll b).2 = b.length then (if i < 0 ∨ ((cutAll b).1.length : Int) ≤ i then 1 else 0) else 220
noncomputable def getF (b : List Int) (i : Int) : Fld := if (cutAll b).2 = b.length then (if i < 0 ∨ ((cutAll b).1.length : Int) ≤ i then (0, []) else (cutAll b).1.getD i.toNat (0, [])) else (0, [])
theorem cutF_len (b : List Int) : ∀ (k : Nat) (l : List Fld) (a : Nat), l.length + k ≤ 64 → (cutF b k l a).1.length ≤ 64
  | 0, l, a, h => by unfold cutF; exact h
  | k + 1, l, a, h => by
    unfold cutF
    split
    · split
      · exact cutF_len b k _ _ (by rw [List.length_append, List.length_singleton]; omega)
      · dsimp only; omega
    · dsimp only; omega
theorem slc_out {b : List Int} {w w' : World} {e : Ending} (h : SlcOut b w e w') :
    Below w.heap.size w w' ∧ ∃ v, e = .returned (.tuple #[v, .int .i64 (slcE b)]) ∧ kg.R 26 w' w.heap.size (fun _ => True) v (slcL b) := by
  obtain ⟨hb, ⟨hne, rfl⟩ | ⟨he, v, rfl, hr⟩⟩ := h
  · refine ⟨hb, .slice none 0 0, by unfold slcE; rw [if_neg hne], ?_⟩
    unfold slcL
    rw [if_neg hne]
    exact Kd.R_nil _ _ _ _ _
  · refine ⟨hb, v, by unfold slcE; rw [if_pos he], ?_⟩
    unfold slcL
    rw [if_pos he]
    exact hr
theorem kcn (w : World) : kc.C w none 0 [] := Kd.C_of_reads (enc := fun x : Nat × Nat => Value.complex .f64 x.1 x.2) (d := ((0, 0) : Nat × Nat)) (h1 := fun _ => rfl) ⟨rfl, by decide, fun h => absurd h (by decide)⟩
theorem get_out {b : List Int} {i : Int} {w w' : World} {e : Ending} (h : GetOut b i w e w') :
    Below w.heap.size w w' ∧ ∃ B c, e = .returned (.tuple #[.agg #[.int .i64 ((getF b i).1 : Int), .slice B (getF b i).2.length c], .int .i64 (getE b i)]) ∧ kc.C w' B (getF b i).2.length (getF b i).2 := by
  obtain ⟨hb, ⟨hne, rfl⟩ | ⟨he, hi, rfl⟩ | ⟨he, hi, B, c, rfl, hC⟩⟩ := h
  · have hf : getF b i = (0, []) := by unfold getF; rw [if_neg hne]
    refine ⟨hb, none, 0, ?_, ?_⟩
    · rw [hf]; unfold getE; rw [if_neg hne]; rfl
    · rw [hf]; exact kcn _
  · have hf : getF b i = (0, []) := by unfold getF; rw [if_pos he, if_pos hi]
    refine ⟨hb, none, 0, ?_, ?_⟩
    · rw [hf]; unfold getE; rw [if_pos he, if_pos hi]; rfl
    · rw [hf]; exact kcn _
  · have hf : getF b i = (cutAll b).1.getD i.toNat (0, []) := by unfold getF; rw [if_pos he, if_neg hi]
    refine ⟨hb, B, c, ?_, ?_⟩
    · rw [hf]; unfold getE; rw [if_pos he, if_neg hi]
    · rw [hf]; exact hC
theorem slcL_len (b : List Int) : (slcL b).length ≤ 64 := by
  unfold slcL
  split
  · exact cutF_len b 64 [] 0 (by decide)
  · simp
theorem lit_R0v (W : World) (base : Nat) (h : base ≤ W.heap.size) : kb.R 5 (W.alloc (.cells #[] 5)) base (fun _ => True) (.slice (some ⟨W.heap.size, 0, none⟩) 0 0) [] := lit_R W [] base h (by simp)
set_option maxHeartbeats 8000000 in
set_option maxRecDepth 100000 in
theorem vault_any (A : Option Addr) (c : Nat) (b : List Int) (i : Int) (w : World) (hA : kb.C w A b.length b) (hc : b.length ≤ c) (hb : Bytes b) (hl : b.length ≤ 140737488351232) :
    Calls Try.prog 4 #[.slice A b.length c, .int .i64 i] w fun e w' => e = .returned (.bool true) ∧ Below w.heap.size w w' := by
  have HA := Lib.hid hA
  have HC := Lib.hid hc
  have HBY := Lib.hid hb
  have HL := Lib.hid hl
  have HLL := Lib.hid (slcL_len b)
  have hst : ((strOfNums b).toList == (strOfNums b).toList) = true := beq_self_eq_true _
  have HST := Lib.hid hst
  obtain ⟨E1, hE1⟩ : ∃ E, E = slcE b := ⟨_, rfl⟩
  obtain ⟨l, hl1⟩ : ∃ l, l = slcL b := ⟨_, rfl⟩
  obtain ⟨E2, hE2⟩ : ∃ E, E = getE b i := ⟨_, rfl⟩
  obtain ⟨⟨N, L⟩, hF⟩ : ∃ f, f = getF b i := ⟨_, rfl⟩
  obtain ⟨n1, hn1⟩ : ∃ n : Int, n = ((cutAll b).1.length : Int) := ⟨_, rfl⟩
  obtain ⟨n2, hn2⟩ : ∃ n : Int, n = ((cutAll b).2 : Int) := ⟨_, rfl⟩
  have HE1 := Lib.hid hE1
  have Hl1 := Lib.hid hl1
  have HE2 := Lib.hid hE2
  have HF := Lib.hid hF
  have Hn1 := Lib.hid hn1
  have Hn2 := Lib.hid hn2
  clear hA hc hb hl hst hE1 hl1 hE2 hF hn1 hn2
  go_enter Try.func4, Try.ntmps4
  go_wp2_with fail
  refine (alive22 w).mono ?_
  rintro e w1 ⟨rfl, hb1⟩
  have HB1 := Lib.hid hb1
  clear hb1
  go_wp2_with (first | ((with_reducible refine gate_builtin (b := .append) (xs := #[.tmp 20, .tmp 21]) rfl ?_); at_builtin; refine Kd.R_append_row (Value.int .u8) (0 : Int) (h1 := fun _ => rfl) (w0 := w) w.heap.size rfl (.tmp 20) (.tmp 21) 22 5 (.int .u8 0) 1 rfl Try.underlying22 info5 rfl (by decide) (.slice (some ⟨w1.heap.size, 0, none⟩) 0 0) [] b A b.length c (fun _ => True) rfl rfl (fun _ _ => trivial) ?aO ?aR ?aB ?aS ?aL ?_; (case aO => exact lit_R0v w1 _ HB1.out.size); (case aR => exact Kd.C_below HA.out (HB1.out.alloc HB1.out.size _)); (case aB => exact HB1.out.alloc HB1.out.size _); (case aS => exact (HB1.out.alloc HB1.out.size _).size); (case aL => exact (by have := HL.out; simp; omega)); intro v2 w2 hr2 hb2 hgr hat; have HB2 := Lib.hid hb2; have HR2 := Lib.hid hr2; clear hr2 hb2 hgr hat))
  have hr2 := HR2.out
  rw [List.nil_append] at hr2
  obtain ⟨GA, gc, rfl, hgle, hGC⟩ := Kd.R_reads hr2
  have HG := Lib.hid hGC
  have HGL := Lib.hid hgle
  clear hr2 HR2 hGC hgle
  refine (slices_any GA gc b w2 HG.out HGL.out HBY.out).mono ?_
  intro e w3 h3
  obtain ⟨hb3, v3, rfl, hr3⟩ := slc_out h3
  rw [← Hl1.out] at hr3
  rw [← HE1.out]
  obtain ⟨V3, k3, rfl⟩ := Kd.R_slice hr3
  have HB3 := Lib.hid (HB2.out.trans (hb3.mono HB2.out.size))
  have HG3 := Lib.hid (Kd.C_below HG.out hb3)
  have HR3 := Lib.hid hr3
  clear hb3 hr3 h3
  go_wp2_with fail
  refine (rslices_any A c b w3 (Kd.C_below HA.out HB3.out) HC.out HBY.out).mono ?_
  intro e w4 h4
  obtain ⟨hb4, v4, rfl, hr4⟩ := slc_out h4
  rw [← Hl1.out] at hr4
  rw [← HE1.out]
  obtain ⟨V4, k4, rfl⟩ := Kd.R_slice hr4
  have HB4 := Lib.hid (HB3.out.trans (hb4.mono HB3.out.size))
  have HG4 := Lib.hid (Kd.C_below HG3.out hb4)
  have HR34 := Lib.hid (Kd.R_below HR3.out hb4)
  have HR4 := Lib.hid hr4
  clear hb4 hr4 h4 HG3 HR3
  go_wp2_with fail
  refine (get_any GA gc b i w4 HG4.out HGL.out HBY.out).mono ?_
  intro e w5 h5
  obtain ⟨hb5, B5, k5, rfl, hc5⟩ := get_out h5
  rw [← HF.out] at hc5
  rw [← HE2.out, ← HF.out]
  obtain ⟨w6, hw6⟩ : ∃ w6 : World, w6 = w5.alloc (.cells #[.int .i64 N, .slice B5 L.length k5] 26) := ⟨_, rfl⟩
  have HB56 := Lib.hid (show Below w5.heap.size w5 w6 by rw [hw6]; exact below_alloc (Below.refl _ _) _)
  have HX6 := Lib.hid (show w6.heap[w5.heap.size]? = some (.cells #[.int .i64 N, .slice B5 L.length k5] 26 (0, 0)) by rw [hw6]; exact heap_alloc_new w5 _)
  have HB46 := Lib.hid (hb5.trans (HB56.out.mono hb5.size))
  have HB6 := Lib.hid (HB4.out.trans (HB46.out.mono HB4.out.size))
  have HG6 := Lib.hid (Kd.C_below HG4.out HB46.out)
  have HR36 := Lib.hid (Kd.R_below HR34.out HB46.out)
  have HR46 := Lib.hid (Kd.R_below HR4.out HB46.out)
  have HC6 := Lib.hid (Kd.C_below hc5 HB56.out)
  have HW6 := Lib.hid hw6.symm
  clear hb5 hc5 h5 hw6 HG4 HR34 HR4
  go_upto_region 7 with (fail)
  rw [HW6.out]
  go_wp2_with fail
  refine (rget_any A c b i w6 (Kd.C_below HA.out HB6.out) HC.out HBY.out).mono ?_
  intro e w7 h7
  obtain ⟨hb7, B7, k7, rfl, hc7⟩ := get_out h7
  rw [← HF.out] at hc7
  rw [← HE2.out, ← HF.out]
  obtain ⟨w8, hw8⟩ : ∃ w8 : World, w8 = w7.alloc (.cells #[.int .i64 N, .slice B7 L.length k7] 26) := ⟨_, rfl⟩
  have HB78 := Lib.hid (show Below w7.heap.size w7 w8 by rw [hw8]; exact below_alloc (Below.refl _ _) _)
  have HY8 := Lib.hid (show w8.heap[w7.heap.size]? = some (.cells #[.int .i64 N, .slice B7 L.length k7] 26 (0, 0)) by rw [hw8]; exact heap_alloc_new w7 _)
  have HB68 := Lib.hid (hb7.trans (HB78.out.mono hb7.size))
  have HB8 := Lib.hid (HB6.out.trans (HB68.out.mono HB6.out.size))
  have HX8 := Lib.hid (blk_below HX6.out HB68.out)
  have HG8 := Lib.hid (Kd.C_below HG6.out HB68.out)
  have HR38 := Lib.hid (Kd.R_below HR36.out HB68.out)
  have HR48 := Lib.hid (Kd.R_below HR46.out HB68.out)
  have HC8 := Lib.hid (Kd.C_below HC6.out HB68.out)
  have HD8 := Lib.hid (Kd.C_below hc7 HB78.out)
  have HW8 := Lib.hid hw8.symm
  clear hb7 hc7 h7 hw8 HG6 HR36 HR46 HC6 HX6
  go_upto_region 8 with (fail)
  rw [HW8.out]
  go_wp2_with fail
  refine (cut_any GA gc b w8 HG8.out HGL.out HBY.out).mono ?_
  rintro e w9 ⟨hb9, rfl⟩
  rw [← Hn1.out, ← Hn2.out]
  have HB89 := Lib.hid hb9
  have HB9 := Lib.hid (HB8.out.trans (hb9.mono HB8.out.size))
  clear hb9
  go_wp2_with fail
  refine (rCut_any A c b w9 (Kd.C_below HA.out HB9.out) HC.out HBY.out).mono ?_
  rintro e w10 ⟨hb10, rfl⟩
  rw [← Hn1.out, ← Hn2.out]
  have HB810 := Lib.hid (HB89.out.trans (hb10.mono HB89.out.size))
  have HB10 := Lib.hid (HB9.out.trans (hb10.mono HB9.out.size))
  clear hb10
  go_wp2_with fail
  refine (sames_any V3 V4 k3 k4 _ _ l w10 (Kd.R_below HR38.out HB810.out) (Kd.R_below HR48.out HB810.out) (by rw [Hl1.out]; exact HLL.out)).mono ?_
  rintro e w11 ⟨rfl, hb11⟩
  have HB811 := Lib.hid (HB810.out.trans (hb11.mono HB810.out.size))
  have HB11 := Lib.hid (HB10.out.trans (hb11.mono HB10.out.size))
  have HX11 := Lib.hid (blk_below HX8.out HB811.out)
  have HY11 := Lib.hid (blk_below HY8.out HB811.out)
  clear hb11
  go_wp2_with (first
    | ((with_reducible refine gate_dst (N := 69) rfl ?_); refine gate_guard ?hgd ?_; (case hgd => go_simp); refine load_grid rfl (.tmp 10) rfl (g := w5.heap.size) ?hx (u := .int .i64 (N : Int)) (v := .slice B5 L.length k5) HX11.out ?_; (case hx => go_simp))
    | ((with_reducible refine gate_dst (N := 70) rfl ?_); refine gate_guard ?hgd ?_; (case hgd => go_simp); refine load_grid rfl (.tmp 12) rfl (g := w7.heap.size) ?hx (u := .int .i64 (N : Int)) (v := .slice B7 L.length k7) HY11.out ?_; (case hx => go_simp)))
  refine (sameBits_any (N : Int) B5 B7 k5 k7 L w11 (Kd.C_below HC8.out HB811.out) (Kd.C_below HD8.out HB811.out)).mono ?_
  rintro e w12 ⟨rfl, hb12⟩
  have HB12 := Lib.hid (HB11.out.trans (hb12.mono HB11.out.size))
  have hcv1 := Kd.C_string (P := Try.prog) (A := GA) (c := gc) Try.underlying22 Try.underlying5 Try.underlying9 (Kd.C_below (Kd.C_below HG8.out HB811.out) hb12)
  have hcv2 := Kd.C_string (P := Try.prog) (A := A) (c := c) Try.underlying22 Try.underlying5 Try.underlying9 (Kd.C_below HA.out HB12.out)
  have hst := HST.out
  clear hb12
  go_wp2_with fail
  go_ret
  exact ⟨rfl, HB12.out⟩
end Go.Proofs.Ytomildjihlbbmaa
