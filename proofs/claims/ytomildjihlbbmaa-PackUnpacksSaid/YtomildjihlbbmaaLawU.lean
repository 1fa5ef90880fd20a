/-
  PackUnpacks: the law returns true for any bytes.
-/
import Derived.Test.YtomildjihlbbmaaJoi
namespace Go.Proofs.Ytomildjihlbbmaa
open Go.RowKit Flt Num Go.Proofs.YtomildjihlbbmaaW.PrintWords Go.Proofs.YtomildjihlbbmaaW.PrintLast Go.Proofs.YtomildjihlbbmaaW.PrintMore Go.Proofs.Ytomildjihlbbmaa.PPackUnpacks
set_option linter.unusedVariables false
attribute [local go_sem] run_f64bits run_f64from run_f32bits run_f32from
theorem lit_R0 (W : World) (base : Nat) (h : base ≤ W.heap.size) : kb.R 5 (W.alloc (.cells #[] 5)) base (fun _ => True) (.slice (some ⟨W.heap.size, 0, none⟩) 0 0) [] := lit_R W [] base h (by simp)
theorem kc_nil (w : World) : kc.C w none 0 [] :=
  Kd.C_of_reads (enc := fun x : Nat × Nat => Value.complex .f64 x.1 x.2) (d := ((0, 0) : Nat × Nat)) (h1 := fun _ => rfl) ⟨rfl, by decide, fun h => absurd h (by decide)⟩
theorem blk_kept_below {W W' : World} {g : Nat} {o : Obj} (h : W.heap[g]? = some o) (hb : Below W.heap.size W W') : W'.heap[g]? = some o := (hb.block _ (blk_lt h)).trans h
set_option maxHeartbeats 4000000 in
set_option maxRecDepth 100000 in
theorem unpacks_any (A : Option Addr) (c : Nat) (b : List Int) (w : World) (hA : kb.C w A b.length b) (hc : b.length ≤ c) (hb : Bytes b) (hl : b.length ≤ 140737488351232) :
    Calls Try.prog 3 #[.slice A b.length c] w fun e w' => e = .returned (.bool true) ∧ Below w.heap.size w w' := by
  have HA := Lib.hid hA
  have HC := Lib.hid hc
  have HBY := Lib.hid hb
  have HL := Lib.hid hl
  clear hA hc hb hl
  go_enter Try.func3, Try.ntmps3
  go_wp2_with fail
  refine (alive21 w).mono ?_
  rintro e w1 ⟨rfl, hb1⟩
  have HB1 := Lib.hid hb1
  clear hb1
  go_wp2_with (first | ((with_reducible refine gate_builtin (b := .append) (xs := #[.tmp 10, .tmp 11]) rfl ?_); at_builtin; refine Kd.R_append_row (Value.int .u8) (0 : Int) (h1 := fun _ => rfl) (w0 := w) w.heap.size rfl (.tmp 10) (.tmp 11) 22 5 (.int .u8 0) 1 rfl Try.underlying22 info5 rfl (by decide) (.slice (some ⟨w1.heap.size, 0, none⟩) 0 0) [] b A b.length c (fun _ => True) rfl rfl (fun _ _ => trivial) ?aO ?aR ?aB ?aS ?aL ?_; (case aO => exact lit_R0 w1 _ HB1.out.size); (case aR => exact Kd.C_below HA.out (HB1.out.alloc HB1.out.size _)); (case aB => exact HB1.out.alloc HB1.out.size _); (case aS => exact (HB1.out.alloc HB1.out.size _).size); (case aL => exact (by have := HL.out; simp; omega)); intro v2 w2 hr2 hb2 hgr hat; have HB2 := Lib.hid hb2; have HR2 := Lib.hid hr2; clear hr2 hb2 hgr hat))
  have hr2 := HR2.out
  rw [List.nil_append] at hr2
  obtain ⟨GA, gc, rfl, hgle, hGC⟩ := Kd.R_reads hr2
  have HG := Lib.hid hGC
  have HGL := Lib.hid hgle
  clear hr2 HR2 hGC hgle
  refine (unpack_any GA gc b w2 HG.out HGL.out HBY.out).mono ?_
  rintro e w3 ⟨hb3, hor⟩
  have HB3 := Lib.hid (HB2.out.trans (hb3.mono HB2.out.size))
  have HG3 := Lib.hid (Kd.C_below HG.out hb3)
  clear hb3
  have hst : ((strOfNums b).toList == (strOfNums b).toList) = true := beq_self_eq_true _
  have HST := Lib.hid hst
  clear hst
  rcases hor with ⟨rfl, hno⟩ | ⟨N, L, A1, c1, hp, hu, rfl, hC3⟩
  · have HNO := Lib.hid hno
    clear hno
    go_wp2_with fail
    obtain ⟨w4, hw4⟩ : ∃ w4 : World, w4 = w3.alloc (.cells #[.int .i64 0, .slice none 0 0] 26) := ⟨_, rfl⟩
    rw [← hw4]
    have HX4 := Lib.hid (show w4.heap[w3.heap.size]? = some (.cells #[.int .i64 0, .slice none 0 0] 26) by rw [hw4]; exact heap_alloc_new w3 _)
    have HB34 := Lib.hid (show Below w3.heap.size w3 w4 by rw [hw4]; exact below_alloc (Below.refl _ _) _)
    have HB4 := Lib.hid (HB3.out.trans (HB34.out.mono HB3.out.size))
    have HG4 := Lib.hid (Kd.C_below HG3.out HB34.out)
    clear hw4
    refine (runpack_any A c b w4 (Kd.C_below HA.out HB4.out) HC.out HBY.out).mono ?_
    rintro e w5 ⟨hb5, ⟨rfl, -⟩ | ⟨N, L, A2, c2, hp2, -, -, -⟩⟩
    · skip
      have HB5 := Lib.hid (HB4.out.trans (hb5.mono HB4.out.size))
      have HX5 := Lib.hid (blk_kept_below HX4.out hb5)
      have HG5 := Lib.hid (Kd.C_below HG4.out hb5)
      clear hb5
      go_wp2_with (first
        | ((with_reducible refine gate_dst (N := 27) rfl ?_); refine gate_guard ?hgd ?_; (case hgd => go_simp); refine load_grid rfl (.tmp 4) rfl (g := w3.heap.size) ?hx (u := .int .i64 0) (v := .slice none 0 0) (blk_kept_below HX5.out (below_alloc (Below.refl _ w5) _)) ?_; (case hx => go_simp))
        | ((with_reducible refine gate_dst (N := 28) rfl ?_); refine gate_guard ?hgd ?_; (case hgd => go_simp); refine load_grid rfl (.tmp 6) rfl (g := w5.heap.size) ?hx (u := .int .i64 0) (v := .slice none 0 0) (heap_alloc_new w5 _) ?_; (case hx => go_simp)))
      refine (sameBits_any 0 none none 0 0 [] _ (kc_nil _) (kc_nil _)).mono ?_
      rintro e w6 ⟨rfl, hb6⟩
      have HB6 := Lib.hid ((HB5.out.alloc HB5.out.size _).trans (hb6.mono (HB5.out.alloc HB5.out.size _).size))
      have hcv1 := Kd.C_string (P := Try.prog) (A := GA) (c := gc) Try.underlying22 Try.underlying5 Try.underlying9 (Kd.C_below (Kd.C_below HG5.out (below_alloc (Below.refl _ w5) _)) hb6)
      have hcv2 := Kd.C_string (P := Try.prog) (A := A) (c := c) Try.underlying22 Try.underlying5 Try.underlying9 (Kd.C_below HA.out HB6.out)
      have hst := HST.out
      clear hb6
      go_wp2_with fail
      go_ret
      exact ⟨rfl, HB6.out⟩
    · exact (HNO.out _ _ hp2).elim
  · have HP := Lib.hid hp
    have HU := Lib.hid hu
    have HC3 := Lib.hid hC3
    clear hp hu hC3
    go_wp2_with fail
    obtain ⟨w4, hw4⟩ : ∃ w4 : World, w4 = w3.alloc (.cells #[.int .i64 N, .slice A1 L.length c1] 26) := ⟨_, rfl⟩
    rw [← hw4]
    have HX4 := Lib.hid (show w4.heap[w3.heap.size]? = some (.cells #[.int .i64 N, .slice A1 L.length c1] 26) by rw [hw4]; exact heap_alloc_new w3 _)
    have HB34 := Lib.hid (show Below w3.heap.size w3 w4 by rw [hw4]; exact below_alloc (Below.refl _ _) _)
    have HB4 := Lib.hid (HB3.out.trans (HB34.out.mono HB3.out.size))
    have HG4 := Lib.hid (Kd.C_below HG3.out HB34.out)
    clear hw4
    refine (runpack_any A c b w4 (Kd.C_below HA.out HB4.out) HC.out HBY.out).mono ?_
    rintro e w5 ⟨hb5, ⟨-, hno2⟩ | ⟨N2, L2, A2, c2, hp2, -, rfl, hD5⟩⟩
    · exact (hno2 _ _ HP.out).elim
    · obtain ⟨e1, e2⟩ := HU.out _ _ hp2
      subst N2
      subst L2
      clear hp2 HU HP
      have HB5 := Lib.hid (HB4.out.trans (hb5.mono HB4.out.size))
      have HX5 := Lib.hid (blk_kept_below HX4.out hb5)
      have HG5 := Lib.hid (Kd.C_below HG4.out hb5)
      have HC5 := Lib.hid (Kd.C_below (Kd.C_below HC3.out HB34.out) hb5)
      have HD5 := Lib.hid hD5
      clear hb5
      go_wp2_with (first
        | ((with_reducible refine gate_dst (N := 27) rfl ?_); refine gate_guard ?hgd ?_; (case hgd => go_simp); refine load_grid rfl (.tmp 4) rfl (g := w3.heap.size) ?hx (u := .int .i64 (N : Int)) (v := .slice A1 L.length c1) (blk_kept_below HX5.out (below_alloc (Below.refl _ w5) _)) ?_; (case hx => go_simp))
        | ((with_reducible refine gate_dst (N := 28) rfl ?_); refine gate_guard ?hgd ?_; (case hgd => go_simp); refine load_grid rfl (.tmp 6) rfl (g := w5.heap.size) ?hx (u := .int .i64 (N : Int)) (v := .slice A2 L.length c2) (heap_alloc_new w5 _) ?_; (case hx => go_simp)))
      refine (sameBits_any (N : Int) A1 A2 c1 c2 L _ (Kd.C_below HC5.out (below_alloc (Below.refl _ w5) _)) (Kd.C_below HD5.out (below_alloc (Below.refl _ w5) _))).mono ?_
      rintro e w6 ⟨rfl, hb6⟩
      have HB6 := Lib.hid ((HB5.out.alloc HB5.out.size _).trans (hb6.mono (HB5.out.alloc HB5.out.size _).size))
      have hcv1 := Kd.C_string (P := Try.prog) (A := GA) (c := gc) Try.underlying22 Try.underlying5 Try.underlying9 (Kd.C_below (Kd.C_below HG5.out (below_alloc (Below.refl _ w5) _)) hb6)
      have hcv2 := Kd.C_string (P := Try.prog) (A := A) (c := c) Try.underlying22 Try.underlying5 Try.underlying9 (Kd.C_below HA.out HB6.out)
      have hst := HST.out
      clear hb6
      go_wp2_with fail
      go_ret
      exact ⟨rfl, HB6.out⟩
end Go.Proofs.Ytomildjihlbbmaa
