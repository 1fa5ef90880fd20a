/-
  Rows of fields; the last of a row; a part of bytes from a place on.
-/
import Derived.Test.YtomildjihlbbmaaRnx
namespace Go.Proofs.Ytomildjihlbbmaa
open Go.RowKit Flt Num Go.Proofs.YtomildjihlbbmaaW.PrintWords Go.Proofs.YtomildjihlbbmaaW.PrintLast Go.Proofs.YtomildjihlbbmaaW.PrintMore Go.Proofs.Ytomildjihlbbmaa.PVaultReads
set_option linter.unusedVariables false
set_option linter.unusedSimpArgs false
def kn : Kd Nat := Kd.iso (Kd.int .i64) (fun n : Nat => (n : Int))
def kg : Kd Fld := Kd.pair kn (Kd.slice 42 kc)
theorem und32 : Try.prog.underlying 32 = some (.slice 26) := by kernel_rfl
theorem info26 : (Try.prog.info? 26).map (fun i => (i.zero, i.size, i.bytes)) = some (some (.agg #[.int .i64 0, .slice none 0 0]), 2, 32) := by kernel_rfl
theorem kg_K {w : World} {x : Fld} {cs : List Value} (h : kg.K w x cs) : ∃ A c, cs = [.int .i64 (x.1 : Int), .slice A x.2.length c] ∧ x.2.length ≤ c ∧ kc.C w A x.2.length x.2 := by
  obtain ⟨c0, c1, rfl, h0, A, c, rfl, h1, h2⟩ := h
  have h0' : c0 = [.int .i64 (x.1 : Int)] := h0
  exact ⟨A, c, by rw [h0']; rfl, h1, h2⟩
theorem kg_M {w : World} {base : Nat} {ok : Nat → Prop} {N : Nat} {L : List (Nat × Nat)} {v : Value} (h : kc.R 42 w base ok v L) : kg.M w base ok (N, L) [.int .i64 (N : Int), v] := ⟨[.int .i64 (N : Int)], [v], rfl, rfl, v, rfl, h⟩
theorem kg_at {w : World} {A : Option Addr} {l : List Fld} (h : kg.C w A l.length l) (i : Nat) (hi : i < l.length) :
    ∃ ad B c, A = some ad ∧ w.cell? (ad.add (i * 2)) = some (.int .i64 ((l.getD i (0, [])).1 : Int)) ∧ w.cell? (ad.add (i * 2 + 1)) = some (.slice B (l.getD i (0, [])).2.length c) ∧ (l.getD i (0, [])).2.length ≤ c ∧ kc.C w B (l.getD i (0, [])).2.length (l.getD i (0, [])).2 := by
  obtain ⟨ad, cs, e, hl, hK, hc⟩ := Kd.C_get h ((0, []) : Fld) (i : Int) (by omega) (by omega)
  rw [Int.toNat_natCast] at hK hc
  obtain ⟨B, c, rfl, h1, h2⟩ := kg_K hK
  exact ⟨ad, B, c, e, hc 0 _ rfl, hc 1 _ rfl, h1, h2⟩
theorem last_getD {l : List Fld} {n : Nat} (h : l.length = n + 1) : l.getLast? = some (l.getD n (0, [])) := by
  rw [List.getLast?_eq_getElem?, h, Nat.add_sub_cancel, List.getElem?_eq_getElem (by omega)]
  simp [List.getD, show n < l.length by omega]
theorem lst_of_R {w : World} {base : Nat} {ok : Nat → Prop} {v : Value} {l : List Fld} (h : kg.R 26 w base ok v l) (hl : l.length ≤ 64) : Lst l.getLast? v w := by
  rcases Nat.eq_zero_or_pos l.length with h0 | hp
  · have e : l = [] := List.length_eq_zero_iff.1 h0
    subst e
    obtain ⟨A, c, e⟩ := Kd.R_slice h
    exact ⟨A, c, e⟩
  · obtain ⟨n, hn⟩ : ∃ n, l.length = n + 1 := ⟨l.length - 1, by omega⟩
    obtain ⟨g, cap, rfl, -⟩ := Kd.R_form h hp
    have hC := (Kd.R_reads' h).2.2
    obtain ⟨ad, B, c, e, h1, h2, h3, h4⟩ := kg_at hC n (by omega)
    injection e with e
    subst e
    rw [last_getD hn]
    have e1 : ∀ j, (⟨g, 0, none⟩ : Addr).add j = ⟨g, j, none⟩ := fun j => by unfold Addr.add; split <;> simp_all
    rw [e1] at h1 h2
    exact ⟨g, n, cap, B, c, by rw [hn], by omega, h1, h2, h4⟩
theorem slice_drop (A : Option Addr) (c : Nat) (b : List Int) (a : Nat) (hc : b.length ≤ c) (h2 : a ≤ b.length) :
    ∃ A', (∀ W : World, (Instr.slice 22 (.slice A b.length c) (some (.int .i64 (a : Int))) none none).run Try.prog W = .ok (.slice A' (b.drop a).length (c - a)) W) ∧
      (∀ w : World, kb.C w A b.length b → kb.C w A' (b.drop a).length (b.drop a)) ∧ (b.drop a).length ≤ c - a := by
  obtain ⟨i, hi, hsz⟩ := info5s
  obtain ⟨A', a1, a2, a3⟩ := print_drop_of (P := Try.prog) (Value.int .u8) (0 : Int) 22 5 .i64 Try.underlying22 hi hsz A c b (a : Int) (by omega) (by omega) hc
  rw [Int.toNat_natCast] at a1 a2 a3
  exact ⟨A', a1, fun w h => Kd.C_of_reads (enc := Value.int .u8) (d := (0 : Int)) (h1 := fun _ => rfl) (a2 w (Kd.reads_of_C (enc := Value.int .u8) (d := (0 : Int)) (h1 := fun _ => rfl) h)), a3⟩
/-- the state of a walk over the records: l has been told, a bytes -/
structure CutS (b : List Int) (l : List Fld) (a : Nat) : Prop where
  len : l.length ≤ 64
  place : a ≤ b.length
  small : a ≤ 1048576
  oks : ∀ f ∈ l, FOk f
  rest : cutF b (64 - l.length) l a = cutAll b
theorem CutS.start (b : List Int) : CutS b [] 0 := ⟨by simp, by omega, by omega, (fun f h => by cases h), rfl⟩
theorem CutS.last {b : List Int} {l : List Fld} {a : Nat} (h : CutS b l a) : ∀ g, l.getLast? = some g → FOk g := fun g e => h.oks g (List.mem_of_getLast? e)
theorem CutS.next {b : List Int} {l : List Fld} {a : Nat} {f : Fld} {n : Nat} (h : CutS b l a) (hl : l.length < 64) (hn : IsNext l.getLast? (b.drop a) f n) (hm : a + n ≤ 1048576) : CutS b (l ++ [f]) (a + n) := by
  have h3 : n ≤ (b.drop a).length := hn.2.2.1
  rw [List.length_drop] at h3
  have h4 := h.place
  refine ⟨by rw [List.length_append, List.length_singleton]; omega, by omega, hm, fun g hg => ?_, ?_⟩
  · rcases List.mem_append.1 hg with hg | hg
    · exact h.oks g hg
    · rw [List.mem_singleton.1 hg]; exact hn.ok h.last
  · have h5 := h.rest
    rw [show 64 - l.length = (64 - (l ++ [f]).length) + 1 from by rw [List.length_append, List.length_singleton]; omega, cutF_some hn hm] at h5
    exact h5
theorem CutS.full {b : List Int} {l : List Fld} {a : Nat} (h : CutS b l a) (hl : ¬ l.length < 64) : cutAll b = (l, a) := by
  have h5 := h.rest
  have := h.len
  rw [show 64 - l.length = 0 from by omega, cutF] at h5
  exact h5.symm
theorem CutS.long {b : List Int} {l : List Fld} {a : Nat} {f : Fld} {n : Nat} (h : CutS b l a) (hl : l.length < 64) (hn : IsNext l.getLast? (b.drop a) f n) (hm : ¬ a + n ≤ 1048576) : cutAll b = (l, a) := by
  have h5 := h.rest
  rw [show 64 - l.length = (63 - l.length) + 1 from by omega, cutF_long hn hm] at h5
  exact h5.symm
theorem CutS.none {b : List Int} {l : List Fld} {a : Nat} (h : CutS b l a) (hl : l.length < 64) (hn : ∀ f n, ¬ IsNext l.getLast? (b.drop a) f n) : cutAll b = (l, a) := by
  have h5 := h.rest
  rw [show 64 - l.length = (63 - l.length) + 1 from by omega, cutF_none hn] at h5
  exact h5.symm
end Go.Proofs.Ytomildjihlbbmaa

/-
  The reference's cut: the slices of the longest beginning that is a file, and its length.
-/
namespace Go.Proofs.Ytomildjihlbbmaa
open Go.RowKit Flt Num Go.Proofs.YtomildjihlbbmaaW.PrintWords Go.Proofs.YtomildjihlbbmaaW.PrintLast Go.Proofs.YtomildjihlbbmaaW.PrintMore Go.Proofs.Ytomildjihlbbmaa.PVaultReads
set_option linter.unusedVariables false
set_option linter.unusedSimpArgs false
attribute [local go_sem] run_f64bits run_f64from run_f32bits run_f32from
def CutOut (b : List Int) (w : World) (e : Ending) (w' : World) : Prop :=
  Below w.heap.size w w' ∧ ∃ v, e = .returned (.tuple #[v, .int .i64 ((cutAll b).2 : Int)]) ∧ kg.R 26 w' w.heap.size (fun _ => True) v (cutAll b).1
set_option maxHeartbeats 16000000 in
set_option maxRecDepth 100000 in
theorem rcut_any (A : Option Addr) (c : Nat) (b : List Int) (w : World) (hA : kb.C w A b.length b) (hc : b.length ≤ c) (hb : Bytes b) :
    Calls Try.prog 34 #[.slice A b.length c] w fun e w' => CutOut b w e w' := by
  have HA := Lib.hid hA
  have HC := Lib.hid hc
  have HBY := Lib.hid hb
  have HMAX := Lib.hid (show b.length ≤ 9223372036854775807 from Kd.C_max hA)
  clear hA hc hb
  go_enter Try.func34, Try.ntmps34
  go_wp2_with fail
  go_loopg [4, 5] 65 (fun gk v4 v5 wr => ∃ (a : Nat) (l : List Fld), v5 = .int .i64 (a : Int) ∧ Hid (l.length + gk = 65) ∧ Hid (CutS b l a) ∧ Hid (Below w.heap.size w wr) ∧ Hid (kg.R 26 wr w.heap.size (fun _ => True) v4 l))
  case atStart => exact ⟨0, [], rfl, Lib.hid rfl, Lib.hid (CutS.start b), Lib.hid (Below.refl _ _), Lib.hid (Kd.R_nil _ _ _ _ _)⟩
  case round =>
    obtain ⟨a, l, rfl, hg, hs, hbr, hrl⟩ := hrel
    obtain ⟨LA, lc, rfl⟩ := Kd.R_slice hrl.out
    by_cases hlt : l.length < 64
    · have hlt' : (l.length : Int) < 64 := by omega
      have HLT := Lib.hid hlt
      obtain ⟨DA, hds, hdc, hdl⟩ := slice_drop A c b a HC.out hs.out.place
      obtain ⟨bd, hbd⟩ : ∃ bd, bd = b.drop a := ⟨_, rfl⟩
      obtain ⟨cd, hcd⟩ : ∃ cd, cd = c - a := ⟨_, rfl⟩
      rw [← hbd] at hds hdc hdl
      rw [← hcd] at hds hdl
      have HDC := Lib.hid hdc
      have HDL := Lib.hid hdl
      have HDB := Lib.hid (show Bytes bd by rw [hbd]; exact bdrop HBY.out _)
      have HLS := Lib.hid (lst_of_R hrl.out hs.out.len)
      replace hbd := Lib.hid hbd
      clear hdc hdl hcd hlt
      go_wp2_with fail
      refine (rnext_any l.getLast? _ DA cd bd hs.out.last wr (HDC.out wr (Kd.C_below HA.out hbr.out)) HDL.out HDB.out HLS.out).mono ?_
      rintro e w4 ⟨hb4, ⟨rfl, hno⟩ | ⟨N, L, B, cb, n, hnx, rfl, hr4⟩⟩
      · have HB4 := Lib.hid (hbr.out.trans (hb4.mono hbr.out.size))
        have HR4 := Lib.hid (Kd.R_below hrl.out hb4)
        have HE := Lib.hid (hs.out.none HLT.out (by rw [← hbd.out]; exact hno))
        clear hb4 hno hds
        unfold noNext
        go_wp2_with fail
        refine bodyPost_ret (v := .tuple #[.slice LA l.length lc, .int .i64 (a : Int)]) (by simp [results, Try.results34, go_sem]) rfl ⟨HB4.out.alloc HB4.out.size _, .slice LA l.length lc, by rw [HE.out], ?_⟩
        rw [HE.out]
        exact Kd.R_alloc HR4.out _
      · have HB4 := Lib.hid (hbr.out.trans (hb4.mono hbr.out.size))
        have HR4 := Lib.hid (Kd.R_below hrl.out hb4)
        have HQ4 := Lib.hid (Kd.R_lower hr4 hbr.out.size)
        have HNX := Lib.hid (show IsNext l.getLast? (b.drop a) (N, L) n by rw [← hbd.out]; exact hnx)
        have HNL := Lib.hid (show a + n ≤ b.length by have h := hnx.2.2.1; rw [hbd.out, List.length_drop] at h; have := hs.out.place; omega)
        have hsum : wrap64 ((a : Int) + (n : Int)) = ((a + n : Nat) : Int) := wrap64_id (by have := HMAX.out; have := HNL.out; have := hs.out.small; omega) (by have := HMAX.out; have := HNL.out; have := hs.out.small; omega)
        have HSUM := Lib.hid hsum
        clear hb4 hr4 hnx hds hsum
        by_cases hm : a + n ≤ 1048576
        · have hm' : ¬ (1048576 : Int) < ((a + n : Nat) : Int) := by omega
          have HM := Lib.hid hm
          clear hm
          have hsum := HSUM.out
          obtain ⟨w5, hw5⟩ : ∃ w5 : World, w5 = w4.alloc (.cells #[.int .i64 N, .slice B L.length cb] 26) := ⟨_, rfl⟩
          have HB5 := Lib.hid (show Below w.heap.size w w5 by rw [hw5]; exact HB4.out.alloc HB4.out.size _)
          have H65 := Lib.hid (show w5.heap[w4.heap.size]? = some (.cells #[.int .i64 N, .slice B L.length cb] 26 (0, 0)) by rw [hw5]; exact heap_alloc_new w4 _)
          have HR5 := Lib.hid (show kg.R 26 w5 w.heap.size (fun _ => True) (.slice LA l.length lc) l by rw [hw5]; exact Kd.R_alloc HR4.out _)
          have HQ5 := Lib.hid (show kc.R 42 w5 w.heap.size (fun _ => True) (.slice B L.length cb) L by rw [hw5]; exact Kd.R_alloc HQ4.out _)
          have HW5 := Lib.hid hw5.symm
          have HL16 := Lib.hid (show (l.length + 1) * 32 ≤ 140737488355328 by have := hs.out.len; omega)
          clear hw5
          go_upto_region 6 with (fail)
          rw [HW5.out]
          clear hsum hm'
          go_wp2_with (first
            | ((with_reducible refine gate_dst (N := 30) rfl ?_); refine load_grid rfl (.tmp 6) rfl (g := w4.heap.size) ?hx (u := .int .i64 N) (v := .slice B L.length cb) H65.out ?_; (case hx => go_simp))
            | ((with_reducible refine gate_builtin (b := .append) (xs := #[.tmp 29, .tmp 31]) rfl ?_); at_builtin; refine Kd.R_append kg (w0 := w) w.heap.size rfl (.tmp 29) (.tmp 31) 32 26 (.agg #[.int .i64 0, .slice none 0 0]) 32 rfl und32 info26 rfl (by decide) (by decide) (.slice LA l.length lc) l (N, L) [.int .i64 (N : Int), .slice B L.length cb] (fun _ => True) (fun k => some k ≠ (Value.slice LA l.length lc).ownBlock) ?hs ?hx ?hp (fun k hk => ⟨trivial, hk⟩) (fun _ _ => trivial) HR5.out HB5.out HB5.out.size HL16.out ?_; (case hs => first | rfl | go_simp); (case hx => first | rfl | go_simp); (case hp => exact kg_M (Kd.R_mono (Kd.R_apartR HQ5.out HR5.out (by decide)) (fun k hk => hk.2))); intro v1 w6 ho hbb hgr hat; obtain ⟨LB, ld, hv1⟩ := Kd.R_slice ho; rw [List.length_append, List.length_singleton] at hv1; subst hv1; have HR6 := Lib.hid ho; have HB6 := Lib.hid hbb; clear ho hbb hgr hat))
          go_roundg (gk - 1)
          case measure => have := hg.out; have := HLT.out; omega
          case rel => exact ⟨a + n, l ++ [(N, L)], by rw [Int.natCast_add], Lib.hid (by rw [List.length_append, List.length_singleton]; have := hg.out; have := HLT.out; omega), Lib.hid (hs.out.next HLT.out HNX.out HM.out), HB6, HR6⟩
        · have hm' : (1048576 : Int) < ((a + n : Nat) : Int) := by omega
          have HE := Lib.hid (hs.out.long HLT.out HNX.out hm)
          have hsum := HSUM.out
          clear hm
          go_wp2_with fail
          refine bodyPost_ret (v := .tuple #[.slice LA l.length lc, .int .i64 (a : Int)]) (by simp [results, Try.results34, go_sem]) rfl ⟨HB4.out.alloc HB4.out.size _, .slice LA l.length lc, by rw [HE.out], ?_⟩
          rw [HE.out]
          exact Kd.R_alloc HR4.out _
    · have hlt' : ¬ (l.length : Int) < 64 := by omega
      have HE := Lib.hid (hs.out.full hlt)
      clear hlt
      go_wp2_with fail
      refine bodyPost_ret (v := .tuple #[.slice LA l.length lc, .int .i64 (a : Int)]) (by simp [results, Try.results34, go_sem]) rfl ⟨hbr.out, .slice LA l.length lc, by rw [HE.out], ?_⟩
      rw [HE.out]
      exact hrl.out
end Go.Proofs.Ytomildjihlbbmaa

/-
  The reference's Slices, Get and Cut.
-/
namespace Go.Proofs.Ytomildjihlbbmaa
open Go.RowKit Flt Num Go.Proofs.YtomildjihlbbmaaW.PrintWords Go.Proofs.YtomildjihlbbmaaW.PrintLast Go.Proofs.YtomildjihlbbmaaW.PrintMore Go.Proofs.Ytomildjihlbbmaa.PVaultReads
set_option linter.unusedVariables false
set_option linter.unusedSimpArgs false
/-- what a Slices leaves -/
def SlcOut (b : List Int) (w : World) (e : Ending) (w' : World) : Prop :=
  Below w.heap.size w w' ∧
    (((cutAll b).2 ≠ b.length ∧ e = .returned (.tuple #[.slice none 0 0, .int .i64 220])) ∨
     ((cutAll b).2 = b.length ∧ ∃ v, e = .returned (.tuple #[v, .int .i64 0]) ∧ kg.R 26 w' w.heap.size (fun _ => True) v (cutAll b).1))
/-- what a Get leaves -/
def GetOut (b : List Int) (i : Int) (w : World) (e : Ending) (w' : World) : Prop :=
  Below w.heap.size w w' ∧
    (((cutAll b).2 ≠ b.length ∧ e = .returned (.tuple #[.agg #[.int .i64 0, .slice none 0 0], .int .i64 220])) ∨
     ((cutAll b).2 = b.length ∧ (i < 0 ∨ ((cutAll b).1.length : Int) ≤ i) ∧ e = .returned (.tuple #[.agg #[.int .i64 0, .slice none 0 0], .int .i64 1])) ∨
     ((cutAll b).2 = b.length ∧ ¬ (i < 0 ∨ ((cutAll b).1.length : Int) ≤ i) ∧ ∃ B c, e = .returned (.tuple #[.agg #[.int .i64 (((cutAll b).1.getD i.toNat (0, [])).1 : Int), .slice B ((cutAll b).1.getD i.toNat (0, [])).2.length c], .int .i64 0]) ∧ kc.C w' B ((cutAll b).1.getD i.toNat (0, [])).2.length ((cutAll b).1.getD i.toNat (0, [])).2))
def CtOut (b : List Int) (w : World) (e : Ending) (w' : World) : Prop :=
  Below w.heap.size w w' ∧ e = .returned (.tuple #[.int .i64 ((cutAll b).1.length : Int), .int .i64 ((cutAll b).2 : Int)])
set_option maxHeartbeats 4000000 in
set_option maxRecDepth 100000 in
theorem rslices_any (A : Option Addr) (c : Nat) (b : List Int) (w : World) (hA : kb.C w A b.length b) (hc : b.length ≤ c) (hb : Bytes b) :
    Calls Try.prog 11 #[.slice A b.length c] w fun e w' => SlcOut b w e w' := by
  have HCALL := Lib.hid (rcut_any A c b w hA hc hb)
  clear hA hc hb
  go_enter Try.func11, Try.ntmps11
  go_wp2_with fail
  refine HCALL.out.mono ?_
  rintro e w2 ⟨hb2, v, rfl, hr⟩
  obtain ⟨LA, lc, rfl⟩ := Kd.R_slice hr
  have HB := Lib.hid hb2
  have HR := Lib.hid hr
  obtain ⟨at_, hat⟩ : ∃ a, a = (cutAll b).2 := ⟨_, rfl⟩
  rw [← hat]
  have HAT := Lib.hid hat
  clear hb2 hr hat
  by_cases he : at_ = b.length
  · have h1 : ((at_ : Int) == (b.length : Int)) = true := by rw [beq_iff_eq]; omega
    have h2 : ((at_ : Int) != (b.length : Int)) = false := by rw [bne, h1]; rfl
    have HE := Lib.hid he
    clear he
    go_wp2_with fail
    go_ret2
    exact ⟨HB.out, .inr ⟨by rw [← HAT.out]; exact HE.out, _, rfl, HR.out⟩⟩
  · have h1 : ((at_ : Int) == (b.length : Int)) = false := by rw [beq_eq_false_iff_ne]; omega
    have h2 : ((at_ : Int) != (b.length : Int)) = true := by rw [bne, h1]; rfl
    have HE := Lib.hid he
    clear he
    go_wp2_with fail
    go_ret2
    exact ⟨HB.out, .inl ⟨by rw [← HAT.out]; exact HE.out, rfl⟩⟩
set_option maxHeartbeats 4000000 in
set_option maxRecDepth 100000 in
theorem rCut_any (A : Option Addr) (c : Nat) (b : List Int) (w : World) (hA : kb.C w A b.length b) (hc : b.length ≤ c) (hb : Bytes b) :
    Calls Try.prog 15 #[.slice A b.length c] w fun e w' => CtOut b w e w' := by
  have HCALL := Lib.hid (rcut_any A c b w hA hc hb)
  clear hA hc hb
  go_enter Try.func15, Try.ntmps15
  go_wp2_with fail
  refine HCALL.out.mono ?_
  rintro e w2 ⟨hb2, v, rfl, hr⟩
  obtain ⟨LA, lc, rfl⟩ := Kd.R_slice hr
  have HB := Lib.hid hb2
  clear hb2 hr
  go_wp2_with fail
  go_ret2
  exact ⟨HB.out, rfl⟩
theorem load_l {W : World} {base : Nat} {ok : Nat → Prop} {v : Value} {l : List Fld} (h : kg.R 26 W base ok v l) (i : Nat) (hi : i < l.length) :
    ∃ g cap B c, v = .slice (some ⟨g, 0, none⟩) l.length cap ∧ W.cell? ⟨g, i * 2, none⟩ = some (.int .i64 ((l.getD i (0, [])).1 : Int)) ∧ W.cell? ⟨g, i * 2 + 1, none⟩ = some (.slice B (l.getD i (0, [])).2.length c) ∧ kc.R 42 W base (fun _ => True) (.slice B (l.getD i (0, [])).2.length c) (l.getD i (0, [])).2 := by
  obtain ⟨g, cap, rfl, -⟩ := Kd.R_form h (by omega)
  obtain ⟨cs, hcl, hM, hcc, -⟩ := Kd.R_elem h ((0, []) : Fld) (i : Int) (by omega) (by omega)
  rw [Int.toNat_natCast] at hM hcc
  obtain ⟨c0, c1, rfl, h0, v1, rfl, hR⟩ := hM
  have h0' : c0 = [.int .i64 ((l.getD i (0, [])).1 : Int)] := h0
  subst h0'
  obtain ⟨B, c, rfl⟩ := Kd.R_slice hR
  exact ⟨g, cap, B, c, rfl, hcc 0 _ rfl, hcc 1 _ rfl, Kd.R_mono hR (fun _ _ => trivial)⟩
set_option maxHeartbeats 8000000 in
set_option maxRecDepth 100000 in
theorem rget_any (A : Option Addr) (c : Nat) (b : List Int) (i : Int) (w : World) (hA : kb.C w A b.length b) (hc : b.length ≤ c) (hb : Bytes b) :
    Calls Try.prog 13 #[.slice A b.length c, .int .i64 i] w fun e w' => GetOut b i w e w' := by
  have HZ0 := Lib.hid (heap_alloc_new w (.cells #[.int .i64 0, .slice none 0 0] 26))
  have HB0 := Lib.hid (show Below w.heap.size w (w.alloc (.cells #[.int .i64 0, .slice none 0 0] 26)) from below_alloc (Below.refl _ _) _)
  have HCALL := Lib.hid (rslices_any A c b _ (Kd.C_below hA HB0.out) hc hb)
  clear hA hc hb
  go_enter Try.func13, Try.ntmps13
  go_wp2_with fail
  refine HCALL.out.mono ?_
  rintro e w2 ⟨hb2, ⟨hne, rfl⟩ | ⟨heq, v, rfl, hr⟩⟩
  · have HB2 := Lib.hid (HB0.out.trans (hb2.mono HB0.out.size))
    have HZ2 := Lib.hid (blk_below HZ0.out hb2)
    have HNE := Lib.hid hne
    clear hb2 hne
    go_wp2_with (first | ((with_reducible refine gate_store (t := 26) (p := 4) rfl ?_); refine store_grid rfl rfl (.tmp 4) (.tmp 15) rfl (g := w.heap.size) ?hp (u := 0) (A := none) (n := 0) (c := 0) ?hv HZ2.out ?_; (case hp => go_simp); (case hv => go_simp); intro wE hhE hkE hbE; have HRE := Lib.hid hhE; have HBE := Lib.hid hbE; clear hhE hkE hbE))
    obtain ⟨r1, r2, -, -⟩ := two_cells HRE.out
    exact bodyPost_ret (v := .tuple #[.agg #[.int .i64 0, .slice none 0 0], .int .i64 220]) (by simp [results, Try.results13, go_sem, r1, r2]) rfl ⟨HB2.out.trans (HBE.out.mono (Nat.le_refl _)), .inl ⟨HNE.out, rfl⟩⟩
  · have HB2 := Lib.hid (HB0.out.trans (hb2.mono HB0.out.size))
    have HZ2 := Lib.hid (blk_below HZ0.out hb2)
    have HEQ := Lib.hid heq
    have HR2 := Lib.hid hr
    obtain ⟨l, hl⟩ : ∃ l, l = (cutAll b).1 := ⟨_, rfl⟩
    rw [← hl] at HR2 hr
    have HLD := Lib.hid hl
    obtain ⟨LA, lc, rfl⟩ := Kd.R_slice hr
    clear hb2 heq hr hl
    by_cases hi : i < 0 ∨ (l.length : Int) ≤ i
    · have HI := Lib.hid hi
      rcases hi with hi | hi
      · go_wp2_with (first | ((with_reducible refine gate_store (t := 26) (p := 4) rfl ?_); refine store_grid rfl rfl (.tmp 4) (.tmp 25) rfl (g := w.heap.size) ?hp (u := 0) (A := none) (n := 0) (c := 0) ?hv HZ2.out ?_; (case hp => go_simp); (case hv => go_simp); intro wE hhE hkE hbE; have HRE := Lib.hid hhE; have HBE := Lib.hid hbE; clear hhE hkE hbE))
        obtain ⟨r1, r2, -, -⟩ := two_cells HRE.out
        exact bodyPost_ret (v := .tuple #[.agg #[.int .i64 0, .slice none 0 0], .int .i64 1]) (by simp [results, Try.results13, go_sem, r1, r2]) rfl ⟨HB2.out.trans (HBE.out.mono (Nat.le_refl _)), .inr (.inl ⟨HEQ.out, by rw [← HLD.out]; exact HI.out, rfl⟩)⟩
      · have hi0 : ¬ i < 0 := by omega
        go_wp2_with (first | ((with_reducible refine gate_store (t := 26) (p := 4) rfl ?_); refine store_grid rfl rfl (.tmp 4) (.tmp 25) rfl (g := w.heap.size) ?hp (u := 0) (A := none) (n := 0) (c := 0) ?hv HZ2.out ?_; (case hp => go_simp); (case hv => go_simp); intro wE hhE hkE hbE; have HRE := Lib.hid hhE; have HBE := Lib.hid hbE; clear hhE hkE hbE))
        obtain ⟨r1, r2, -, -⟩ := two_cells HRE.out
        exact bodyPost_ret (v := .tuple #[.agg #[.int .i64 0, .slice none 0 0], .int .i64 1]) (by simp [results, Try.results13, go_sem, r1, r2]) rfl ⟨HB2.out.trans (HBE.out.mono (Nat.le_refl _)), .inr (.inl ⟨HEQ.out, by rw [← HLD.out]; exact HI.out, rfl⟩)⟩
    · have HI := Lib.hid hi
      obtain ⟨k, rfl⟩ := Int.eq_ofNat_of_zero_le (show 0 ≤ i by omega)
      have hk : k < l.length := by omega
      obtain ⟨g, cap, B, cb, hv, c1, c2, c3⟩ := load_l HR2.out k hk
      injection hv with hv1 _ hv3
      subst hv1 hv3
      have hi0 : ¬ ((k : Nat) : Int) < 0 := by omega
      have hnn : (0 : Int) ≤ (k : Int) := by omega
      have hi1 : ¬ (l.length : Int) ≤ (k : Int) := by omega
      have hi2 : (k : Int) < (l.length : Int) := by omega
      have C1 := Lib.hid c1
      have C2 := Lib.hid c2
      have C3 := Lib.hid c3
      obtain ⟨⟨N, L⟩, hf⟩ : ∃ f : Fld, f = l.getD k (0, []) := ⟨_, rfl⟩
      rw [← hf] at C1 C2 C3
      replace hf := Lib.hid hf
      clear c1 c2 c3 hi hk
      go_wp2_with (first
        | ((with_reducible refine gate_dst (N := 29) rfl ?_); refine load_two rfl (.tmp 28) rfl (b := g) (off := k * 2) ?hx C1.out C2.out ?_; (case hx => go_simp))
        | ((with_reducible refine gate_store (t := 26) (p := 4) rfl ?_); refine store_grid rfl rfl (.tmp 4) (.tmp 29) rfl (g := w.heap.size) ?hp (u := (N : Int)) (A := B) (n := L.length) (c := cb) ?hv HZ2.out ?_; (case hp => go_simp); (case hv => go_simp); intro wE hhE hkE hbE; have HRE := Lib.hid hhE; have HKE := Lib.hid hkE; have HBE := Lib.hid hbE; clear hhE hkE hbE))
      obtain ⟨r1, r2, -, -⟩ := two_cells HRE.out
      refine bodyPost_ret (v := .tuple #[.agg #[.int .i64 N, .slice B L.length cb], .int .i64 0]) (by simp [results, Try.results13, go_sem, r1, r2]) rfl ⟨HB2.out.trans (HBE.out.mono (Nat.le_refl _)), .inr (.inr ⟨HEQ.out, by rw [← HLD.out]; exact HI.out, B, cb, ?_, ?_⟩)⟩
      · rw [← HLD.out, Int.toNat_natCast, ← hf.out]
      · rw [← HLD.out, Int.toNat_natCast, ← hf.out]
        exact (Kd.R_reads' (Kd.R_kept (Kd.R_bound C3.out) HKE.out (fun k ho he => by have h1 := ho.2.1; have h2 : k = w.heap.size := he; rw [World.size_alloc] at h1; omega))).2.2
end Go.Proofs.Ytomildjihlbbmaa
