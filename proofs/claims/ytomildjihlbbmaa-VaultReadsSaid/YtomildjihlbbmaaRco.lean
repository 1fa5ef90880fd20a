/-
  The vault's record: the keeper's method, at a field that is right.
-/
import Derived.Test.YtomildjihlbbmaaRec
namespace Go.Proofs.Ytomildjihlbbmaa
open Go.RowKit Flt Num Go.Proofs.YtomildjihlbbmaaW.PrintWords Go.Proofs.YtomildjihlbbmaaW.PrintLast Go.Proofs.YtomildjihlbbmaaW.PrintMore Go.Proofs.Ytomildjihlbbmaa.PVaultReads
set_option linter.unusedVariables false
set_option linter.unusedSimpArgs false
attribute [local go_sem] run_f64bits run_f64from run_f32bits run_f32from
theorem below_then3 {w3 W w4 : World} (h : Below w3.heap.size w3 W) (h2 : Below W.heap.size W w4) : Below w3.heap.size w3 w4 := h.trans (h2.mono h.size)
theorem below_back {W w4 : World} (h : Below W.heap.size W w4) : Below W.heap.size W w4 := h
theorem lit_R1 (W : World) (a : Int) (base : Nat) (h : base ≤ W.heap.size) : kb.R 5 (W.alloc (.cells #[.int .u8 a] 5)) base (fun _ => True) (.slice (some ⟨W.heap.size, 0, none⟩) 1 1) [a] := lit_R W [a] base h (by simp)
theorem lit_R4 (W : World) (a b c d : Int) (base : Nat) (h : base ≤ W.heap.size) : kb.R 5 (W.alloc (.cells #[.int .u8 a, .int .u8 b, .int .u8 c, .int .u8 d] 5)) base (fun _ => True) (.slice (some ⟨W.heap.size, 0, none⟩) 4 4) [a, b, c, d] := lit_R W [a, b, c, d] base h (by simp)
def headF (a b k : Nat) : List Int := if k = 0 then [] else if k = 1 then be 4 a else be 4 a ++ be 4 b
theorem headF_len (a b : Nat) {k : Nat} (h : k ≤ 2) : (headF a b k).length = 4 * k := by
  unfold headF
  obtain rfl | rfl | rfl : k = 0 ∨ k = 1 ∨ k = 2 := by omega
  · rfl
  · simp [be_length]
  · simp [be_length]
/-- the body's cells ahead of the kind, and the kind -/
structure RecM (ah : Option Fld) (p N : Nat) (A : Option Addr) (c : Nat) (L : List (Nat × Nat)) (w wz : World) (BA : Option Addr) (bc : Nat) (bd : List Int) (kd : Nat) (u1 u2 u3 : Value) : Prop where
  below : Below w.heap.size w wz
  f : wz.heap[w.heap.size]? = some (.cells #[.int .i64 N, .slice A L.length c] 26 (0, 0))
  k : wz.heap[p]? = some (.cells #[u1, u2, u3] 79 (0, 0))
  row : kb.R 5 wz w.heap.size (fun _ => True) (.slice BA bd.length bc) bd
  body : bodyL ah (N, L) = (kd : Int) :: bd
  kind : kd < 2
theorem stored_true {w wz w8 : World} {p : Nat} {a b u : Value} (hlt : p < w.heap.size) (hz : Below w.heap.size w wz) (h8 : w8.heap[p]? = some (.cells #[a, b, u] 79 (0, 0))) (hk : Kept wz w8 (fun k => k = p)) (hb : Below p wz w8) :
    (w8.setCell ⟨p, 2, none⟩ (.bool true)).heap[p]? = some (.cells #[a, b, .bool true] 79 (0, 0)) ∧ Kept wz (w8.setCell ⟨p, 2, none⟩ (.bool true)) (fun k => k = p) ∧ Below p w (w8.setCell ⟨p, 2, none⟩ (.bool true)) := by
  refine ⟨?_, hk.then_ (Kept.setCell (S := fun k => k = p) (p := ⟨p, 2, none⟩) (Kept.refl w8 _) (.inl rfl) _) (fun k h => .inl h), ((hz.mono (Nat.le_of_lt hlt)).trans hb).setCell (Nat.le_refl p) _⟩
  rw [setCell_eq_setRow w8 p 2 _ 79 (0, 0) _ h8, setRow_heap w8 p _ _ 79 (0, 0) h8]; rfl
set_option maxHeartbeats 16000000 in
set_option maxRecDepth 100000 in
theorem record_any (ah : Option Fld) (p : Nat) (N : Nat) (A : Option Addr) (c : Nat) (L : List (Nat × Nat)) (hf : FOk (N, L)) (ha : ∀ g, ah = some g → FOk g) (w : World) (hC : kc.C w A L.length L) (hK : Kpr ah p w) :
    Calls Try.prog 40 #[.pointer (some ⟨p, 0, none⟩), .agg #[.int .i64 N, .slice A L.length c]] w fun e w' => ∃ v, e = .returned v ∧ kb.R 5 w' w.heap.size (fun _ => True) v (recL ah (N, L)) ∧ Below p w w' ∧ Kept w w' (fun k => k = p) ∧ w'.heap[p]? = some (.cells #[.int .i64 N, .slice A L.length c, .bool true] 79 (0, 0)) := by
  have HBODY := Lib.hid (bodyL_ok hf ha)
  have HAH := Lib.hid ha
  have HC := Lib.hid hC
  have HK := Lib.hid hK
  have HN := Lib.hid (show 1 ≤ N ∧ N ≤ 64 from hf.side)
  have HL := Lib.hid (show L.length = N * N from hf.len)
  have HW := Lib.hid (show Words L from hf.words)
  have HX1 := Lib.hid (heap_alloc_new w (.cells #[.int .i64 N, .slice A L.length c] 26))
  have HB1 := Lib.hid (show Below w.heap.size w (w.alloc (.cells #[.int .i64 N, .slice A L.length c] 26)) from below_alloc (Below.refl _ _) _)
  have HLT := Lib.hid (show p < w.heap.size by cases ah with | none => exact blk_lt hK | some g => obtain ⟨_, _, h1, _⟩ := hK; exact blk_lt h1)
  have hix0 : ∀ (x y : Int) (W : World), (Instr.index 98 (.agg #[.int .u32 x, .int .u32 y]) (.int .i64 0)).run Try.prog W = .ok (.int .u32 x) W := fun _ _ _ => by kernel_rfl
  have hix1 : ∀ (x y : Int) (W : World), (Instr.index 98 (.agg #[.int .u32 x, .int .u32 y]) (.int .i64 1)).run Try.prog W = .ok (.int .u32 y) W := fun _ _ _ => by kernel_rfl
  have HIX0 := Lib.hid hix0
  have HIX1 := Lib.hid hix1
  clear hf ha hC hK hix0 hix1
  rcases ah with _ | ⟨N', L'⟩
  · go_enter Try.func40, Try.ntmps40
    go_wp2_with (first | ((with_reducible refine gate_dst (N := 16) rfl ?_); refine load_grid rfl (.tmp 3) rfl (g := w.heap.size) ?hx (u := .int .i64 N) (v := .slice A L.length c) HX1.out ?_; (case hx => go_simp)))
    refine (pack_any N HN.out A c L _ (Kd.C_below HC.out HB1.out) HW.out HL.out).mono ?_
    rintro e w3 ⟨v5, rfl, hb3, hr3⟩
    have HB3 := Lib.hid (HB1.out.trans (hb3.mono HB1.out.size))
    have HX3 := Lib.hid (blk_below HX1.out hb3)
    have HK3 := Lib.hid (show w3.heap[p]? = some (.cells #[.int .i64 0, .slice none 0 0, .bool false] 79 (0, 0)) from (HK.out.below HB3.out))
    obtain ⟨BA, bc, rfl⟩ := Kd.R_slice hr3
    have HR3 := Lib.hid (Kd.R_lower hr3 HB1.out.size)
    obtain ⟨⟨k1, k2, k3⟩, k4, k5, k6⟩ := three_cells HK3.out
    obtain ⟨x1, x2, x3, x4⟩ := two_cells HX3.out
    clear hb3 hr3
    go_upto_region 3 with (fail)
    go_quiet (fail)
    have HM := Lib.hid (show RecM none p N A c L w (w3.drewN nq) BA bc (shortL N L) 0 (.int .i64 0) (.slice none 0 0) (.bool false) from
      { below := below_drewN HB3.out nq, f := HX3.out, k := HK3.out, row := Kd.R_drewN HR3.out nq, body := rfl, kind := by decide })
    obtain ⟨bd, hbd⟩ : ∃ bd, bd = shortL N L := ⟨_, rfl⟩
    rw [← hbd] at HM
    rw [← hbd]
    obtain ⟨wz, hwz⟩ : ∃ wz : World, wz = w3.drewN nq := ⟨_, rfl⟩
    rw [← hwz] at HM
    rw [← hwz]
    clear hbd hwz HX3 HK3 HR3 HB3 k1 k2 k3 k4 k5 k6 x1 x2 x3 x4 HK
    obtain ⟨⟨k1, k2, k3⟩, k4, k5, k6⟩ := three_cells HM.out.k
    go_upto_region 9 with (first
      | ((with_reducible refine gate_dst (N := 56) rfl ?_); refine load_grid rfl (.tmp 3) rfl (g := w.heap.size) ?hx (u := .int .i64 N) (v := .slice A L.length c) HM.out.f ?_; (case hx => go_simp))
      | ((with_reducible refine gate_store (t := 26) (p := 58) rfl ?_); refine store_keep rfl rfl (.tmp 58) (.tmp 56) rfl (g := p) ?hp (u := (N : Int)) (A := A) (n := L.length) (c := c) ?hv HM.out.k ?_; (case hp => go_simp); (case hv => go_simp); intro w8 hh8 hk8 hb8; have HH8 := Lib.hid hh8; have HK8 := Lib.hid hk8; have HB8 := Lib.hid hb8; obtain ⟨⟨m1, m2, m3⟩, m4, m5, m6⟩ := three_cells hh8; clear hh8 hk8 hb8))
    clear k1 k2 k3 k4 k5 k6 m1 m2 m3 m4 m5 m6
    obtain ⟨w9, hw9⟩ : ∃ w9 : World, w9 = w8.setCell ⟨p, 2, none⟩ (.bool true) := ⟨_, rfl⟩
    rw [← hw9]
    have H9 := Lib.hid (stored_true HLT.out HM.out.below HH8.out HK8.out HB8.out)
    rw [← hw9] at H9
    have HR9 := Lib.hid (show kb.R 5 w9 w.heap.size (fun _ => True) (.slice BA bd.length bc) bd from Kd.R_mono (Kd.R_kept (Kd.R_types HM.out.row HM.out.k (by decide)) H9.out.2.1 (fun k ho he => ho.2 he)) (fun _ _ => trivial))
    have HS9 := Lib.hid (show w.heap.size ≤ w9.heap.size from Nat.le_trans HM.out.below.size H9.out.2.1.1)
    have HBD := Lib.hid (show bd.length ≤ 65538 ∧ ((0 : Nat) : Int) :: bd = bodyL none (N, L) by have h := HBODY.out.1; rw [HM.out.body] at h; exact ⟨by simp at h; omega, HM.out.body.symm⟩)
    clear hw9 HH8 HK8 HB8
    obtain ⟨B, hB⟩ : ∃ B, B = bodyL none (N, L) := ⟨_, rfl⟩
    rw [← hB] at HBD HBODY
    have HBL := Lib.hid (show (B.length : Int) ≤ 65539 by have := HBODY.out.1; omega)
    replace hB := Lib.hid hB
    go_upto_region 10 with (first
      | ((with_reducible refine gate_builtin (b := .append) (xs := #[.tmp 62, .tmp 63]) rfl ?_); at_builtin; refine Kd.R_append_row (Value.int .u8) (0 : Int) (h1 := fun _ => rfl) (w0 := w9) w.heap.size rfl (.tmp 62) (.tmp 63) 22 5 (.int .u8 0) 1 rfl Try.underlying22 info5v rfl (by decide) (.slice (some ⟨w9.heap.size, 0, none⟩) 1 1) [(0 : Int)] bd BA bd.length bc (fun _ => True) rfl rfl (fun _ _ => trivial) ?aO ?aR ?aB ?aS ?aL ?_; (case aO => exact lit_R1 w9 0 _ HS9.out); (case aR => exact (Kd.R_reads' (Kd.R_alloc HR9.out _)).2.2); (case aB => exact (Below.refl w.heap.size w9).alloc HS9.out _); (case aS => exact Nat.le_trans HS9.out ((Below.refl w.heap.size w9).alloc HS9.out _).size); (case aL => exact (by have := HBD.out.1; simp; omega)); intro v2 w10 hr10 hb10 hgr hat; have hr11 : kb.R 5 w10 w.heap.size (fun _ => True) v2 B := (by have h := hr10; rwa [show ([(0 : Int)] ++ bd : List Int) = B from HBD.out.2] at h); obtain ⟨CA, cc, rfl⟩ := Kd.R_slice hr11; have HR10 := Lib.hid hr11; have HB10 := Lib.hid hb10; clear hr10 hr11 hb10 hgr hat))
    have hbl := HBL.out
    have HS10 := Lib.hid (Nat.le_trans HS9.out HB10.out.size)
    go_upto_region 11 with (first
      | ((with_reducible refine gate_dst (N := 68) rfl ?_); refine make0 (w0 := w10) w10.heap.size rfl _ (.tmp 67) rfl rfl rfl (c := 8 + B.length) ?hn (by omega) (Below.refl _ _) (Nat.le_refl _) ?_; (case hn => (first | rfl | (simp; done) | omega)); intro w11 hr11 hb11 hg11; have HR11 := Lib.hid hr11; have HB11 := Lib.hid hb11; clear hr11 hb11 hg11))
    have HCB := Lib.hid (show kb.C w10 CA B.length B from (Kd.R_reads' HR10.out).2.2)
    have HCL := Lib.hid (show B.length ≤ cc from (Kd.R_reads' HR10.out).2.1)
    go_wp2_with fail
    refine (vsum_any CA cc B w11 (Kd.C_below HCB.out HB11.out) HCL.out HBODY.out.2 (by have := HBL.out; omega)).mono ?_
    rintro e w12 ⟨rfl, ⟨n12, rfl⟩⟩
    obtain ⟨sm, hsm⟩ : ∃ sm, sm = sumB B := ⟨_, rfl⟩
    rw [← hsm]
    have HSM := Lib.hid (show sm < 4294967296 by rw [hsm]; exact sumF_lt _ _ (by decide))
    replace hsm := Lib.hid hsm
    have hix0 := HIX0.out
    have hix1 := HIX1.out
    go_wp2_with fail
    obtain ⟨bl, hble⟩ : ∃ bl, bl = B.length := ⟨_, rfl⟩
    have HBB := Lib.hid (show bl < 4294967296 by have := HBL.out; omega)
    rw [← hble] at HR11
    rw [← hble]
    replace hble := Lib.hid hble
    clear hbl
    go_loopg [12, 75] 3 (fun gk v12 v75 wr => ∃ (k : Nat), v75 = .int .i64 (k : Int) ∧ Hid (k + gk = 3) ∧ Hid (k ≤ 2) ∧ Hid (Below w10.heap.size w10 wr) ∧ Hid (kb.R 5 wr w10.heap.size (fun _ => True) v12 (headF bl sm k)))
    case atStart => exact ⟨0, rfl, Lib.hid rfl, Lib.hid (by decide), Lib.hid (below_drewN HB11.out n12), Lib.hid (Kd.R_drewN HR11.out n12)⟩
    case round =>
      obtain ⟨k, rfl, hg, hk2, hbl1, hrl1⟩ := hrel
      obtain ⟨OA, oc, rfl⟩ := Kd.R_slice hrl1.out
      have HOL := Lib.hid (headF_len bl sm hk2.out)
      have HRX := Lib.hid (fun o => Kd.R_alloc (d := kb) hrl1.out o)
      have HBX := Lib.hid (fun o => hbl1.out.alloc hbl1.out.size o)
      obtain rfl | rfl | rfl : k = 0 ∨ k = 1 ∨ k = 2 := by have := hk2.out; omega
      · go_wp2_with (first
          | ((with_reducible refine gate_builtin (b := .append) (xs := #[.tmp 78, .tmp 90]) rfl ?_); at_builtin; refine Kd.R_append_row (Value.int .u8) (0 : Int) (h1 := fun _ => rfl) (w0 := w10) w10.heap.size rfl (.tmp 78) (.tmp 90) 22 5 (.int .u8 0) 1 rfl Try.underlying22 info5v rfl (by decide) (.slice OA (headF bl sm 0).length oc) (headF bl sm 0) [((bl : Int) / 16777216) % 256, ((bl : Int) / 65536) % 256, ((bl : Int) / 256) % 256, (bl : Int) % 256] (some ⟨wr.heap.size, 0, none⟩) 4 4 (fun _ => True) rfl rfl (fun _ _ => trivial) ?aO ?aR ?aB ?aS ?aL ?_; (case aO => exact HRX.out _); (case aR => exact (Kd.R_reads' (lit_R4 wr _ _ _ _ wr.heap.size (Nat.le_refl _))).2.2); (case aB => exact HBX.out _); (case aS => exact (HBX.out _).size); (case aL => exact (by rw [HOL.out]; omega)); intro v3 w13 hr13 hb13 hgr hat; have hr14 : kb.R 5 w13 w10.heap.size (fun _ => True) v3 (headF bl sm 1) := (by have h := hr13; rwa [show headF bl sm 0 ++ [((bl : Int) / 16777216) % 256, ((bl : Int) / 65536) % 256, ((bl : Int) / 256) % 256, (bl : Int) % 256] = headF bl sm 1 from four_be bl HBB.out] at h); have HR14 := Lib.hid hr14; have HB14 := Lib.hid hb13; clear hr13 hr14 hb13 hgr hat))
        go_roundg (gk - 1)
        case measure => have := hg.out; omega
        case rel => exact ⟨1, by first | rfl | simp, Lib.hid (by have := hg.out; omega), Lib.hid (by decide), HB14, HR14⟩
      · go_wp2_with (first
          | ((with_reducible refine gate_builtin (b := .append) (xs := #[.tmp 78, .tmp 90]) rfl ?_); at_builtin; refine Kd.R_append_row (Value.int .u8) (0 : Int) (h1 := fun _ => rfl) (w0 := w10) w10.heap.size rfl (.tmp 78) (.tmp 90) 22 5 (.int .u8 0) 1 rfl Try.underlying22 info5v rfl (by decide) (.slice OA (headF bl sm 1).length oc) (headF bl sm 1) [((sm : Int) / 16777216) % 256, ((sm : Int) / 65536) % 256, ((sm : Int) / 256) % 256, (sm : Int) % 256] (some ⟨wr.heap.size, 0, none⟩) 4 4 (fun _ => True) rfl rfl (fun _ _ => trivial) ?aO ?aR ?aB ?aS ?aL ?_; (case aO => exact HRX.out _); (case aR => exact (Kd.R_reads' (lit_R4 wr _ _ _ _ wr.heap.size (Nat.le_refl _))).2.2); (case aB => exact HBX.out _); (case aS => exact (HBX.out _).size); (case aL => exact (by rw [HOL.out]; omega)); intro v3 w13 hr13 hb13 hgr hat; have hr14 : kb.R 5 w13 w10.heap.size (fun _ => True) v3 (headF bl sm 2) := (by have h := hr13; rwa [show headF bl sm 1 ++ [((sm : Int) / 16777216) % 256, ((sm : Int) / 65536) % 256, ((sm : Int) / 256) % 256, (sm : Int) % 256] = headF bl sm 2 from by rw [four_be sm HSM.out]; rfl] at h); have HR14 := Lib.hid hr14; have HB14 := Lib.hid hb13; clear hr13 hr14 hb13 hgr hat))
        go_roundg (gk - 1)
        case measure => have := hg.out; omega
        case rel => exact ⟨2, by first | rfl | simp, Lib.hid (by have := hg.out; omega), Lib.hid (by decide), HB14, HR14⟩
      · have HE := Lib.hid (show headF bl sm 2 ++ B = recL none (N, L) by unfold headF recL; rw [if_neg (by decide), if_neg (by decide), hble.out, hsm.out, hB.out])
        go_wp2_with (first
          | ((with_reducible refine gate_builtin (b := .append) (xs := #[.tmp 93, .tmp 94]) rfl ?_); at_builtin; refine Kd.R_append_row (Value.int .u8) (0 : Int) (h1 := fun _ => rfl) (w0 := w10) w10.heap.size rfl (.tmp 93) (.tmp 94) 22 5 (.int .u8 0) 1 rfl Try.underlying22 info5v rfl (by decide) (.slice OA (headF bl sm 2).length oc) (headF bl sm 2) B CA bl cc (fun _ => True) rfl rfl (fun _ _ => trivial) hrl1.out ?aR hbl1.out hbl1.out.size ?aL ?_; (case aR => exact (by rw [hble.out]; exact Kd.C_below HCB.out hbl1.out)); (case aL => exact (by rw [HOL.out]; have := HBB.out; omega)); intro v3 w13 hr13 hb13 hgr hat; have HR14 := Lib.hid (show kb.R 5 w13 w10.heap.size (fun _ => True) v3 (recL none (N, L)) from by rw [← HE.out]; exact hr13); have HB14 := Lib.hid hb13; clear hr13 hb13 hgr hat))
        go_ret
        have HB9 := Lib.hid (show Below w.heap.size w9 w13 from HB10.out.trans (HB14.out.mono HS10.out))
        refine ⟨v3, rfl, Kd.R_lower HR14.out HS10.out, H9.out.2.2.trans (HB9.out.mono (Nat.le_of_lt HLT.out)), ?_, ?_⟩
        · exact ⟨Nat.le_trans (Nat.le_trans HM.out.below.size H9.out.2.1.1) HB9.out.size, fun k hk hne => ((HB9.out.block k hk).trans (H9.out.2.1.2 k (Nat.lt_of_lt_of_le hk HM.out.below.size) hne)).trans (HM.out.below.block k hk)⟩
        · exact (HB9.out.block p HLT.out).trans H9.out.1
  · by_cases hNN : N' = N
    · subst hNN
      have hk0 := HK.out
      obtain ⟨A', c', hk0, hkc⟩ := hk0
      have HK0 := Lib.hid hk0
      have HKC := Lib.hid hkc
      have HF' := Lib.hid (HAH.out _ rfl)
      have HL' := Lib.hid (show L'.length = N' * N' from HF'.out.len)
      have HW' := Lib.hid (show Words L' from HF'.out.words)
      have hne1 : decide ((N' : Int) = (N' : Int)) = true := decide_eq_true rfl
      have hne2 : ((N' : Int) == (N' : Int)) = true := beq_self_eq_true _
      clear hk0 hkc
      go_enter Try.func40, Try.ntmps40
      go_wp2_with (first | ((with_reducible refine gate_dst (N := 16) rfl ?_); refine load_grid rfl (.tmp 3) rfl (g := w.heap.size) ?hx (u := .int .i64 N') (v := .slice A L.length c) HX1.out ?_; (case hx => go_simp)))
      refine (pack_any N' HN.out A c L _ (Kd.C_below HC.out HB1.out) HW.out HL.out).mono ?_
      rintro e w2 ⟨v5, rfl, hb3, hr3⟩
      have HB2 := Lib.hid (HB1.out.trans (hb3.mono HB1.out.size))
      have HX2 := Lib.hid (blk_below HX1.out hb3)
      have HK2 := Lib.hid (blk_below HK0.out HB2.out)
      obtain ⟨BA, bc, rfl⟩ := Kd.R_slice hr3
      have HR2 := Lib.hid (Kd.R_lower hr3 HB1.out.size)
      obtain ⟨⟨k1, k2, k3⟩, k4, k5, k6⟩ := three_cells HK2.out
      obtain ⟨x1, x2, x3, x4⟩ := two_cells HX2.out
      clear hb3 hr3
      go_upto_region 3 with (fail)
      go_quiet (fail)
      obtain ⟨w3, hw3⟩ : ∃ w3 : World, w3 = w2.drewN nq := ⟨_, rfl⟩
      rw [← hw3]
      have HB3 := Lib.hid (show Below w.heap.size w w3 by rw [hw3]; exact below_drewN HB2.out nq)
      have HX3 := Lib.hid (show w3.heap[w.heap.size]? = some (.cells #[.int .i64 N', .slice A L.length c] 26 (0, 0)) by rw [hw3]; exact HX2.out)
      have HK3 := Lib.hid (show w3.heap[p]? = some (.cells #[.int .i64 N', .slice A' L'.length c', .bool true] 79 (0, 0)) by rw [hw3]; exact HK2.out)
      have HR3 := Lib.hid (show kb.R 5 w3 w.heap.size (fun _ => True) (.slice BA (shortL N' L).length bc) (shortL N' L) by rw [hw3]; exact Kd.R_drewN HR2.out nq)
      have HC3 := Lib.hid (Kd.C_below HC.out HB3.out)
      have HC3' := Lib.hid (Kd.C_below HKC.out HB3.out)
      have HA0 := Lib.hid (show Below w3.heap.size w3 w3.drew from below_drewN (Below.refl _ _) 1)
      have HA1 := Lib.hid (show Below w3.heap.size w3 (w3.alloc (.cells #[.int .i64 0, .slice none 0 0] 26)).drew from below_drewN (below_alloc (Below.refl _ _) _) 1)
      clear hw3 HX2 HK2 HR2 k1 k2 k3 k4 k5 k6 x1 x2 x3 x4 HK hne1 hne2
      go_upto_region 4 with (fail)
      refine start_ (n := 12) (S := fun w' => w'.heap[w.heap.size]? = some (.cells #[.int .i64 N', .slice A L.length c] 26 (0, 0)) ∧ w'.cell? ⟨p, 0, none⟩ = some (.int .i64 N') ∧ w'.cell? ⟨p, 1, none⟩ = some (.slice A' L'.length c')) (ds := [10]) #[false, false, false, false, false, false, false, false, false, false, false, false] (by kernel_rfl) rfl rfl ⟨(blk_below HX3.out HA0.out), (three_cells (blk_below HK3.out HA0.out)).1.1, (three_cells (blk_below HK3.out HA0.out)).1.2.1⟩ (fun hHeld => ?_)
      refine pure_ (i := 1) (N := some 36) (v := ?_) (a' := ?_) #[false, true, false, false, false, false, false, false, false, false, false, false] rfl rfl (by kernel_rfl) (fun _ _ _ h => h) (Or.inl ⟨by rfl, ?_⟩) ?_ ?_
      rotate_left
      · intro w'
        go_simp
        with_reducible rfl
      rotate_left
      · simp only [Act.put, List.setIfInBounds_toArray, List.set_cons_zero, List.set_cons_succ, i64_w, i32_w]
        rfl
      refine pure_ (i := 2) (N := some 37) (v := ?_) (a' := ?_) #[false, true, true, false, false, false, false, false, false, false, false, false] rfl rfl (by kernel_rfl) (fun _ _ _ h => h) (Or.inl ⟨by rfl, ?_⟩) ?_ ?_
      rotate_left
      · intro w'
        go_simp
        with_reducible rfl
      rotate_left
      · simp only [Act.put, List.setIfInBounds_toArray, List.set_cons_zero, List.set_cons_succ, i64_w, i32_w]
        rfl
      refine pure_ (i := 3) (N := some 38) (v := ?_) (a' := ?_) #[false, true, true, true, false, false, false, false, false, false, false, false] rfl rfl (by kernel_rfl) (fun _ _ _ h => h) (Or.inl ⟨by rfl, ?_⟩) ?_ ?_
      rotate_left
      · intro w'
        go_simp
        with_reducible rfl
      rotate_left
      · simp only [Act.put, List.setIfInBounds_toArray, List.set_cons_zero, List.set_cons_succ, i64_w, i32_w]
        rfl
      refine take_ (i := 0) (N := some 35) (v := ?_) (a' := ?_) #[true, true, true, true, false, false, false, false, false, false, false, false] rfl rfl (by kernel_rfl) (fun _ _ _ h => h) (Or.inl ⟨by rfl, ?_⟩) hHeld ?_ ?_
      rotate_left
      · rintro w' ⟨s0, s1, s2⟩
        refine Eq.trans (exec_load_grid (by rfl) (by rfl) s0) ?_
        with_reducible rfl
      rotate_left
      · simp only [Act.put, List.setIfInBounds_toArray, List.set_cons_zero, List.set_cons_succ, i64_w, i32_w]
        rfl
      refine take_ (i := 4) (N := some 39) (v := ?_) (a' := ?_) #[true, true, true, true, true, false, false, false, false, false, false, false] rfl rfl (by kernel_rfl) (fun _ _ _ h => h) (Or.inl ⟨by rfl, ?_⟩) hHeld ?_ ?_
      rotate_left
      · rintro w' ⟨s0, s1, s2⟩
        refine Eq.trans (exec_load2 (by rfl) (by rfl) s1 s2) ?_
        with_reducible rfl
      rotate_left
      · simp only [Act.put, List.setIfInBounds_toArray, List.set_cons_zero, List.set_cons_succ, i64_w, i32_w]
        rfl
      refine join_ (σ := Option Addr × Nat × Nat) 2 #[true, true, true, true, true, true, true, true, true, true, false, false] (fun s => [(40, .tuple #[.agg #[.int .i64 N', .slice s.1 (xorL L L').length s.2.1], .int .i64 0]), (34, .tuple #[.agg #[.int .i64 N', .slice s.1 (xorL L L').length s.2.1], .int .i64 0]), (41, .agg #[.int .i64 N', .slice s.1 (xorL L L').length s.2.1]), (42, .int .i64 0), (8, .pointer (some ⟨s.2.2, 0, none⟩))]) (fun s w' => Below w3.heap.size w3 w' ∧ w'.heap[s.2.2]? = some (.cells #[.int .i64 0, .slice none 0 0] 26 (0, 0)) ∧ w3.heap.size ≤ s.2.2 ∧ kc.R 42 w' w3.heap.size (fun _ => True) (.slice s.1 (xorL L L').length s.2.1) (xorL L L')) ?_ ?_
      rotate_left
      · intro hCont
        refine two_ (i := 5) (j := 9) (Ni := some 40) (Nj := some 8) #[true, true, true, true, true, true, false, false, false, false, false, false] #[true, true, true, true, true, false, false, false, false, true, false, false] rfl rfl rfl rfl (by kernel_rfl) (by decide) (by decide) (fun K hK => ?_) (fun K hK => ?_)
        · skip
          refine goes_ Try.func55 (by kernel_rfl) rfl #[.agg #[.int .i64 N', .slice A L.length c], .agg #[.int .i64 N', .slice A' L'.length c']] (by rfl) rfl rfl (by simp only [List.map_toArray, List.map_cons, List.map_nil]; rfl) ?_
          with_reducible refine (change_any N' HN.out A A' c c' L L' HL.out HL'.out HW.out HW'.out _ (Kd.C_below HC3.out HA0.out) (Kd.C_below HC3'.out HA0.out)).mono ?_
          rintro e w4 ⟨CB, cb, rfl, hb4, hr4⟩
          refine ⟨_, rfl, ?_⟩
          have hb4x := Lib.hid hb4
          have HB4 := Lib.hid (below_then3 HA0.out hb4)
          have HR4 := Lib.hid (Kd.R_lower hr4 HA0.out.size)
          clear hb4 hr4
          refine hK.out _ _ ⟨(blk_below HX3.out HB4.out), (three_cells (blk_below HK3.out HB4.out)).1.1, (three_cells (blk_below HK3.out HB4.out)).1.2.1⟩ (fun hHeld => ?_)
          clear hK K
          refine norm_ (a' := ?_) ?_ ?_
          rotate_left
          · show Act.put _ (some 40) _ = _
            simp only [Act.put, List.setIfInBounds_toArray, List.set_cons_zero, List.set_cons_succ, i64_w, i32_w]
            rfl
          refine pure_ (i := 6) (N := some 34) (v := ?_) (a' := ?_) #[true, true, true, true, true, true, true, false, false, false, false, false] rfl rfl (by kernel_rfl) (fun _ _ _ h => h) (Or.inl ⟨by rfl, ?_⟩) ?_ ?_
          rotate_left
          · intro w'
            go_simp
            with_reducible rfl
          rotate_left
          · simp only [Act.put, List.setIfInBounds_toArray, List.set_cons_zero, List.set_cons_succ, i64_w, i32_w]
            rfl
          refine pure_ (i := 7) (N := some 41) (v := ?_) (a' := ?_) #[true, true, true, true, true, true, true, true, false, false, false, false] rfl rfl (by kernel_rfl) (fun _ _ _ h => h) (Or.inl ⟨by rfl, ?_⟩) ?_ ?_
          rotate_left
          · intro w'
            go_simp
            with_reducible rfl
          rotate_left
          · simp only [Act.put, List.setIfInBounds_toArray, List.set_cons_zero, List.set_cons_succ, i64_w, i32_w]
            rfl
          refine pure_ (i := 8) (N := some 42) (v := ?_) (a' := ?_) #[true, true, true, true, true, true, true, true, true, false, false, false] rfl rfl (by kernel_rfl) (fun _ _ _ h => h) (Or.inl ⟨by rfl, ?_⟩) ?_ ?_
          rotate_left
          · intro w'
            go_simp
            with_reducible rfl
          rotate_left
          · simp only [Act.put, List.setIfInBounds_toArray, List.set_cons_zero, List.set_cons_succ, i64_w, i32_w]
            rfl
          refine one_ (i := 9) (N := some 8) #[true, true, true, true, true, true, true, true, true, true, false, false] rfl rfl (by kernel_rfl) (by decide) (fun K hK => ?_)
          refine value_ (w1 := ?_) (v := ?_) (by rfl) rfl ?_ ?_
          rotate_left 2
          · go_simp
            constructor
            · rfl
            · rfl
          refine hK.out _ _ ⟨(blk_below HX3.out (HB4.out.alloc HB4.out.size _)), (three_cells (blk_below HK3.out (HB4.out.alloc HB4.out.size _))).1.1, (three_cells (blk_below HK3.out (HB4.out.alloc HB4.out.size _))).1.2.1⟩ (fun hHeld => ?_)
          clear hK K
          refine norm_ (a' := ?_) ?_ ?_
          rotate_left
          · show Act.put _ (some 8) _ = _
            simp only [Act.put, List.setIfInBounds_toArray, List.set_cons_zero, List.set_cons_succ, i64_w, i32_w]
            rfl
          exact norm_ (by simp only [putAll, Act.put, List.setIfInBounds_toArray, List.set_cons_zero, List.set_cons_succ]) (hCont (CB, cb, w4.heap.size) _ ⟨HB4.out.alloc HB4.out.size _, heap_alloc_new w4 _, HB4.out.size, Kd.R_alloc HR4.out _⟩)
        · skip
          refine value_ (w1 := ?_) (v := ?_) (by rfl) rfl ?_ ?_
          rotate_left 2
          · go_simp
            constructor
            · rfl
            · rfl
          refine hK.out _ _ ⟨(blk_below HX3.out HA1.out), (three_cells (blk_below HK3.out HA1.out)).1.1, (three_cells (blk_below HK3.out HA1.out)).1.2.1⟩ (fun hHeld => ?_)
          clear hK K
          refine norm_ (a' := ?_) ?_ ?_
          rotate_left
          · show Act.put _ (some 8) _ = _
            simp only [Act.put, List.setIfInBounds_toArray, List.set_cons_zero, List.set_cons_succ, i64_w, i32_w]
            rfl
          refine one_ (i := 5) (N := some 40) #[true, true, true, true, true, true, false, false, false, true, false, false] rfl rfl (by kernel_rfl) (by decide) (fun K hK => ?_)
          refine goes_ Try.func55 (by kernel_rfl) rfl #[.agg #[.int .i64 N', .slice A L.length c], .agg #[.int .i64 N', .slice A' L'.length c']] (by rfl) rfl rfl (by simp only [List.map_toArray, List.map_cons, List.map_nil]; rfl) ?_
          with_reducible refine (change_any N' HN.out A A' c c' L L' HL.out HL'.out HW.out HW'.out _ (Kd.C_below HC3.out HA1.out) (Kd.C_below HC3'.out HA1.out)).mono ?_
          rintro e w4 ⟨CB, cb, rfl, hb4, hr4⟩
          refine ⟨_, rfl, ?_⟩
          have hb4x := Lib.hid hb4
          have HB4 := Lib.hid (below_then3 HA1.out hb4)
          have HR4 := Lib.hid (Kd.R_lower hr4 HA1.out.size)
          clear hb4 hr4
          refine hK.out _ _ ⟨(blk_below HX3.out HB4.out), (three_cells (blk_below HK3.out HB4.out)).1.1, (three_cells (blk_below HK3.out HB4.out)).1.2.1⟩ (fun hHeld => ?_)
          clear hK K
          refine norm_ (a' := ?_) ?_ ?_
          rotate_left
          · show Act.put _ (some 40) _ = _
            simp only [Act.put, List.setIfInBounds_toArray, List.set_cons_zero, List.set_cons_succ, i64_w, i32_w]
            rfl
          refine pure_ (i := 6) (N := some 34) (v := ?_) (a' := ?_) #[true, true, true, true, true, true, true, false, false, true, false, false] rfl rfl (by kernel_rfl) (fun _ _ _ h => h) (Or.inl ⟨by rfl, ?_⟩) ?_ ?_
          rotate_left
          · intro w'
            go_simp
            with_reducible rfl
          rotate_left
          · simp only [Act.put, List.setIfInBounds_toArray, List.set_cons_zero, List.set_cons_succ, i64_w, i32_w]
            rfl
          refine pure_ (i := 7) (N := some 41) (v := ?_) (a' := ?_) #[true, true, true, true, true, true, true, true, false, true, false, false] rfl rfl (by kernel_rfl) (fun _ _ _ h => h) (Or.inl ⟨by rfl, ?_⟩) ?_ ?_
          rotate_left
          · intro w'
            go_simp
            with_reducible rfl
          rotate_left
          · simp only [Act.put, List.setIfInBounds_toArray, List.set_cons_zero, List.set_cons_succ, i64_w, i32_w]
            rfl
          refine pure_ (i := 8) (N := some 42) (v := ?_) (a' := ?_) #[true, true, true, true, true, true, true, true, true, true, false, false] rfl rfl (by kernel_rfl) (fun _ _ _ h => h) (Or.inl ⟨by rfl, ?_⟩) ?_ ?_
          rotate_left
          · intro w'
            go_simp
            with_reducible rfl
          rotate_left
          · simp only [Act.put, List.setIfInBounds_toArray, List.set_cons_zero, List.set_cons_succ, i64_w, i32_w]
            rfl
          exact norm_ (by simp only [putAll, Act.put, List.setIfInBounds_toArray, List.set_cons_zero, List.set_cons_succ]) (hCont (CB, cb, w3.heap.size) _ ⟨HB4.out, blk_below (show (w3.alloc (.cells #[.int .i64 0, .slice none 0 0] 26)).drew.heap[w3.heap.size]? = _ from heap_alloc_new w3 _) (below_back hb4x.out), Nat.le_refl _, HR4.out⟩)
      rintro ⟨CB, cb, hb⟩ w5 ⟨hb5, hh5, hs5, hc5⟩
      have hHeld := And.intro (blk_below HX3.out hb5) (And.intro (three_cells (blk_below HK3.out hb5)).1.1 (three_cells (blk_below HK3.out hb5)).1.2.1)
      refine norm_ (a' := ?_) ?_ ?_
      rotate_left
      · simp only [putAll, Act.put, List.setIfInBounds_toArray, List.set_cons_zero, List.set_cons_succ]
        rfl
      refine last_ (i := 10) (N := none) #[true, true, true, true, true, true, true, true, true, true, true, false] rfl rfl (by kernel_rfl) (by decide) (fun K hK => ?_)
      refine store_grid_step (by rfl) rfl (.tmp 8) (.tmp 41) rfl (g := hb) (by rfl) (u := (N' : Int)) (A := CB) (n := (xorL L L').length) (c := cb) (by rfl) hh5 ?_
      intro w6 hh6 hk6 hb6
      refine hK.out _ _ ?_
      clear hK K
      refine pure_ (i := 11) (N := some 9) (v := ?_) (a' := ?_) #[true, true, true, true, true, true, true, true, true, true, true, true] rfl rfl (by kernel_rfl) (fun _ _ _ h => h) (Or.inl ⟨by rfl, ?_⟩) ?_ ?_
      rotate_left
      · intro w'
        go_simp
        with_reducible rfl
      rotate_left
      · simp only [Act.put, List.setIfInBounds_toArray, List.set_cons_zero, List.set_cons_succ, i64_w, i32_w]
        rfl
      refine done_ (by kernel_rfl) ?_
      have HB5 := Lib.hid hb5
      have HH6 := Lib.hid hh6
      have HB6 := Lib.hid (HB3.out.trans (hb5.mono HB3.out.size) |>.trans (hb6.mono (Nat.le_trans HB3.out.size hs5)))
      have HX6 := Lib.hid (blk_kept (blk_below HX3.out hb5) hk6 (by have h1 := blk_lt HX3.out; have h2 : w3.heap.size ≤ hb := hs5; show ¬ (w.heap.size = hb); omega))
      have HK6 := Lib.hid (blk_kept (blk_below HK3.out hb5) hk6 (by have h1 := blk_lt HK3.out; have h2 : w3.heap.size ≤ hb := hs5; show ¬ (p = hb); omega))
      have HR6 := Lib.hid (Kd.R_mono (ok' := fun _ => True) (Kd.R_kept (Kd.R_types (Kd.R_below HR3.out hb5) hh5 (by decide)) hk6 (fun k ho he => ho.2 he)) (fun _ _ => trivial))
      have HC6 := Lib.hid (Kd.R_reads' (Kd.R_kept (Kd.R_types hc5 hh5 (by decide)) hk6 (fun k ho he => ho.2 he))).2.2
      have HXO := Lib.hid (show FOk (N', xorL L L') from xor_ok ⟨HN.out, HL.out, HW.out⟩ ⟨HN.out, HL'.out, HW'.out⟩)
      clear hb5 hh5 hs5 hc5 hh6 hk6 hb6
      go_wp2_with (first | ((with_reducible refine gate_dst (N := 44) rfl ?_); refine load_grid rfl (.tmp 8) rfl (g := hb) ?hx (u := .int .i64 N') (v := .slice CB (xorL L L').length cb) HH6.out ?_; (case hx => go_simp)))
      refine (pack_any N' HN.out CB cb (xorL L L') _ HC6.out HXO.out.words HXO.out.len).mono ?_
      rintro e w7 ⟨v10, rfl, hb7, hr7⟩
      obtain ⟨DA, dc, rfl⟩ := Kd.R_slice hr7
      have HB7 := Lib.hid (HB6.out.trans (hb7.mono HB6.out.size))
      have HX7 := Lib.hid (blk_below HX6.out hb7)
      have HK7 := Lib.hid (blk_below HK6.out hb7)
      have HR7 := Lib.hid (Kd.R_lower hr7 HB6.out.size)
      have HQ7 := Lib.hid (Kd.R_below HR6.out hb7)
      obtain ⟨sx, hsx⟩ : ∃ sx, sx = shortL N' (xorL L L') := ⟨_, rfl⟩
      obtain ⟨sl, hsl⟩ : ∃ sl, sl = shortL N' L := ⟨_, rfl⟩
      rw [← hsx] at HR7
      rw [← hsl] at HQ7
      rw [← hsx, ← hsl]
      replace hsx := Lib.hid hsx
      replace hsl := Lib.hid hsl
      clear hb7 hr7 HH6 HX6 HK6 HR6 HC6 HX3 HK3 HR3 HC3 HC3' HB5 HB6
      by_cases hlt : sx.length < sl.length
      · have hlt' : (sx.length : Int) < (sl.length : Int) := by omega
        have HLTT := Lib.hid hlt
        have HM := Lib.hid (show RecM (some (N', L')) p N' A c L w w7 DA dc sx 1 (.int .i64 N') (.slice A' L'.length c') (.bool true) from
          { below := HB7.out, f := HX7.out, k := HK7.out, row := HR7.out, body := by unfold bodyL; dsimp only; rw [if_pos rfl, ← hsx.out, ← hsl.out, if_pos HLTT.out]; rfl, kind := by decide })
        go_upto_region 8 with (fail)
        obtain ⟨bd, hbd⟩ : ∃ bd, bd = sx := ⟨_, rfl⟩
        rw [← hbd] at HM
        rw [← hbd]
        obtain ⟨wz, hwz⟩ : ∃ wz : World, wz = w7 := ⟨_, rfl⟩
        rw [← hwz] at HM
        rw [← hwz]
        clear hbd hwz HX7 HK7 HR7 HQ7 HB7 hlt hlt'
        obtain ⟨⟨k1, k2, k3⟩, k4, k5, k6⟩ := three_cells HM.out.k
        go_upto_region 9 with (first
          | ((with_reducible refine gate_dst (N := 56) rfl ?_); refine load_grid rfl (.tmp 3) rfl (g := w.heap.size) ?hx (u := .int .i64 N') (v := .slice A L.length c) HM.out.f ?_; (case hx => go_simp))
          | ((with_reducible refine gate_store (t := 26) (p := 58) rfl ?_); refine store_keep rfl rfl (.tmp 58) (.tmp 56) rfl (g := p) ?hp (u := (N' : Int)) (A := A) (n := L.length) (c := c) ?hv HM.out.k ?_; (case hp => go_simp); (case hv => go_simp); intro w8 hh8 hk8 hb8; have HH8 := Lib.hid hh8; have HK8 := Lib.hid hk8; have HB8 := Lib.hid hb8; obtain ⟨⟨m1, m2, m3⟩, m4, m5, m6⟩ := three_cells hh8; clear hh8 hk8 hb8))
        clear k1 k2 k3 k4 k5 k6 m1 m2 m3 m4 m5 m6
        obtain ⟨w9, hw9⟩ : ∃ w9 : World, w9 = w8.setCell ⟨p, 2, none⟩ (.bool true) := ⟨_, rfl⟩
        rw [← hw9]
        have H9 := Lib.hid (stored_true HLT.out HM.out.below HH8.out HK8.out HB8.out)
        rw [← hw9] at H9
        have HR9 := Lib.hid (show kb.R 5 w9 w.heap.size (fun _ => True) (.slice DA bd.length dc) bd from Kd.R_mono (Kd.R_kept (Kd.R_types HM.out.row HM.out.k (by decide)) H9.out.2.1 (fun k ho he => ho.2 he)) (fun _ _ => trivial))
        have HS9 := Lib.hid (show w.heap.size ≤ w9.heap.size from Nat.le_trans HM.out.below.size H9.out.2.1.1)
        have HBD := Lib.hid (show bd.length ≤ 65538 ∧ ((1 : Nat) : Int) :: bd = bodyL (some (N', L')) (N', L) by have h := HBODY.out.1; rw [HM.out.body] at h; exact ⟨by simp at h; omega, HM.out.body.symm⟩)
        clear hw9 HH8 HK8 HB8
        obtain ⟨B, hB⟩ : ∃ B, B = bodyL (some (N', L')) (N', L) := ⟨_, rfl⟩
        rw [← hB] at HBD HBODY
        have HBL := Lib.hid (show (B.length : Int) ≤ 65539 by have := HBODY.out.1; omega)
        replace hB := Lib.hid hB
        go_upto_region 10 with (first
          | ((with_reducible refine gate_builtin (b := .append) (xs := #[.tmp 62, .tmp 63]) rfl ?_); at_builtin; refine Kd.R_append_row (Value.int .u8) (0 : Int) (h1 := fun _ => rfl) (w0 := w9) w.heap.size rfl (.tmp 62) (.tmp 63) 22 5 (.int .u8 0) 1 rfl Try.underlying22 info5v rfl (by decide) (.slice (some ⟨w9.heap.size, 0, none⟩) 1 1) [(1 : Int)] bd DA bd.length dc (fun _ => True) rfl rfl (fun _ _ => trivial) ?aO ?aR ?aB ?aS ?aL ?_; (case aO => exact lit_R1 w9 1 _ HS9.out); (case aR => exact (Kd.R_reads' (Kd.R_alloc HR9.out _)).2.2); (case aB => exact (Below.refl w.heap.size w9).alloc HS9.out _); (case aS => exact Nat.le_trans HS9.out ((Below.refl w.heap.size w9).alloc HS9.out _).size); (case aL => exact (by have := HBD.out.1; simp; omega)); intro v2 w10 hr10 hb10 hgr hat; have hr11 : kb.R 5 w10 w.heap.size (fun _ => True) v2 B := (by have h := hr10; rwa [show ([(1 : Int)] ++ bd : List Int) = B from HBD.out.2] at h); obtain ⟨CA, cc, rfl⟩ := Kd.R_slice hr11; have HR10 := Lib.hid hr11; have HB10 := Lib.hid hb10; clear hr10 hr11 hb10 hgr hat))
        have hbl := HBL.out
        have HS10 := Lib.hid (Nat.le_trans HS9.out HB10.out.size)
        go_upto_region 11 with (first
          | ((with_reducible refine gate_dst (N := 68) rfl ?_); refine make0 (w0 := w10) w10.heap.size rfl _ (.tmp 67) rfl rfl rfl (c := 8 + B.length) ?hn (by omega) (Below.refl _ _) (Nat.le_refl _) ?_; (case hn => (first | rfl | (simp; done) | omega)); intro w11 hr11 hb11 hg11; have HR11 := Lib.hid hr11; have HB11 := Lib.hid hb11; clear hr11 hb11 hg11))
        have HCB := Lib.hid (show kb.C w10 CA B.length B from (Kd.R_reads' HR10.out).2.2)
        have HCL := Lib.hid (show B.length ≤ cc from (Kd.R_reads' HR10.out).2.1)
        go_wp2_with fail
        refine (vsum_any CA cc B w11 (Kd.C_below HCB.out HB11.out) HCL.out HBODY.out.2 (by have := HBL.out; omega)).mono ?_
        rintro e w12 ⟨rfl, ⟨n12, rfl⟩⟩
        obtain ⟨sm, hsm⟩ : ∃ sm, sm = sumB B := ⟨_, rfl⟩
        rw [← hsm]
        have HSM := Lib.hid (show sm < 4294967296 by rw [hsm]; exact sumF_lt _ _ (by decide))
        replace hsm := Lib.hid hsm
        have hix0 := HIX0.out
        have hix1 := HIX1.out
        go_wp2_with fail
        obtain ⟨bl, hble⟩ : ∃ bl, bl = B.length := ⟨_, rfl⟩
        have HBB := Lib.hid (show bl < 4294967296 by have := HBL.out; omega)
        rw [← hble] at HR11
        rw [← hble]
        replace hble := Lib.hid hble
        clear hbl
        go_loopg [12, 75] 3 (fun gk v12 v75 wr => ∃ (k : Nat), v75 = .int .i64 (k : Int) ∧ Hid (k + gk = 3) ∧ Hid (k ≤ 2) ∧ Hid (Below w10.heap.size w10 wr) ∧ Hid (kb.R 5 wr w10.heap.size (fun _ => True) v12 (headF bl sm k)))
        case atStart => exact ⟨0, rfl, Lib.hid rfl, Lib.hid (by decide), Lib.hid (below_drewN HB11.out n12), Lib.hid (Kd.R_drewN HR11.out n12)⟩
        case round =>
          obtain ⟨k, rfl, hg, hk2, hbl1, hrl1⟩ := hrel
          obtain ⟨OA, oc, rfl⟩ := Kd.R_slice hrl1.out
          have HOL := Lib.hid (headF_len bl sm hk2.out)
          have HRX := Lib.hid (fun o => Kd.R_alloc (d := kb) hrl1.out o)
          have HBX := Lib.hid (fun o => hbl1.out.alloc hbl1.out.size o)
          obtain rfl | rfl | rfl : k = 0 ∨ k = 1 ∨ k = 2 := by have := hk2.out; omega
          · go_wp2_with (first
              | ((with_reducible refine gate_builtin (b := .append) (xs := #[.tmp 78, .tmp 90]) rfl ?_); at_builtin; refine Kd.R_append_row (Value.int .u8) (0 : Int) (h1 := fun _ => rfl) (w0 := w10) w10.heap.size rfl (.tmp 78) (.tmp 90) 22 5 (.int .u8 0) 1 rfl Try.underlying22 info5v rfl (by decide) (.slice OA (headF bl sm 0).length oc) (headF bl sm 0) [((bl : Int) / 16777216) % 256, ((bl : Int) / 65536) % 256, ((bl : Int) / 256) % 256, (bl : Int) % 256] (some ⟨wr.heap.size, 0, none⟩) 4 4 (fun _ => True) rfl rfl (fun _ _ => trivial) ?aO ?aR ?aB ?aS ?aL ?_; (case aO => exact HRX.out _); (case aR => exact (Kd.R_reads' (lit_R4 wr _ _ _ _ wr.heap.size (Nat.le_refl _))).2.2); (case aB => exact HBX.out _); (case aS => exact (HBX.out _).size); (case aL => exact (by rw [HOL.out]; omega)); intro v3 w13 hr13 hb13 hgr hat; have hr14 : kb.R 5 w13 w10.heap.size (fun _ => True) v3 (headF bl sm 1) := (by have h := hr13; rwa [show headF bl sm 0 ++ [((bl : Int) / 16777216) % 256, ((bl : Int) / 65536) % 256, ((bl : Int) / 256) % 256, (bl : Int) % 256] = headF bl sm 1 from four_be bl HBB.out] at h); have HR14 := Lib.hid hr14; have HB14 := Lib.hid hb13; clear hr13 hr14 hb13 hgr hat))
            go_roundg (gk - 1)
            case measure => have := hg.out; omega
            case rel => exact ⟨1, by first | rfl | simp, Lib.hid (by have := hg.out; omega), Lib.hid (by decide), HB14, HR14⟩
          · go_wp2_with (first
              | ((with_reducible refine gate_builtin (b := .append) (xs := #[.tmp 78, .tmp 90]) rfl ?_); at_builtin; refine Kd.R_append_row (Value.int .u8) (0 : Int) (h1 := fun _ => rfl) (w0 := w10) w10.heap.size rfl (.tmp 78) (.tmp 90) 22 5 (.int .u8 0) 1 rfl Try.underlying22 info5v rfl (by decide) (.slice OA (headF bl sm 1).length oc) (headF bl sm 1) [((sm : Int) / 16777216) % 256, ((sm : Int) / 65536) % 256, ((sm : Int) / 256) % 256, (sm : Int) % 256] (some ⟨wr.heap.size, 0, none⟩) 4 4 (fun _ => True) rfl rfl (fun _ _ => trivial) ?aO ?aR ?aB ?aS ?aL ?_; (case aO => exact HRX.out _); (case aR => exact (Kd.R_reads' (lit_R4 wr _ _ _ _ wr.heap.size (Nat.le_refl _))).2.2); (case aB => exact HBX.out _); (case aS => exact (HBX.out _).size); (case aL => exact (by rw [HOL.out]; omega)); intro v3 w13 hr13 hb13 hgr hat; have hr14 : kb.R 5 w13 w10.heap.size (fun _ => True) v3 (headF bl sm 2) := (by have h := hr13; rwa [show headF bl sm 1 ++ [((sm : Int) / 16777216) % 256, ((sm : Int) / 65536) % 256, ((sm : Int) / 256) % 256, (sm : Int) % 256] = headF bl sm 2 from by rw [four_be sm HSM.out]; rfl] at h); have HR14 := Lib.hid hr14; have HB14 := Lib.hid hb13; clear hr13 hr14 hb13 hgr hat))
            go_roundg (gk - 1)
            case measure => have := hg.out; omega
            case rel => exact ⟨2, by first | rfl | simp, Lib.hid (by have := hg.out; omega), Lib.hid (by decide), HB14, HR14⟩
          · have HE := Lib.hid (show headF bl sm 2 ++ B = recL (some (N', L')) (N', L) by unfold headF recL; rw [if_neg (by decide), if_neg (by decide), hble.out, hsm.out, hB.out])
            go_wp2_with (first
              | ((with_reducible refine gate_builtin (b := .append) (xs := #[.tmp 93, .tmp 94]) rfl ?_); at_builtin; refine Kd.R_append_row (Value.int .u8) (0 : Int) (h1 := fun _ => rfl) (w0 := w10) w10.heap.size rfl (.tmp 93) (.tmp 94) 22 5 (.int .u8 0) 1 rfl Try.underlying22 info5v rfl (by decide) (.slice OA (headF bl sm 2).length oc) (headF bl sm 2) B CA bl cc (fun _ => True) rfl rfl (fun _ _ => trivial) hrl1.out ?aR hbl1.out hbl1.out.size ?aL ?_; (case aR => exact (by rw [hble.out]; exact Kd.C_below HCB.out hbl1.out)); (case aL => exact (by rw [HOL.out]; have := HBB.out; omega)); intro v3 w13 hr13 hb13 hgr hat; have HR14 := Lib.hid (show kb.R 5 w13 w10.heap.size (fun _ => True) v3 (recL (some (N', L')) (N', L)) from by rw [← HE.out]; exact hr13); have HB14 := Lib.hid hb13; clear hr13 hb13 hgr hat))
            go_ret
            have HB9 := Lib.hid (show Below w.heap.size w9 w13 from HB10.out.trans (HB14.out.mono HS10.out))
            refine ⟨v3, rfl, Kd.R_lower HR14.out HS10.out, H9.out.2.2.trans (HB9.out.mono (Nat.le_of_lt HLT.out)), ?_, ?_⟩
            · exact ⟨Nat.le_trans (Nat.le_trans HM.out.below.size H9.out.2.1.1) HB9.out.size, fun k hk hne => ((HB9.out.block k hk).trans (H9.out.2.1.2 k (Nat.lt_of_lt_of_le hk HM.out.below.size) hne)).trans (HM.out.below.block k hk)⟩
            · exact (HB9.out.block p HLT.out).trans H9.out.1
      · have hlt' : ¬ (sx.length : Int) < (sl.length : Int) := by omega
        have HLTT := Lib.hid hlt
        have HM := Lib.hid (show RecM (some (N', L')) p N' A c L w w7 BA bc sl 0 (.int .i64 N') (.slice A' L'.length c') (.bool true) from
          { below := HB7.out, f := HX7.out, k := HK7.out, row := HQ7.out, body := by unfold bodyL; dsimp only; rw [if_pos rfl, ← hsx.out, ← hsl.out, if_neg HLTT.out]; rfl, kind := by decide })
        go_upto_region 8 with (fail)
        obtain ⟨bd, hbd⟩ : ∃ bd, bd = sl := ⟨_, rfl⟩
        rw [← hbd] at HM
        rw [← hbd]
        obtain ⟨wz, hwz⟩ : ∃ wz : World, wz = w7 := ⟨_, rfl⟩
        rw [← hwz] at HM
        rw [← hwz]
        clear hbd hwz HX7 HK7 HR7 HQ7 HB7 hlt hlt'
        obtain ⟨⟨k1, k2, k3⟩, k4, k5, k6⟩ := three_cells HM.out.k
        go_upto_region 9 with (first
          | ((with_reducible refine gate_dst (N := 56) rfl ?_); refine load_grid rfl (.tmp 3) rfl (g := w.heap.size) ?hx (u := .int .i64 N') (v := .slice A L.length c) HM.out.f ?_; (case hx => go_simp))
          | ((with_reducible refine gate_store (t := 26) (p := 58) rfl ?_); refine store_keep rfl rfl (.tmp 58) (.tmp 56) rfl (g := p) ?hp (u := (N' : Int)) (A := A) (n := L.length) (c := c) ?hv HM.out.k ?_; (case hp => go_simp); (case hv => go_simp); intro w8 hh8 hk8 hb8; have HH8 := Lib.hid hh8; have HK8 := Lib.hid hk8; have HB8 := Lib.hid hb8; obtain ⟨⟨m1, m2, m3⟩, m4, m5, m6⟩ := three_cells hh8; clear hh8 hk8 hb8))
        clear k1 k2 k3 k4 k5 k6 m1 m2 m3 m4 m5 m6
        obtain ⟨w9, hw9⟩ : ∃ w9 : World, w9 = w8.setCell ⟨p, 2, none⟩ (.bool true) := ⟨_, rfl⟩
        rw [← hw9]
        have H9 := Lib.hid (stored_true HLT.out HM.out.below HH8.out HK8.out HB8.out)
        rw [← hw9] at H9
        have HR9 := Lib.hid (show kb.R 5 w9 w.heap.size (fun _ => True) (.slice BA bd.length bc) bd from Kd.R_mono (Kd.R_kept (Kd.R_types HM.out.row HM.out.k (by decide)) H9.out.2.1 (fun k ho he => ho.2 he)) (fun _ _ => trivial))
        have HS9 := Lib.hid (show w.heap.size ≤ w9.heap.size from Nat.le_trans HM.out.below.size H9.out.2.1.1)
        have HBD := Lib.hid (show bd.length ≤ 65538 ∧ ((0 : Nat) : Int) :: bd = bodyL (some (N', L')) (N', L) by have h := HBODY.out.1; rw [HM.out.body] at h; exact ⟨by simp at h; omega, HM.out.body.symm⟩)
        clear hw9 HH8 HK8 HB8
        obtain ⟨B, hB⟩ : ∃ B, B = bodyL (some (N', L')) (N', L) := ⟨_, rfl⟩
        rw [← hB] at HBD HBODY
        have HBL := Lib.hid (show (B.length : Int) ≤ 65539 by have := HBODY.out.1; omega)
        replace hB := Lib.hid hB
        go_upto_region 10 with (first
          | ((with_reducible refine gate_builtin (b := .append) (xs := #[.tmp 62, .tmp 63]) rfl ?_); at_builtin; refine Kd.R_append_row (Value.int .u8) (0 : Int) (h1 := fun _ => rfl) (w0 := w9) w.heap.size rfl (.tmp 62) (.tmp 63) 22 5 (.int .u8 0) 1 rfl Try.underlying22 info5v rfl (by decide) (.slice (some ⟨w9.heap.size, 0, none⟩) 1 1) [(0 : Int)] bd BA bd.length bc (fun _ => True) rfl rfl (fun _ _ => trivial) ?aO ?aR ?aB ?aS ?aL ?_; (case aO => exact lit_R1 w9 0 _ HS9.out); (case aR => exact (Kd.R_reads' (Kd.R_alloc HR9.out _)).2.2); (case aB => exact (Below.refl w.heap.size w9).alloc HS9.out _); (case aS => exact Nat.le_trans HS9.out ((Below.refl w.heap.size w9).alloc HS9.out _).size); (case aL => exact (by have := HBD.out.1; simp; omega)); intro v2 w10 hr10 hb10 hgr hat; have hr11 : kb.R 5 w10 w.heap.size (fun _ => True) v2 B := (by have h := hr10; rwa [show ([(0 : Int)] ++ bd : List Int) = B from HBD.out.2] at h); obtain ⟨CA, cc, rfl⟩ := Kd.R_slice hr11; have HR10 := Lib.hid hr11; have HB10 := Lib.hid hb10; clear hr10 hr11 hb10 hgr hat))
        have hbl := HBL.out
        have HS10 := Lib.hid (Nat.le_trans HS9.out HB10.out.size)
        go_upto_region 11 with (first
          | ((with_reducible refine gate_dst (N := 68) rfl ?_); refine make0 (w0 := w10) w10.heap.size rfl _ (.tmp 67) rfl rfl rfl (c := 8 + B.length) ?hn (by omega) (Below.refl _ _) (Nat.le_refl _) ?_; (case hn => (first | rfl | (simp; done) | omega)); intro w11 hr11 hb11 hg11; have HR11 := Lib.hid hr11; have HB11 := Lib.hid hb11; clear hr11 hb11 hg11))
        have HCB := Lib.hid (show kb.C w10 CA B.length B from (Kd.R_reads' HR10.out).2.2)
        have HCL := Lib.hid (show B.length ≤ cc from (Kd.R_reads' HR10.out).2.1)
        go_wp2_with fail
        refine (vsum_any CA cc B w11 (Kd.C_below HCB.out HB11.out) HCL.out HBODY.out.2 (by have := HBL.out; omega)).mono ?_
        rintro e w12 ⟨rfl, ⟨n12, rfl⟩⟩
        obtain ⟨sm, hsm⟩ : ∃ sm, sm = sumB B := ⟨_, rfl⟩
        rw [← hsm]
        have HSM := Lib.hid (show sm < 4294967296 by rw [hsm]; exact sumF_lt _ _ (by decide))
        replace hsm := Lib.hid hsm
        have hix0 := HIX0.out
        have hix1 := HIX1.out
        go_wp2_with fail
        obtain ⟨bl, hble⟩ : ∃ bl, bl = B.length := ⟨_, rfl⟩
        have HBB := Lib.hid (show bl < 4294967296 by have := HBL.out; omega)
        rw [← hble] at HR11
        rw [← hble]
        replace hble := Lib.hid hble
        clear hbl
        go_loopg [12, 75] 3 (fun gk v12 v75 wr => ∃ (k : Nat), v75 = .int .i64 (k : Int) ∧ Hid (k + gk = 3) ∧ Hid (k ≤ 2) ∧ Hid (Below w10.heap.size w10 wr) ∧ Hid (kb.R 5 wr w10.heap.size (fun _ => True) v12 (headF bl sm k)))
        case atStart => exact ⟨0, rfl, Lib.hid rfl, Lib.hid (by decide), Lib.hid (below_drewN HB11.out n12), Lib.hid (Kd.R_drewN HR11.out n12)⟩
        case round =>
          obtain ⟨k, rfl, hg, hk2, hbl1, hrl1⟩ := hrel
          obtain ⟨OA, oc, rfl⟩ := Kd.R_slice hrl1.out
          have HOL := Lib.hid (headF_len bl sm hk2.out)
          have HRX := Lib.hid (fun o => Kd.R_alloc (d := kb) hrl1.out o)
          have HBX := Lib.hid (fun o => hbl1.out.alloc hbl1.out.size o)
          obtain rfl | rfl | rfl : k = 0 ∨ k = 1 ∨ k = 2 := by have := hk2.out; omega
          · go_wp2_with (first
              | ((with_reducible refine gate_builtin (b := .append) (xs := #[.tmp 78, .tmp 90]) rfl ?_); at_builtin; refine Kd.R_append_row (Value.int .u8) (0 : Int) (h1 := fun _ => rfl) (w0 := w10) w10.heap.size rfl (.tmp 78) (.tmp 90) 22 5 (.int .u8 0) 1 rfl Try.underlying22 info5v rfl (by decide) (.slice OA (headF bl sm 0).length oc) (headF bl sm 0) [((bl : Int) / 16777216) % 256, ((bl : Int) / 65536) % 256, ((bl : Int) / 256) % 256, (bl : Int) % 256] (some ⟨wr.heap.size, 0, none⟩) 4 4 (fun _ => True) rfl rfl (fun _ _ => trivial) ?aO ?aR ?aB ?aS ?aL ?_; (case aO => exact HRX.out _); (case aR => exact (Kd.R_reads' (lit_R4 wr _ _ _ _ wr.heap.size (Nat.le_refl _))).2.2); (case aB => exact HBX.out _); (case aS => exact (HBX.out _).size); (case aL => exact (by rw [HOL.out]; omega)); intro v3 w13 hr13 hb13 hgr hat; have hr14 : kb.R 5 w13 w10.heap.size (fun _ => True) v3 (headF bl sm 1) := (by have h := hr13; rwa [show headF bl sm 0 ++ [((bl : Int) / 16777216) % 256, ((bl : Int) / 65536) % 256, ((bl : Int) / 256) % 256, (bl : Int) % 256] = headF bl sm 1 from four_be bl HBB.out] at h); have HR14 := Lib.hid hr14; have HB14 := Lib.hid hb13; clear hr13 hr14 hb13 hgr hat))
            go_roundg (gk - 1)
            case measure => have := hg.out; omega
            case rel => exact ⟨1, by first | rfl | simp, Lib.hid (by have := hg.out; omega), Lib.hid (by decide), HB14, HR14⟩
          · go_wp2_with (first
              | ((with_reducible refine gate_builtin (b := .append) (xs := #[.tmp 78, .tmp 90]) rfl ?_); at_builtin; refine Kd.R_append_row (Value.int .u8) (0 : Int) (h1 := fun _ => rfl) (w0 := w10) w10.heap.size rfl (.tmp 78) (.tmp 90) 22 5 (.int .u8 0) 1 rfl Try.underlying22 info5v rfl (by decide) (.slice OA (headF bl sm 1).length oc) (headF bl sm 1) [((sm : Int) / 16777216) % 256, ((sm : Int) / 65536) % 256, ((sm : Int) / 256) % 256, (sm : Int) % 256] (some ⟨wr.heap.size, 0, none⟩) 4 4 (fun _ => True) rfl rfl (fun _ _ => trivial) ?aO ?aR ?aB ?aS ?aL ?_; (case aO => exact HRX.out _); (case aR => exact (Kd.R_reads' (lit_R4 wr _ _ _ _ wr.heap.size (Nat.le_refl _))).2.2); (case aB => exact HBX.out _); (case aS => exact (HBX.out _).size); (case aL => exact (by rw [HOL.out]; omega)); intro v3 w13 hr13 hb13 hgr hat; have hr14 : kb.R 5 w13 w10.heap.size (fun _ => True) v3 (headF bl sm 2) := (by have h := hr13; rwa [show headF bl sm 1 ++ [((sm : Int) / 16777216) % 256, ((sm : Int) / 65536) % 256, ((sm : Int) / 256) % 256, (sm : Int) % 256] = headF bl sm 2 from by rw [four_be sm HSM.out]; rfl] at h); have HR14 := Lib.hid hr14; have HB14 := Lib.hid hb13; clear hr13 hr14 hb13 hgr hat))
            go_roundg (gk - 1)
            case measure => have := hg.out; omega
            case rel => exact ⟨2, by first | rfl | simp, Lib.hid (by have := hg.out; omega), Lib.hid (by decide), HB14, HR14⟩
          · have HE := Lib.hid (show headF bl sm 2 ++ B = recL (some (N', L')) (N', L) by unfold headF recL; rw [if_neg (by decide), if_neg (by decide), hble.out, hsm.out, hB.out])
            go_wp2_with (first
              | ((with_reducible refine gate_builtin (b := .append) (xs := #[.tmp 93, .tmp 94]) rfl ?_); at_builtin; refine Kd.R_append_row (Value.int .u8) (0 : Int) (h1 := fun _ => rfl) (w0 := w10) w10.heap.size rfl (.tmp 93) (.tmp 94) 22 5 (.int .u8 0) 1 rfl Try.underlying22 info5v rfl (by decide) (.slice OA (headF bl sm 2).length oc) (headF bl sm 2) B CA bl cc (fun _ => True) rfl rfl (fun _ _ => trivial) hrl1.out ?aR hbl1.out hbl1.out.size ?aL ?_; (case aR => exact (by rw [hble.out]; exact Kd.C_below HCB.out hbl1.out)); (case aL => exact (by rw [HOL.out]; have := HBB.out; omega)); intro v3 w13 hr13 hb13 hgr hat; have HR14 := Lib.hid (show kb.R 5 w13 w10.heap.size (fun _ => True) v3 (recL (some (N', L')) (N', L)) from by rw [← HE.out]; exact hr13); have HB14 := Lib.hid hb13; clear hr13 hb13 hgr hat))
            go_ret
            have HB9 := Lib.hid (show Below w.heap.size w9 w13 from HB10.out.trans (HB14.out.mono HS10.out))
            refine ⟨v3, rfl, Kd.R_lower HR14.out HS10.out, H9.out.2.2.trans (HB9.out.mono (Nat.le_of_lt HLT.out)), ?_, ?_⟩
            · exact ⟨Nat.le_trans (Nat.le_trans HM.out.below.size H9.out.2.1.1) HB9.out.size, fun k hk hne => ((HB9.out.block k hk).trans (H9.out.2.1.2 k (Nat.lt_of_lt_of_le hk HM.out.below.size) hne)).trans (HM.out.below.block k hk)⟩
            · exact (HB9.out.block p HLT.out).trans H9.out.1
    · have hk0 := HK.out
      obtain ⟨A', c', hk0, hkc⟩ := hk0
      have HK0 := Lib.hid hk0
      have hne1 : decide ((N' : Int) = (N : Int)) = false := decide_eq_false (by omega)
      have hne2 : ((N' : Int) == (N : Int)) = false := by rw [beq_eq_false_iff_ne]; omega
      have HNE := Lib.hid hNN
      clear hk0 hkc hNN
      go_enter Try.func40, Try.ntmps40
      go_wp2_with (first | ((with_reducible refine gate_dst (N := 16) rfl ?_); refine load_grid rfl (.tmp 3) rfl (g := w.heap.size) ?hx (u := .int .i64 N) (v := .slice A L.length c) HX1.out ?_; (case hx => go_simp)))
      refine (pack_any N HN.out A c L _ (Kd.C_below HC.out HB1.out) HW.out HL.out).mono ?_
      rintro e w3 ⟨v5, rfl, hb3, hr3⟩
      have HB3 := Lib.hid (HB1.out.trans (hb3.mono HB1.out.size))
      have HX3 := Lib.hid (blk_below HX1.out hb3)
      have HK3 := Lib.hid (show w3.heap[p]? = some (.cells #[.int .i64 N', .slice A' L'.length c', .bool true] 79 (0, 0)) from blk_below HK0.out HB3.out)
      obtain ⟨BA, bc, rfl⟩ := Kd.R_slice hr3
      have HR3 := Lib.hid (Kd.R_lower hr3 HB1.out.size)
      obtain ⟨⟨k1, k2, k3⟩, k4, k5, k6⟩ := three_cells HK3.out
      obtain ⟨x1, x2, x3, x4⟩ := two_cells HX3.out
      clear hb3 hr3
      go_upto_region 3 with (fail)
      go_quiet (fail)
      have HM := Lib.hid (show RecM (some (N', L')) p N A c L w (w3.drewN nq) BA bc (shortL N L) 0 (.int .i64 N') (.slice A' L'.length c') (.bool true) from
        { below := below_drewN HB3.out nq, f := HX3.out, k := HK3.out, row := Kd.R_drewN HR3.out nq, body := by unfold bodyL; dsimp only; rw [if_neg HNE.out]; rfl, kind := by decide })
      obtain ⟨bd, hbd⟩ : ∃ bd, bd = shortL N L := ⟨_, rfl⟩
      rw [← hbd] at HM
      rw [← hbd]
      obtain ⟨wz, hwz⟩ : ∃ wz : World, wz = w3.drewN nq := ⟨_, rfl⟩
      rw [← hwz] at HM
      rw [← hwz]
      clear hbd hwz HX3 HK3 HR3 HB3 k1 k2 k3 k4 k5 k6 x1 x2 x3 x4 HK hne1 hne2
      obtain ⟨⟨k1, k2, k3⟩, k4, k5, k6⟩ := three_cells HM.out.k
      go_upto_region 9 with (first
        | ((with_reducible refine gate_dst (N := 56) rfl ?_); refine load_grid rfl (.tmp 3) rfl (g := w.heap.size) ?hx (u := .int .i64 N) (v := .slice A L.length c) HM.out.f ?_; (case hx => go_simp))
        | ((with_reducible refine gate_store (t := 26) (p := 58) rfl ?_); refine store_keep rfl rfl (.tmp 58) (.tmp 56) rfl (g := p) ?hp (u := (N : Int)) (A := A) (n := L.length) (c := c) ?hv HM.out.k ?_; (case hp => go_simp); (case hv => go_simp); intro w8 hh8 hk8 hb8; have HH8 := Lib.hid hh8; have HK8 := Lib.hid hk8; have HB8 := Lib.hid hb8; obtain ⟨⟨m1, m2, m3⟩, m4, m5, m6⟩ := three_cells hh8; clear hh8 hk8 hb8))
      clear k1 k2 k3 k4 k5 k6 m1 m2 m3 m4 m5 m6
      obtain ⟨w9, hw9⟩ : ∃ w9 : World, w9 = w8.setCell ⟨p, 2, none⟩ (.bool true) := ⟨_, rfl⟩
      rw [← hw9]
      have H9 := Lib.hid (stored_true HLT.out HM.out.below HH8.out HK8.out HB8.out)
      rw [← hw9] at H9
      have HR9 := Lib.hid (show kb.R 5 w9 w.heap.size (fun _ => True) (.slice BA bd.length bc) bd from Kd.R_mono (Kd.R_kept (Kd.R_types HM.out.row HM.out.k (by decide)) H9.out.2.1 (fun k ho he => ho.2 he)) (fun _ _ => trivial))
      have HS9 := Lib.hid (show w.heap.size ≤ w9.heap.size from Nat.le_trans HM.out.below.size H9.out.2.1.1)
      have HBD := Lib.hid (show bd.length ≤ 65538 ∧ ((0 : Nat) : Int) :: bd = bodyL (some (N', L')) (N, L) by have h := HBODY.out.1; rw [HM.out.body] at h; exact ⟨by simp at h; omega, HM.out.body.symm⟩)
      clear hw9 HH8 HK8 HB8
      obtain ⟨B, hB⟩ : ∃ B, B = bodyL (some (N', L')) (N, L) := ⟨_, rfl⟩
      rw [← hB] at HBD HBODY
      have HBL := Lib.hid (show (B.length : Int) ≤ 65539 by have := HBODY.out.1; omega)
      replace hB := Lib.hid hB
      go_upto_region 10 with (first
        | ((with_reducible refine gate_builtin (b := .append) (xs := #[.tmp 62, .tmp 63]) rfl ?_); at_builtin; refine Kd.R_append_row (Value.int .u8) (0 : Int) (h1 := fun _ => rfl) (w0 := w9) w.heap.size rfl (.tmp 62) (.tmp 63) 22 5 (.int .u8 0) 1 rfl Try.underlying22 info5v rfl (by decide) (.slice (some ⟨w9.heap.size, 0, none⟩) 1 1) [(0 : Int)] bd BA bd.length bc (fun _ => True) rfl rfl (fun _ _ => trivial) ?aO ?aR ?aB ?aS ?aL ?_; (case aO => exact lit_R1 w9 0 _ HS9.out); (case aR => exact (Kd.R_reads' (Kd.R_alloc HR9.out _)).2.2); (case aB => exact (Below.refl w.heap.size w9).alloc HS9.out _); (case aS => exact Nat.le_trans HS9.out ((Below.refl w.heap.size w9).alloc HS9.out _).size); (case aL => exact (by have := HBD.out.1; simp; omega)); intro v2 w10 hr10 hb10 hgr hat; have hr11 : kb.R 5 w10 w.heap.size (fun _ => True) v2 B := (by have h := hr10; rwa [show ([(0 : Int)] ++ bd : List Int) = B from HBD.out.2] at h); obtain ⟨CA, cc, rfl⟩ := Kd.R_slice hr11; have HR10 := Lib.hid hr11; have HB10 := Lib.hid hb10; clear hr10 hr11 hb10 hgr hat))
      have hbl := HBL.out
      have HS10 := Lib.hid (Nat.le_trans HS9.out HB10.out.size)
      go_upto_region 11 with (first
        | ((with_reducible refine gate_dst (N := 68) rfl ?_); refine make0 (w0 := w10) w10.heap.size rfl _ (.tmp 67) rfl rfl rfl (c := 8 + B.length) ?hn (by omega) (Below.refl _ _) (Nat.le_refl _) ?_; (case hn => (first | rfl | (simp; done) | omega)); intro w11 hr11 hb11 hg11; have HR11 := Lib.hid hr11; have HB11 := Lib.hid hb11; clear hr11 hb11 hg11))
      have HCB := Lib.hid (show kb.C w10 CA B.length B from (Kd.R_reads' HR10.out).2.2)
      have HCL := Lib.hid (show B.length ≤ cc from (Kd.R_reads' HR10.out).2.1)
      go_wp2_with fail
      refine (vsum_any CA cc B w11 (Kd.C_below HCB.out HB11.out) HCL.out HBODY.out.2 (by have := HBL.out; omega)).mono ?_
      rintro e w12 ⟨rfl, ⟨n12, rfl⟩⟩
      obtain ⟨sm, hsm⟩ : ∃ sm, sm = sumB B := ⟨_, rfl⟩
      rw [← hsm]
      have HSM := Lib.hid (show sm < 4294967296 by rw [hsm]; exact sumF_lt _ _ (by decide))
      replace hsm := Lib.hid hsm
      have hix0 := HIX0.out
      have hix1 := HIX1.out
      go_wp2_with fail
      obtain ⟨bl, hble⟩ : ∃ bl, bl = B.length := ⟨_, rfl⟩
      have HBB := Lib.hid (show bl < 4294967296 by have := HBL.out; omega)
      rw [← hble] at HR11
      rw [← hble]
      replace hble := Lib.hid hble
      clear hbl
      go_loopg [12, 75] 3 (fun gk v12 v75 wr => ∃ (k : Nat), v75 = .int .i64 (k : Int) ∧ Hid (k + gk = 3) ∧ Hid (k ≤ 2) ∧ Hid (Below w10.heap.size w10 wr) ∧ Hid (kb.R 5 wr w10.heap.size (fun _ => True) v12 (headF bl sm k)))
      case atStart => exact ⟨0, rfl, Lib.hid rfl, Lib.hid (by decide), Lib.hid (below_drewN HB11.out n12), Lib.hid (Kd.R_drewN HR11.out n12)⟩
      case round =>
        obtain ⟨k, rfl, hg, hk2, hbl1, hrl1⟩ := hrel
        obtain ⟨OA, oc, rfl⟩ := Kd.R_slice hrl1.out
        have HOL := Lib.hid (headF_len bl sm hk2.out)
        have HRX := Lib.hid (fun o => Kd.R_alloc (d := kb) hrl1.out o)
        have HBX := Lib.hid (fun o => hbl1.out.alloc hbl1.out.size o)
        obtain rfl | rfl | rfl : k = 0 ∨ k = 1 ∨ k = 2 := by have := hk2.out; omega
        · go_wp2_with (first
            | ((with_reducible refine gate_builtin (b := .append) (xs := #[.tmp 78, .tmp 90]) rfl ?_); at_builtin; refine Kd.R_append_row (Value.int .u8) (0 : Int) (h1 := fun _ => rfl) (w0 := w10) w10.heap.size rfl (.tmp 78) (.tmp 90) 22 5 (.int .u8 0) 1 rfl Try.underlying22 info5v rfl (by decide) (.slice OA (headF bl sm 0).length oc) (headF bl sm 0) [((bl : Int) / 16777216) % 256, ((bl : Int) / 65536) % 256, ((bl : Int) / 256) % 256, (bl : Int) % 256] (some ⟨wr.heap.size, 0, none⟩) 4 4 (fun _ => True) rfl rfl (fun _ _ => trivial) ?aO ?aR ?aB ?aS ?aL ?_; (case aO => exact HRX.out _); (case aR => exact (Kd.R_reads' (lit_R4 wr _ _ _ _ wr.heap.size (Nat.le_refl _))).2.2); (case aB => exact HBX.out _); (case aS => exact (HBX.out _).size); (case aL => exact (by rw [HOL.out]; omega)); intro v3 w13 hr13 hb13 hgr hat; have hr14 : kb.R 5 w13 w10.heap.size (fun _ => True) v3 (headF bl sm 1) := (by have h := hr13; rwa [show headF bl sm 0 ++ [((bl : Int) / 16777216) % 256, ((bl : Int) / 65536) % 256, ((bl : Int) / 256) % 256, (bl : Int) % 256] = headF bl sm 1 from four_be bl HBB.out] at h); have HR14 := Lib.hid hr14; have HB14 := Lib.hid hb13; clear hr13 hr14 hb13 hgr hat))
          go_roundg (gk - 1)
          case measure => have := hg.out; omega
          case rel => exact ⟨1, by first | rfl | simp, Lib.hid (by have := hg.out; omega), Lib.hid (by decide), HB14, HR14⟩
        · go_wp2_with (first
            | ((with_reducible refine gate_builtin (b := .append) (xs := #[.tmp 78, .tmp 90]) rfl ?_); at_builtin; refine Kd.R_append_row (Value.int .u8) (0 : Int) (h1 := fun _ => rfl) (w0 := w10) w10.heap.size rfl (.tmp 78) (.tmp 90) 22 5 (.int .u8 0) 1 rfl Try.underlying22 info5v rfl (by decide) (.slice OA (headF bl sm 1).length oc) (headF bl sm 1) [((sm : Int) / 16777216) % 256, ((sm : Int) / 65536) % 256, ((sm : Int) / 256) % 256, (sm : Int) % 256] (some ⟨wr.heap.size, 0, none⟩) 4 4 (fun _ => True) rfl rfl (fun _ _ => trivial) ?aO ?aR ?aB ?aS ?aL ?_; (case aO => exact HRX.out _); (case aR => exact (Kd.R_reads' (lit_R4 wr _ _ _ _ wr.heap.size (Nat.le_refl _))).2.2); (case aB => exact HBX.out _); (case aS => exact (HBX.out _).size); (case aL => exact (by rw [HOL.out]; omega)); intro v3 w13 hr13 hb13 hgr hat; have hr14 : kb.R 5 w13 w10.heap.size (fun _ => True) v3 (headF bl sm 2) := (by have h := hr13; rwa [show headF bl sm 1 ++ [((sm : Int) / 16777216) % 256, ((sm : Int) / 65536) % 256, ((sm : Int) / 256) % 256, (sm : Int) % 256] = headF bl sm 2 from by rw [four_be sm HSM.out]; rfl] at h); have HR14 := Lib.hid hr14; have HB14 := Lib.hid hb13; clear hr13 hr14 hb13 hgr hat))
          go_roundg (gk - 1)
          case measure => have := hg.out; omega
          case rel => exact ⟨2, by first | rfl | simp, Lib.hid (by have := hg.out; omega), Lib.hid (by decide), HB14, HR14⟩
        · have HE := Lib.hid (show headF bl sm 2 ++ B = recL (some (N', L')) (N, L) by unfold headF recL; rw [if_neg (by decide), if_neg (by decide), hble.out, hsm.out, hB.out])
          go_wp2_with (first
            | ((with_reducible refine gate_builtin (b := .append) (xs := #[.tmp 93, .tmp 94]) rfl ?_); at_builtin; refine Kd.R_append_row (Value.int .u8) (0 : Int) (h1 := fun _ => rfl) (w0 := w10) w10.heap.size rfl (.tmp 93) (.tmp 94) 22 5 (.int .u8 0) 1 rfl Try.underlying22 info5v rfl (by decide) (.slice OA (headF bl sm 2).length oc) (headF bl sm 2) B CA bl cc (fun _ => True) rfl rfl (fun _ _ => trivial) hrl1.out ?aR hbl1.out hbl1.out.size ?aL ?_; (case aR => exact (by rw [hble.out]; exact Kd.C_below HCB.out hbl1.out)); (case aL => exact (by rw [HOL.out]; have := HBB.out; omega)); intro v3 w13 hr13 hb13 hgr hat; have HR14 := Lib.hid (show kb.R 5 w13 w10.heap.size (fun _ => True) v3 (recL (some (N', L')) (N, L)) from by rw [← HE.out]; exact hr13); have HB14 := Lib.hid hb13; clear hr13 hb13 hgr hat))
          go_ret
          have HB9 := Lib.hid (show Below w.heap.size w9 w13 from HB10.out.trans (HB14.out.mono HS10.out))
          refine ⟨v3, rfl, Kd.R_lower HR14.out HS10.out, H9.out.2.2.trans (HB9.out.mono (Nat.le_of_lt HLT.out)), ?_, ?_⟩
          · exact ⟨Nat.le_trans (Nat.le_trans HM.out.below.size H9.out.2.1.1) HB9.out.size, fun k hk hne => ((HB9.out.block k hk).trans (H9.out.2.1.2 k (Nat.lt_of_lt_of_le hk HM.out.below.size) hne)).trans (HM.out.below.block k hk)⟩
          · exact (HB9.out.block p HLT.out).trans H9.out.1
end Go.Proofs.Ytomildjihlbbmaa
