/-
  The reference's record of a field; the number at the head of a record.
-/
import Derived.Test.YtomildjihlbbmaaRbo
namespace Go.Proofs.Ytomildjihlbbmaa
open Go.RowKit Flt Num Go.Proofs.YtomildjihlbbmaaW.PrintWords Go.Proofs.YtomildjihlbbmaaW.PrintLast Go.Proofs.YtomildjihlbbmaaW.PrintMore Go.Proofs.Ytomildjihlbbmaa.PVaultReads
set_option linter.unusedVariables false
set_option linter.unusedSimpArgs false
attribute [local go_sem] run_f64bits run_f64from run_f32bits run_f32from
set_option maxHeartbeats 16000000 in
set_option maxRecDepth 100000 in
theorem rrecord_any (ah : Option Fld) (v : Value) (N : Nat) (A : Option Addr) (c : Nat) (L : List (Nat × Nat)) (hf : FOk (N, L)) (ha : ∀ g, ah = some g → FOk g) (w : World) (hC : kc.C w A L.length L) (hK : Lst ah v w) :
    Calls Try.prog 58 #[v, .agg #[.int .i64 N, .slice A L.length c]] w fun e w' => ∃ u, e = .returned u ∧ kb.R 5 w' w.heap.size (fun _ => True) u (recL ah (N, L)) ∧ Below w.heap.size w w' := by
  have HX1 := Lib.hid (heap_alloc_new w (.cells #[.int .i64 N, .slice A L.length c] 26))
  have HB1 := Lib.hid (show Below w.heap.size w (w.alloc (.cells #[.int .i64 N, .slice A L.length c] 26)) from below_alloc (Below.refl _ _) _)
  have HBODY := Lib.hid (bodyL_ok hf ha)
  have HCALL := Lib.hid (rbody_any ah v N A c L hf ha _ (Kd.C_below hC HB1.out) (hK.below HB1.out))
  clear hf ha hC hK
  go_enter Try.func58, Try.ntmps58
  go_wp2_with (first | ((with_reducible refine gate_dst (N := 8) rfl ?_); refine load_grid rfl (.tmp 3) rfl (g := w.heap.size) ?hx (u := .int .i64 N) (v := .slice A L.length c) HX1.out ?_; (case hx => go_simp)))
  refine HCALL.out.mono ?_
  rintro e w2 ⟨u2, rfl, hr2, hb2⟩
  obtain ⟨B, hB⟩ : ∃ B, B = bodyL ah (N, L) := ⟨_, rfl⟩
  rw [← hB] at hr2 HBODY
  have HBB := Lib.hid hB
  have HB2 := Lib.hid (HB1.out.trans (hb2.mono HB1.out.size))
  obtain ⟨CA, cc, rfl⟩ := Kd.R_slice hr2
  have HR2 := Lib.hid (Kd.R_lower hr2 HB1.out.size)
  have HCL := Lib.hid (Kd.R_reads' hr2).2.1
  have HBL := Lib.hid (show B.length < 65540 by have := HBODY.out.1; omega)
  have HC2 := Lib.hid (Kd.R_reads' hr2).2.2
  have hbl2 : (B.length : Int) < 4294967296 := by have := HBL.out; omega
  clear hb2 hr2 hB HR2
  go_wp2_with fail
  refine (four_any B.length (by have := HBL.out; omega) w2).mono ?_
  rintro e w3 ⟨u3, rfl, hr3, hb3⟩
  obtain ⟨FA, fc, rfl⟩ := Kd.R_slice hr3
  have HR3 := Lib.hid hr3
  have HB3 := Lib.hid hb3
  clear hb3 hr3 hbl2
  go_wp2_with fail
  refine (rsum_any CA cc B w3 (Kd.C_below HC2.out HB3.out) HCL.out HBODY.out.2 (by have := HBL.out; omega)).mono ?_
  rintro e w4 ⟨rfl, ⟨n4, rfl⟩⟩
  obtain ⟨sm, hsm⟩ : ∃ sm, sm = sumB B := ⟨_, rfl⟩
  rw [← hsm]
  have HSM := Lib.hid (show sm < 4294967296 by rw [hsm]; exact sumF_lt _ _ (by decide))
  replace hsm := Lib.hid hsm
  go_wp2_with fail
  refine (four_any sm HSM.out _).mono ?_
  rintro e w5 ⟨u5, rfl, hr5, hb5⟩
  have HB4 := Lib.hid (show Below w2.heap.size w2 (w3.drewN n4) from below_drewN HB3.out n4)
  have HB5 := Lib.hid (HB4.out.trans (hb5.mono HB4.out.size))
  obtain ⟨GA, gc, rfl⟩ := Kd.R_slice hr5
  have HR5 := Lib.hid (Kd.R_below (Kd.R_drewN HR3.out n4) hb5)
  have HG5 := Lib.hid (Kd.R_reads' hr5).2.2
  have HL1 := Lib.hid (be_length 4 B.length)
  have HL2 := Lib.hid (be_length 4 sm)
  clear hb5 hr5
  go_wp2_with (first
    | ((with_reducible refine gate_builtin (b := .append) (xs := #[.tmp 13, .tmp 16]) rfl ?_); at_builtin; refine Kd.R_append_row (Value.int .u8) (0 : Int) (h1 := fun _ => rfl) (w0 := w2) w2.heap.size rfl (.tmp 13) (.tmp 16) 22 5 (.int .u8 0) 1 rfl Try.underlying22 info5v rfl (by decide) (.slice FA (be 4 B.length).length fc) (be 4 B.length) (be 4 sm) GA (be 4 sm).length gc (fun _ => True) rfl rfl (fun _ _ => trivial) HR5.out HG5.out HB5.out HB5.out.size ?aL ?_; (case aL => exact (by rw [HL1.out, HL2.out]; decide)); intro v6 w6 hr6 hb6 hgr hat; obtain ⟨HA, hc, rfl⟩ := Kd.R_slice hr6; have HR6 := Lib.hid hr6; have HB6 := Lib.hid hb6; have HL6 := Lib.hid (show (be 4 B.length ++ be 4 sm).length = 8 by rw [List.length_append, HL1.out, HL2.out]); clear hr6 hb6 hgr hat)
    | ((with_reducible refine gate_builtin (b := .append) (xs := #[.tmp 18, .tmp 19]) rfl ?_); at_builtin; refine Kd.R_append_row (Value.int .u8) (0 : Int) (h1 := fun _ => rfl) (w0 := w2) w2.heap.size rfl (.tmp 18) (.tmp 19) 22 5 (.int .u8 0) 1 rfl Try.underlying22 info5v rfl (by decide) (.slice HA (be 4 B.length ++ be 4 sm).length hc) (be 4 B.length ++ be 4 sm) B CA B.length cc (fun _ => True) ?aV rfl (fun _ _ => trivial) HR6.out (Kd.C_below HC2.out HB6.out) HB6.out HB6.out.size ?aL ?_; (case aV => first | rfl | go_simp); (case aL => exact (by rw [HL6.out]; have := HBL.out; omega)); intro v7 w7 hr7 hb7 hgr hat; have HR7 := Lib.hid (show kb.R 5 w7 w2.heap.size (fun _ => True) v7 (recL ah (N, L)) from by unfold recL; rw [← HBB.out, ← hsm.out]; exact hr7); have HB7 := Lib.hid (HB2.out.trans (hb7.mono HB2.out.size)); clear hr7 hb7 hgr hat))
  go_ret
  exact ⟨v7, rfl, Kd.R_lower HR7.out HB2.out.size, HB7.out⟩
end Go.Proofs.Ytomildjihlbbmaa

/-
  The number at the head of a record; what is asked of a record's bytes, in plain words.
-/
namespace Go.Proofs.Ytomildjihlbbmaa
open Go.RowKit Flt Num Go.Proofs.YtomildjihlbbmaaW.PrintWords Go.Proofs.YtomildjihlbbmaaW.PrintLast Go.Proofs.YtomildjihlbbmaaW.PrintMore Go.Proofs.Ytomildjihlbbmaa.PVaultReads
set_option linter.unusedVariables false
set_option linter.unusedSimpArgs false
theorem i64_or_nat (a b : Nat) (ha : a < 9223372036854775808) (hb : b < 9223372036854775808) : bits .or .i64 (a : Int) (b : Int) = ((a ||| b : Nat) : Int) := by
  have hx : a ||| b < 2 ^ 63 := Nat.or_lt_two_pow (by omega) (by omega)
  show IntKind.i64.wrap ((BitVec.ofInt 64 (a : Int) ||| BitVec.ofInt 64 (b : Int)).toNat : Int) = _
  rw [BitVec.toNat_or, show (BitVec.ofInt 64 (a : Int)).toNat = a from by simp; omega, show (BitVec.ofInt 64 (b : Int)).toNat = b from by simp; omega, IntKind.wrap_i64]
  omega
theorem or_num (c0 c1 c2 c3 : Nat) (h0 : c0 < 256) (h1 : c1 < 256) (h2 : c2 < 256) (h3 : c3 < 256) :
    bits .or .i64 (bits .or .i64 (bits .or .i64 ((c0 : Int) * 16777216) ((c1 : Int) * 65536)) ((c2 : Int) * 256)) (c3 : Int) = ((c0 * 16777216 + c1 * 65536 + c2 * 256 + c3 : Nat) : Int) := by
  rw [show (c0 : Int) * 16777216 = ((c0 * 16777216 : Nat) : Int) from by omega, show (c1 : Int) * 65536 = ((c1 * 65536 : Nat) : Int) from by omega, show (c2 : Int) * 256 = ((c2 * 256 : Nat) : Int) from by omega,
    i64_or_nat _ _ (by omega) (by omega), nat_join 24 _ _ (by omega) (by omega), i64_or_nat _ _ (by omega) (by omega), nat_join 16 _ _ (by omega) (by omega), i64_or_nat _ _ (by omega) (by omega), nat_join 8 _ _ (by omega) (by omega)]
theorem byte_at {l : List Int} (hb : Bytes l) {i : Nat} (hi : i < l.length) : ∃ c : Nat, l.getD i 0 = (c : Int) ∧ c < 256 ∧ (l.getD i 0).toNat = c := by
  have h : 0 ≤ l.getD i 0 ∧ l.getD i 0 < 256 := by rw [getD_lt hi]; exact hb _ (List.getElem_mem hi)
  exact ⟨(l.getD i 0).toNat, by omega, by omega, rfl⟩
theorem num4_lt {l : List Int} (hb : Bytes l) (h : 4 ≤ l.length) : num4 l < 4294967296 := by
  obtain ⟨c0, _, h0, e0⟩ := byte_at hb (show 0 < l.length by omega)
  obtain ⟨c1, _, h1, e1⟩ := byte_at hb (show 1 < l.length by omega)
  obtain ⟨c2, _, h2, e2⟩ := byte_at hb (show 2 < l.length by omega)
  obtain ⟨c3, _, h3, e3⟩ := byte_at hb (show 3 < l.length by omega)
  unfold num4
  rw [e0, e1, e2, e3]
  omega
theorem num_bits {l : List Int} (hb : Bytes l) (h : 4 ≤ l.length) : bits .or .i64 (bits .or .i64 (bits .or .i64 (l.getD 0 0 * 16777216) (l.getD 1 0 * 65536)) (l.getD 2 0 * 256)) (l.getD 3 0) = ((num4 l : Nat) : Int) := by
  obtain ⟨c0, f0, h0, e0⟩ := byte_at hb (show 0 < l.length by omega)
  obtain ⟨c1, f1, h1, e1⟩ := byte_at hb (show 1 < l.length by omega)
  obtain ⟨c2, f2, h2, e2⟩ := byte_at hb (show 2 < l.length by omega)
  obtain ⟨c3, f3, h3, e3⟩ := byte_at hb (show 3 < l.length by omega)
  unfold num4
  rw [e0, e1, e2, e3, f0, f1, f2, f3]
  exact or_num c0 c1 c2 c3 h0 h1 h2 h3
theorem number_f56 (l : List Int) (hb : Bytes l) (h : 4 ≤ l.length) : penumbraref22_number.f l = some ((num4 l : Nat) : Int) := by
  have w : ∀ i : Nat, i < 4 → ∀ m : Int, 0 ≤ m → m ≤ 16777216 → wrap64 (wrap64 (rd l (i : Int)) * m) = l.getD i 0 * m := by
    intro i hi m h0 h1
    have hc := hb _ (List.getElem_mem (show i < l.length by omega))
    have e : rd l (i : Int) = l.getD i 0 := rfl
    rw [e, getD_lt (show i < l.length by omega)]
    have h2 : l[i] * m ≤ 255 * 16777216 := Int.mul_le_mul (by omega) h1 h0 (by decide)
    have h3 : 0 ≤ l[i] * m := Int.mul_nonneg hc.1 h0
    rw [wrap64_id (n := l[i]) (by omega) (by omega), wrap64_id (by omega) (by omega)]
  have w3 : wrap64 (rd l 3) = l.getD 3 0 := by
    have hc := hb _ (List.getElem_mem (show 3 < l.length by omega))
    have e : rd l 3 = l.getD 3 0 := rfl
    rw [e, getD_lt (show 3 < l.length by omega)]
    exact wrap64_id (by omega) (by omega)
  unfold penumbraref22_number.f
  rw [if_pos (by omega), if_pos (by omega), if_pos (by omega), if_pos (by omega)]
  have a0 := w 0 (by decide) 16777216 (by decide) (by decide)
  have a1 := w 1 (by decide) 65536 (by decide) (by decide)
  have a2 := w 2 (by decide) 256 (by decide) (by decide)
  rw [show rd l (((0 : Nat)) : Int) = rd l 0 from rfl] at a0
  rw [show rd l (((1 : Nat)) : Int) = rd l 1 from rfl] at a1
  rw [show rd l (((2 : Nat)) : Int) = rd l 2 from rfl] at a2
  rw [a0, a1, a2, w3, num_bits hb h]
theorem num_bitsW {l : List Int} (hb : Bytes l) (h : 4 ≤ l.length) : bits .or .i64 (bits .or .i64 (bits .or .i64 (wrap64 (wrap64 (l.getD 0 0) * 16777216)) (wrap64 (wrap64 (l.getD 1 0) * 65536))) (wrap64 (wrap64 (l.getD 2 0) * 256))) (wrap64 (l.getD 3 0)) = ((num4 l : Nat) : Int) := by
  have hf := number_f56 l hb h
  unfold penumbraref22_number.f at hf
  rw [if_pos (by omega), if_pos (by omega), if_pos (by omega), if_pos (by omega)] at hf
  exact Option.some.inj hf
theorem num56_any (A : Option Addr) (c : Nat) (l : List Int) (w : World) (hC : kb.C w A l.length l) (hc : l.length ≤ c) (hb : Bytes l) (h : 4 ≤ l.length) :
    Calls Try.prog 56 #[.slice A l.length c] w fun e w' => e = .returned (.int .i64 (num4 l : Nat)) ∧ Drawn0 w w' := penumbraref22_number.calls A c l _ w hC hc (number_f56 l hb h)
/-- why there is no record at the head -/
theorem no_next_short {ah : Option Fld} {b : List Int} (h : b.length ≤ 8) (f : Fld) (n : Nat) : ¬ IsNext ah b f n := fun ⟨h1, h2, h3, _⟩ => by omega
theorem no_next_num {ah : Option Fld} {b : List Int} (h : num4 b < 1 ∨ b.length < 8 + num4 b) (f : Fld) (n : Nat) : ¬ IsNext ah b f n := fun ⟨h1, h2, h3, _⟩ => by omega
theorem no_next_packs {ah : Option Fld} {b : List Int} (h : ∀ N L, ¬ Packs ((b.take (8 + num4 b)).drop 9) N L) (f : Fld) (n : Nat) : ¬ IsNext ah b f n := fun ⟨h1, _, _, N, L, hp, _⟩ => h N L (by rw [← h1]; exact hp)
theorem no_next_ahead {ah : Option Fld} {b : List Int} {N : Nat} {L : List (Nat × Nat)} (hp : Packs ((b.take (8 + num4 b)).drop 9) N L) (hk : b.getD 8 0 = 1) (ha : ∀ L', ah ≠ some (N, L')) (f : Fld) (n : Nat) : ¬ IsNext ah b f n := fun ⟨h1, _, _, N', L', hp', hf, _⟩ => by
  rw [h1] at hp'
  obtain ⟨rfl, rfl⟩ := packs_unique hp hp'
  rw [if_pos hk] at hf
  obtain ⟨L2, e, _⟩ := hf
  exact ha L2 e
/-- the field that the body tells -/
def told (ah : Option Fld) (b : List Int) (N : Nat) (L : List (Nat × Nat)) (f : Fld) : Prop := if b.getD 8 0 = 1 then ∃ L', ah = some (N, L') ∧ f = (N, xorL L L') else f = (N, L)
theorem no_next_record {ah : Option Fld} {b : List Int} {N : Nat} {L : List (Nat × Nat)} {f : Fld} (hp : Packs ((b.take (8 + num4 b)).drop 9) N L) (ht : told ah b N L f) (hr : recL ah f ≠ b.take (8 + num4 b)) (f' : Fld) (n : Nat) : ¬ IsNext ah b f' n := fun ⟨h1, _, _, N', L', hp', hf, hr'⟩ => by
  rw [h1] at hp' hr'
  obtain ⟨rfl, rfl⟩ := packs_unique hp hp'
  unfold told at ht
  have e : f' = f := by
    by_cases hk : b.getD 8 0 = 1
    · rw [if_pos hk] at hf ht
      obtain ⟨L1, e1, rfl⟩ := hf
      obtain ⟨L2, e2, rfl⟩ := ht
      rw [e1] at e2
      injection e2 with e2
      injection e2 with _ e2
      rw [e2]
    · rw [if_neg hk] at hf ht
      rw [hf, ht]
  subst e
  exact hr hr'
theorem is_next {ah : Option Fld} {b : List Int} {N : Nat} {L : List (Nat × Nat)} {f : Fld} (h1 : 1 ≤ num4 b) (h2 : 8 + num4 b ≤ b.length) (hp : Packs ((b.take (8 + num4 b)).drop 9) N L) (ht : told ah b N L f) (hr : recL ah f = b.take (8 + num4 b)) : IsNext ah b f (8 + num4 b) :=
  ⟨rfl, h1, h2, N, L, hp, ht, hr⟩
theorem told_ok {ah : Option Fld} {b : List Int} {N : Nat} {L : List (Nat × Nat)} {f : Fld} (ha : ∀ g, ah = some g → FOk g) (hp : Packs ((b.take (8 + num4 b)).drop 9) N L) (ht : told ah b N L f) : FOk f := by
  unfold told at ht
  by_cases hk : b.getD 8 0 = 1
  · rw [if_pos hk] at ht
    obtain ⟨L2, e2, rfl⟩ := ht
    exact xor_ok hp.ok (ha _ e2)
  · rw [if_neg hk] at ht
    rw [ht]; exact hp.ok
end Go.Proofs.Ytomildjihlbbmaa
