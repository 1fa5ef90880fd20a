/-
  PrimeLines: for every p, m and t the program's Line and the reference's Line tell the same error and the same cells in the same order, so the law returns true; there are no conditions.
-/
import Derived.Test.YtkibmfchjaiodaaRows
import Derived.Test.YtkibmfchjaiodaaLines
import Derived.Test.YtkibmfchjaiodaaFw
import Derived.WalkKit
import Derived.ProofKit
import Derived.OpenShut
import Derived.ChangeOld
import Derived.Below
namespace Go.Proofs.Ytkibmfchjaiodaa.primeLines
open Go.ChangeShapes Go.WideShapes Go.ChangeAt Go.RowKit
open Go.Proofs.Ytkibmfchjaiodaa.PPrimeLines Go.Proofs.YtkibmfchjaiodaaW.PrintWords
set_option linter.unusedVariables false

theorem ret_b {a b : Bool} (h : a = b) : Ending.returned (.bool a) = Ending.returned (.bool b) := by rw [h]
theorem own : ownKnob Try.prog.godebug = none := by kernel_rfl

set_option maxHeartbeats 1000000 in
theorem walk (a0 a1 a2 : Int) (w : World) :
    Calls Try.prog 3 #[.int .i64 a0, .int .i64 a1, .int .i64 a2] w fun e w' => e = .returned (.bool true) ∧ Below w.heap.size w w' := by
  obtain ⟨xs, c, hx⟩ : ∃ xs c, lineOf a0 a1 a2 = (xs, c) := ⟨_, _, rfl⟩
  have H1 := Lib.hid (line_prog a0 a1 a2)
  have H2 := Lib.hid (line_ref a0 a1 a2)
  have hlen := lineOf_length a0 a1 a2
  rw [hx] at H1 H2 hlen
  have hlen2 : xs.length ≤ 61 := hlen
  clear hx hlen
  go_enter Try.func3, Try.ntmps3
  go_wp2_with fail
  refine (alive_calls _).mono ?_
  rintro e w1 ⟨rfl, hb1⟩
  have HB1 := Lib.hid hb1
  clear hb1
  go_wp2_with fail
  refine (prime_Line.calls 100 a0 a1 a2 xs c _ H1.out).mono ?_
  rintro e w2 ⟨v1, rfl, hr1, hb2⟩
  obtain ⟨A1, c1, rfl, hc1, hC1⟩ := Kd.R_reads hr1
  have HC1 := Lib.hid hC1
  have HB2 := Lib.hid hb2
  clear hr1 hC1 hb2
  go_wp2_with fail
  refine (penumbraref15_Line.calls 5000 a0 a1 a2 xs c _ H2.out).mono ?_
  rintro e w3 ⟨v2, rfl, hr2, hb3⟩
  obtain ⟨A2, c2, rfl, hc2, hC2⟩ := Kd.R_reads hr2
  have HC1' := Lib.hid (Kd.C_below HC1.out hb3)
  have HC2 := Lib.hid hC2
  have HB3 := Lib.hid ((HB1.out.trans (HB2.out.mono HB1.out.size)).trans (hb3.mono (Nat.le_trans HB1.out.size HB2.out.size)))
  clear hr2 hC2 hb3 HC1 HB2 HB1
  go_wp2_with fail
  go_loopg [11] xs.length (fun k i wr => ∃ j : Nat, j + k = xs.length ∧ i = .int .i64 j ∧ ∃ n, wr = w3.drewN n)
  case atStart => exact ⟨0, by omega, rfl, 0, rfl⟩
  case round =>
    obtain ⟨j, hj, rfl, n, rfl⟩ := hrel
    by_cases hlt : j < xs.length
    · obtain ⟨ad1, rfl, d1, d2⟩ := at_T28 HC1'.out (j : Int) (by omega) (by omega)
      obtain ⟨ad2, rfl, d3, d4⟩ := at_T28 HC2.out (j : Int) (by omega) (by omega)
      have q1 : decide ((j : Int) < xs.length) = true := by simp; omega
      simp only [Int.toNat_natCast] at d1 d2 d3 d4
      go_wp2_with fail
      go_quiet (fail)
      go_wp2_with fail
      go_roundg (gk - 1)
      case measure => omega
      case rel => exact ⟨j + 1, by omega, by go_num, n + nq, rfl⟩
    · have hjx : j = xs.length := by omega
      subst hjx
      go_wp2
      go_ret
      exact ⟨rfl, Below.drewN HB3.out n⟩
/-! ### THE ROW's STEP: WRITTEN OUT: LEAVE IT -/
set_option maxRecDepth 100000 in
theorem lifted (os : Os) (started : os.Started) (H : Type) (enc : TypeId × Value → H) :
    ReturnsInHanded {} Try.checked os 3 .any (Rows.primeLinesSpec.pre6 enc Try.prog Try.f3 Rows.primeLinesRow.domain false) (Rows.primeLinesSpec.post enc Try.prog Try.f3 false true false false) := by
  refine returnsInHanded_of_change (C := Try.checked) own started (by kernel_rfl) Try.func3
    (ChangeSpec.witness6 (enc := enc) (C := Try.checked) false ⟨#[], #[.int .i64 0, .int .i64 0, .int .i64 0], []⟩ 8 (by kernel_rfl) (by kernel_rfl) (by kernel_rfl) (by kernel_rfl)) ?_
  intro W base args ds gs before hval0 hW hcnd _
  have hval : ∀ (j : Nat) t v, Try.f3.params[j]? = some t → args[j]? = some v → Value.okWide Try.prog W .any base t v := hval0
  have hW' := hW
  obtain ⟨p, q, hA0, hV, rfl, hfz, hnd⟩ := hW
  have hA : DataW.TrodAll enc Try.prog W 0 (fun _ => true) true Try.f3.params.toList args.toList ds p := hA0
  rw [Try.params3] at hA hval
  obtain ⟨v0, vs0, d0, ds0, p0, q0, hargs, rfl, rfl, h0, r0⟩ := trodAll_cons hA
  obtain ⟨v1, vs1, d1, ds1, p1, q1, rfl, rfl, rfl, h1, r1⟩ := trodAll_cons r0
  obtain ⟨v2, vs2, d2, ds2, p2, q2, rfl, rfl, rfl, h2, r2⟩ := trodAll_cons r1
  obtain ⟨rfl, rfl, rfl⟩ := trodAll_nil r2
  obtain rfl : args = #[v0, v1, v2] := by cases args; simp_all
  obtain ⟨rfl, rfl⟩ := trodVars_none hV
  obtain ⟨a0, rfl, rfl, rfl, w0⟩ := open_int Try.underlying3 (hval 0 3 v0 rfl rfl) h0
  obtain ⟨a1, rfl, rfl, rfl, w1⟩ := open_int Try.underlying3 (hval 1 3 v1 rfl rfl) h1
  obtain ⟨a2, rfl, rfl, rfl, w2⟩ := open_int Try.underlying3 (hval 2 3 v2 rfl rfl) h2
  clear hA0 hval0
  simp only [List.append_nil] at hW'
  refine (walk a0 a1 a2 W).mono fun e W' ⟨he, bel⟩ => ?_
  subst he
  exact ⟨_, rfl, _, _, _, [], _, [], hW', trodAll_mk1 (shut_bool Try.underlying4 _), (trodAll_cons_mk (shut_int Try.underlying3 w0) (trodAll_cons_mk (shut_int Try.underlying3 w1) (trodAll_cons_mk (shut_int Try.underlying3 w2) trodAll_mk0))), rfl, bel.frame _, fun h => by cases h⟩

theorem over : Rows.primeLinesRow.holds Try.pinned (OpenSpec.ofChange Rows.primeLinesSpec) :=
  OpenClaim.holds_of_wide 3 Try.f3 rfl rfl rfl rfl rfl rfl rfl ⟨rfl, rfl, rfl, rfl, rfl⟩ rfl rfl rfl rfl rfl (by kernel_rfl) Try.func3 (by kernel_rfl)
    (of_decide_eq_true (by kernel_rfl)) (by unfold Func.isWrapper; first | (rw [if_pos (by decide +kernel)]; kernel_rfl) | (rw [if_neg (by decide +kernel)]; exact ⟨rfl, rfl⟩))
    (fun os started H enc _ => lifted os started H enc)

/-- ████ THE STATEMENT ████ -/
theorem proved : Rows.PrimeLinesSaid :=
  over
#print axioms proved
end Go.Proofs.Ytkibmfchjaiodaa.primeLines
namespace Go.Proofs.Ytkibmfchjaiodaa
/-- The row, under a short name, for the claim. -/
theorem primeLines_holds : Rows.PrimeLinesSaid := primeLines.proved
end Go.Proofs.Ytkibmfchjaiodaa
