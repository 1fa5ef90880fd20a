/-
  PrimePairs, the row: for every prime number p of at most 31 (greater ones count as 31) and every two cells the lines that bear both are counted as the document says; other p are refused; the law returns true, without conditions.
-/
import Derived.Test.YtkibmfchjaiodaaLawPairs
import Derived.SizedLaws
namespace Go.Proofs.Ytkibmfchjaiodaa.primePairs
open Go.ChangeShapes Go.WideShapes Go.ChangeAt Go.RowKit
set_option linter.unusedVariables false

theorem own : ownKnob Try.prog.godebug = none := by kernel_rfl
theorem laidOut : laidOutB Try.prog = true := by kernel_rfl
theorem cells5 : Try.prog.cellsOf 5 = 1 := by kernel_rfl
theorem cells30 : Try.prog.cellsOf 30 = 2 := by kernel_rfl

theorem two_of {α : Type} : ∀ (cs : Array α), cs.size = 2 → ∃ c0 c1, cs = #[c0, c1]
  | ⟨[c0, c1]⟩, _ => ⟨c0, c1, rfl⟩
  | ⟨[]⟩, h => by simp at h
  | ⟨[_]⟩, h => by simp at h
  | ⟨_ :: _ :: _ :: _⟩, h => by simp at h

theorem open_pair {H : Type} {enc : TypeId × Value → H} {W : World} {base base' : Nat} {spare : Nat → Bool} {held : Bool} {r : Reach} {v : Value} {d : DataW H} {ps : List MemPlace}
    (hv : Value.okWide Try.prog W r base' 30 v) (h : DataW.Trod enc Try.prog W base spare held 30 v d ps) :
    ∃ x0 x1 : Int, v = .agg #[.int .u8 x0, .int .u8 x1] ∧ (0 ≤ x0 ∧ x0 < 256) ∧ (0 ≤ x1 ∧ x1 < 256) := by
  have hc : ∃ cs, v = .agg cs ∧ cs.size = Try.prog.cellsOf 30 := by
    simp only [Value.okWide, Try.underlying30] at hv
    obtain ⟨cs, h1, h2, _⟩ := hv
    exact ⟨cs, h1, h2⟩
  obtain ⟨cs, rfl, hs⟩ := hc
  obtain ⟨c0, c1, rfl⟩ := two_of cs (hs.trans cells30)
  obtain ⟨fuel, hf⟩ := h
  obtain ⟨xs, m, _, _, _, hl, hx⟩ := DataW.trod_array Try.underlying30 hf
  have h0 := hx 0 (by omega)
  have h1 := hx 1 (by omega)
  rw [cells5] at h0 h1
  obtain ⟨z0, hz0⟩ : ∃ z, xs[0]? = some z := ⟨xs[0], List.getElem?_eq_getElem (by omega)⟩
  obtain ⟨z1, hz1⟩ : ∃ z, xs[1]? = some z := ⟨xs[1], List.getElem?_eq_getElem (by omega)⟩
  rw [hz0] at h0
  rw [hz1] at h1
  obtain ⟨n0, e0, _, w0⟩ := DataW.trod_int Try.underlying5 h0
  obtain ⟨n1, e1, _, w1⟩ := DataW.trod_int Try.underlying5 h1
  have f0 : c0 = .int .u8 n0 := by simpa [Value.cells] using e0
  have f1 : c1 = .int .u8 n1 := by simpa [Value.cells] using e1
  subst f0 f1
  have b0 : 0 ≤ n0 ∧ n0 ≤ 255 := by simpa [Lit.wf, IntKind.min, IntKind.max, IntKind.signed, IntKind.bits] using w0
  have b1 : 0 ≤ n1 ∧ n1 ≤ 255 := by simpa [Lit.wf, IntKind.min, IntKind.max, IntKind.signed, IntKind.bits] using w1
  exact ⟨n0, n1, rfl, ⟨b0.1, by omega⟩, ⟨b1.1, by omega⟩⟩

theorem walk (p x0 x1 y0 y1 : Int) (hx0 : 0 ≤ x0 ∧ x0 < 256) (hx1 : 0 ≤ x1 ∧ x1 < 256) (hy0 : 0 ≤ y0 ∧ y0 < 256) (hy1 : 0 ≤ y1 ∧ y1 < 256) (w : World) :
    Calls Try.prog 4 #[.int .i64 p, .agg #[.int .u8 x0, .int .u8 x1], .agg #[.int .u8 y0, .int .u8 y1]] w fun e w' => e = .returned (.bool true) ∧ Below w.heap.size w w' := by
  cases h : PPrimeLines.isP p
  · exact walk_no p _ _ h w
  · exact walk_yes p x0 x1 y0 y1 hx0 hx1 hy0 hy1 h w

set_option maxRecDepth 100000 in
theorem lifted (os : Os) (started : os.Started) (H : Type) (enc : TypeId × Value → H) :
    ReturnsInHanded {} Try.checked os 4 .any (Rows.primePairsSpec.pre6 enc Try.prog Try.f4 Rows.primePairsRow.domain false) (Rows.primePairsSpec.post enc Try.prog Try.f4 false true false false) := by
  refine returnsInHanded_of_change (C := Try.checked) own started (by kernel_rfl) Try.func4
    (ChangeSpec.witness6 (enc := enc) (C := Try.checked) false ⟨#[], #[.int .i64 0, .agg #[.int .u8 0, .int .u8 0], .agg #[.int .u8 0, .int .u8 0]], []⟩ 8 (by kernel_rfl) (by kernel_rfl) (by kernel_rfl) (by kernel_rfl)) ?_
  intro W base args ds gs before hval0 hW hcnd _
  have hval : ∀ (j : Nat) t v, Try.f4.params[j]? = some t → args[j]? = some v → Value.okWide Try.prog W .any base t v := hval0
  have hW' := hW
  obtain ⟨p, q, hA0, hV, rfl, hfz, hnd⟩ := hW
  have hA : DataW.TrodAll enc Try.prog W 0 (fun _ => true) true Try.f4.params.toList args.toList ds p := hA0
  rw [Try.params4] at hA hval
  obtain ⟨v0, vs0, d0, ds0, p0, q0, hargs, rfl, rfl, h0, r0⟩ := trodAll_cons hA
  obtain ⟨v1, vs1, d1, ds1, p1, q1, rfl, rfl, rfl, h1, r1⟩ := trodAll_cons r0
  obtain ⟨v2, vs2, d2, ds2, p2, q2, rfl, rfl, rfl, h2, r2⟩ := trodAll_cons r1
  obtain ⟨rfl, rfl, rfl⟩ := trodAll_nil r2
  obtain rfl : args = #[v0, v1, v2] := by cases args; simp_all
  obtain ⟨rfl, rfl⟩ := trodVars_none hV
  obtain ⟨a0, rfl, rfl, rfl, w0⟩ := open_int Try.underlying3 (hval 0 3 v0 rfl rfl) h0
  have k1 := h1
  have k2 := h2
  have lt1 : ∀ x ∈ p1, x.block < W.heap.size := by obtain ⟨m, hm⟩ := k1; exact DataW.trod_lt m _ _ _ hm
  have lt2 : ∀ x ∈ p2, x.block < W.heap.size := by obtain ⟨m, hm⟩ := k2; exact DataW.trod_lt m _ _ _ hm
  obtain ⟨x0, x1, rfl, hx0, hx1⟩ := open_pair (hval 1 30 v1 rfl rfl) h1
  obtain ⟨y0, y1, rfl, hy0, hy1⟩ := open_pair (hval 2 30 v2 rfl rfl) h2
  clear hA0 hval0
  refine (walk a0 x0 x1 y0 y1 hx0 hx1 hy0 hy1 W).mono fun e W' ⟨he, bel⟩ => ?_
  subst he
  exact ⟨_, rfl, _, _, _, [], _, [], hW', trodAll_mk1 (shut_bool Try.underlying4 _),
    (trodAll_cons_mk (shut_int Try.underlying3 w0) (trodAll_cons_mk (Below.trod laidOut (by kernel_rfl) (of_decide_eq_true (by kernel_rfl)) k1 bel lt1) (trodAll_cons_mk (Below.trod laidOut (by kernel_rfl) (of_decide_eq_true (by kernel_rfl)) k2 bel lt2) trodAll_mk0))),
    rfl, bel.frame _, fun h => by cases h⟩

theorem over : Rows.primePairsRow.holds Try.pinned (OpenSpec.ofChange Rows.primePairsSpec) :=
  OpenClaim.holds_of_wide 4 Try.f4 rfl rfl rfl rfl rfl rfl rfl ⟨rfl, rfl, rfl, rfl, rfl⟩ rfl rfl rfl rfl rfl (by kernel_rfl) Try.func4 (by kernel_rfl)
    (of_decide_eq_true (by kernel_rfl)) (by unfold Func.isWrapper; first | (rw [if_pos (by decide +kernel)]; kernel_rfl) | (rw [if_neg (by decide +kernel)]; exact ⟨rfl, rfl⟩))
    (fun os started H enc _ => lifted os started H enc)
theorem proved : Rows.PrimePairsSaid := over
#print axioms proved
end Go.Proofs.Ytkibmfchjaiodaa.primePairs
namespace Go.Proofs.Ytkibmfchjaiodaa
/-- The row, under a short name, for the claim. -/
theorem primePairs_holds : Rows.PrimePairsSaid := primePairs.proved
end Go.Proofs.Ytkibmfchjaiodaa
