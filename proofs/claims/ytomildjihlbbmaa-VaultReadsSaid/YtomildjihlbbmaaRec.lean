/-
  The vault's record of a field, behind the keeper's.
-/
import Derived.Test.YtomildjihlbbmaaRch
namespace Go.Proofs.Ytomildjihlbbmaa
open Go.RowKit Flt Num Go.Proofs.YtomildjihlbbmaaW.PrintWords Go.Proofs.YtomildjihlbbmaaW.PrintLast Go.Proofs.YtomildjihlbbmaaW.PrintMore Go.Proofs.Ytomildjihlbbmaa.PVaultReads
set_option linter.unusedVariables false
set_option linter.unusedSimpArgs false
attribute [local go_sem] run_f64bits run_f64from run_f32bits run_f32from
theorem enc0_len (N : Int) : ∀ (l : List (Nat × Nat)) (last : Int × Int) (acc r : List Int), encL 0 last l acc = some r → r.length = acc.length + 16 * l.length
  | [], last, acc, r, h => by injection h with h; rw [← h]; rfl
  | v :: vs, last, acc, r, h => by
    rw [encL] at h
    obtain ⟨p, hp, h⟩ := Option.bind_eq_some_iff.1 h
    have e := enc0_len N vs _ _ r h
    unfold encCell at hp
    rw [if_pos rfl] at hp
    injection hp with hp
    subst hp
    rw [e, List.length_append, List.length_append, be_length, be_length, List.length_cons]
    omega
theorem better_len {best : List Int} {o : Option (List Int)} : (better best o).length ≤ best.length := by
  cases o with
  | none => exact Nat.le_refl _
  | some r =>
    by_cases h : r.length < best.length
    · rw [better_pos h]; omega
    · rw [better_neg h]; exact Nat.le_refl _
theorem shortL_len (N : Int) (l : List (Nat × Nat)) : (shortL N l).length ≤ 2 + 16 * l.length := by
  obtain ⟨r, hr⟩ := enc0_some N l (0, 0) [0, N]
  have hl := enc0_len N l _ _ r hr
  have h1 : (shortL N l).length ≤ ((encW 0 N l).getD []).length := by
    refine Nat.le_trans better_len (Nat.le_trans better_len ?_)
    exact Nat.le_refl _
  rw [show encW 0 N l = some r from hr] at h1
  simp at h1 hl
  omega
theorem short_ok {f : Fld} (h : FOk f) : (shortL f.1 f.2).length ≤ 65538 ∧ Bytes (shortL f.1 f.2) := by
  have hs := h.side
  have hN : f.1 * f.1 ≤ 4096 := Nat.mul_le_mul h.side.2 h.side.2
  refine ⟨?_, shortL_bytes (by omega) _⟩
  have := shortL_len (f.1 : Int) f.2
  rw [h.len] at this
  omega
theorem bcons {c : Int} {l : List Int} (hc : 0 ≤ c ∧ c < 256) (hl : Bytes l) : Bytes (c :: l) := fun x hx => by
  rcases List.mem_cons.1 hx with rfl | hx
  · exact hc
  · exact hl x hx
theorem bodyL_ok {ah : Option Fld} {f : Fld} (hf : FOk f) (ha : ∀ g, ah = some g → FOk g) : (bodyL ah f).length ≤ 65539 ∧ Bytes (bodyL ah f) := by
  have h0 := short_ok hf
  have base : (0 :: shortL f.1 f.2 : List Int).length ≤ 65539 ∧ Bytes (0 :: shortL f.1 f.2) := ⟨by simp; omega, bcons (by decide) h0.2⟩
  unfold bodyL
  cases ah with
  | none => exact base
  | some g =>
    dsimp only
    by_cases hN : g.1 = f.1
    · rw [if_pos hN]
      by_cases hs : (shortL f.1 (xorL f.2 g.2)).length < (shortL f.1 f.2).length
      · rw [if_pos hs]
        have hg := ha g rfl
        have hx : FOk (f.1, xorL f.2 g.2) := xor_ok (N := f.1) hf (by obtain ⟨n, l⟩ := g; dsimp only at hN ⊢; subst hN; exact hg)
        exact ⟨by simp; omega, bcons (by decide) (short_ok hx).2⟩
      · rw [if_neg hs]; exact base
    · rw [if_neg hN]; exact base
theorem recL_ok {ah : Option Fld} {f : Fld} (hf : FOk f) (ha : ∀ g, ah = some g → FOk g) : (recL ah f).length ≤ 65547 ∧ Bytes (recL ah f) := by
  have h := bodyL_ok hf ha
  unfold recL
  exact ⟨by rw [List.length_append, List.length_append, be_length, be_length]; omega, bapp (bapp (be_bytes _ _) (be_bytes _ _)) h.2⟩
theorem run_load2 {W : World} {b o : Nat} {u v : Value} (h0 : W.cell? ⟨b, o, none⟩ = some u) (h1 : W.cell? ⟨b, o + 1, none⟩ = some v) : (loadVar 26 ⟨b, o, none⟩).run Try.prog W = .ok (.agg #[u, v]) W := by
  obtain ⟨d, hu⟩ := und26
  have hl : (loadCells ⟨b, o, none⟩ [u, v].length).run Try.prog W = .ok [u, v].toArray W :=
    run_loadCells_list (P := Try.prog) W ⟨b, o, none⟩ [u, v] (fun j x hx => by
      have hadd : (⟨b, o, none⟩ : Addr).add j = ⟨b, o + j, none⟩ := by unfold Addr.add; split <;> simp_all
      rw [hadd]
      match j, hx with
      | 0, hx => have e : u = x := Option.some.inj hx; rw [← e]; exact h0
      | 1, hx => have e : v = x := Option.some.inj hx; rw [← e]; exact h1
      | j + 2, hx => simp at hx)
  cases hq : Try.prog.info? 26 with
  | none => have := size26; simp [hq] at this
  | some i =>
    have hs : i.size = 2 := by have := size26; simpa [hq] using this
    have hagg : (isAgg 26).run Try.prog W = .ok true W := by
      unfold isAgg
      rw [Sem.run_bind, run_underlying hu W]
      simp
    simp only [List.length_cons, List.length_nil] at hl
    simp [loadVar, Sem.run_bind, hagg, sizeOf, typeInfo, hq, hs, hl]
theorem exec_load2 {a : Act} {o : Oper} {W : World} {x : Operand} (ho : o.op = .load 26 x) {b off : Nat} (hx : a.eval x = .pointer (some ⟨b, off, none⟩)) {u v : Value} (h0 : W.cell? ⟨b, off, none⟩ = some u) (h1 : W.cell? ⟨b, off + 1, none⟩ = some v) : (execOp a.eval o).run Try.prog W = .ok (.value (.agg #[u, v])) W := by
  unfold execOp
  simp only [ho, hx, Instr.loadAt, Instr.sureAddr, Sem.run_bind, Sem.run_pure, Result.andThen_ok, run_load2 h0 h1]
theorem load_two {ops : Array Oper} {rest : List Oper} {o : Oper} {a : Act} {Q : Exit → Act → World → Prop} {W : World} (hgd : o.guard = none) (x : Operand) (ho : o.op = .load 26 x)
    {b off : Nat} (hx : a.eval x = .pointer (some ⟨b, off, none⟩)) {u v : Value} (h0 : W.cell? ⟨b, off, none⟩ = some u) (h1 : W.cell? ⟨b, off + 1, none⟩ = some v) (h : wpList Try.prog ops Q rest (a.put o.dst (.agg #[u, v])) W) : wpList Try.prog ops Q (o :: rest) a W := by
  refine wpList_plain hgd fun K hK => ?_
  unfold Oper.wp
  rw [exec_load2 ho hx h0 h1]
  exact hK _ _ h
theorem info5v : (Try.prog.info? 5).map (fun i => (i.zero, i.size, i.bytes)) = some (some (.int .u8 0), 1, 1) := by kernel_rfl
/-- make([]byte, 0, c) -/
theorem make0 {ops : Array Oper} {rest : List Oper} {o : Oper} {a : Act} {Q : Exit → Act → World → Prop} {W w0 : World} (base : Nat) (hgd : o.guard = none) (x y : Operand) (ho : o.op = .makeSlice 22 x y) (hx : a.eval x = .int .i64 0) {n : Int} (hy : a.eval y = .int .i64 n) {c : Nat} (hn : n = (c : Int)) (hc : c ≤ 16777216)
    (HB : Below base w0 W) (hbase : base ≤ W.heap.size)
    (h : ∀ w1, kb.R 5 w1 base (fun _ => True) (.slice (some ⟨W.heap.size, 0, none⟩) 0 c) [] → Below base w0 w1 → W.grownBy w1 none → wpList Try.prog ops Q rest (a.put o.dst (.slice (some ⟨W.heap.size, 0, none⟩) 0 c)) w1) : wpList Try.prog ops Q (o :: rest) a W := by
  subst hn
  obtain ⟨i0, hi, hzz⟩ := Option.map_eq_some_iff.1 info5v
  simp only [Prod.mk.injEq] at hzz
  obtain ⟨hz0, hz1, hz2⟩ := hzz
  obtain ⟨w1, hrun, hown, hg⟩ := run_make_own (P := Try.prog) W base 22 5 i0 (.int .u8 0) 1 Try.underlying22 hi hz0 hz1 .i64 .i64 c (by rw [hz2]; omega) (by unfold maxLen; omega) hbase
  refine wpList_plain hgd fun K hK => ?_
  unfold Oper.wp execOp
  simp only [ho, hx, hy, Sem.run_bind, Sem.run_pure, Result.andThen_ok, hrun]
  exact hK _ _ (h w1 (Kd.R_of_own (enc := Value.int .u8) (h1 := fun _ => rfl) hown (fun _ _ => trivial)) (HB.grown hg hbase (fun k e => by cases e)) hg)
theorem vsum_any (A : Option Addr) (c : Nat) (l : List Int) (w : World) (hC : kb.C w A l.length l) (hc : l.length ≤ c) (hb : Bytes l) (hm : l.length < 2 ^ 62) :
    Calls Try.prog 31 #[.slice A l.length c] w fun e w' => e = .returned (.int .u32 (sumB l : Nat)) ∧ Drawn0 w w' := vault_Sum.calls (l.length + 1) A c l _ w hC hc (vsum_f l hb hm)
theorem rsum_any (A : Option Addr) (c : Nat) (l : List Int) (w : World) (hC : kb.C w A l.length l) (hc : l.length ≤ c) (hb : Bytes l) (hm : l.length < 2 ^ 62) :
    Calls Try.prog 70 #[.slice A l.length c] w fun e w' => e = .returned (.int .u32 (sumB l : Nat)) ∧ Drawn0 w w' := penumbraref22_Sum.calls (l.length + 1) A c l _ w hC hc (rsum_f l hb hm)
theorem four_any (v : Nat) (hv : v < 4294967296) (w : World) :
    Calls Try.prog 69 #[.int .u32 v] w fun e w' => ∃ u, e = .returned u ∧ kb.R 5 w' w.heap.size (fun _ => True) u (be 4 v) ∧ Below w.heap.size w w' := penumbraref22_four.calls v _ w (four_f v hv)
/-- the keeper in block p holds what is ahead -/
def Kpr (ah : Option Fld) (p : Nat) (w : World) : Prop :=
  match ah with
  | none => w.heap[p]? = some (.cells #[.int .i64 0, .slice none 0 0, .bool false] 79 (0, 0))
  | some g => ∃ A c, w.heap[p]? = some (.cells #[.int .i64 g.1, .slice A g.2.length c, .bool true] 79 (0, 0)) ∧ kc.C w A g.2.length g.2
theorem Kpr.below {ah : Option Fld} {p : Nat} {w w' : World} (h : Kpr ah p w) (hb : Below w.heap.size w w') : Kpr ah p w' := by
  cases ah with
  | none => exact blk_below h hb
  | some g => obtain ⟨A, c, h1, h2⟩ := h; exact ⟨A, c, blk_below h1 hb, Kd.C_below h2 hb⟩
theorem store_keep {ops : Array Oper} {rest : List Oper} {o : Oper} {a : Act} {Q : Exit → Act → World → Prop} {W : World} (hN : o.dst = none) (hgd : o.guard = none) (p x : Operand) (ho : o.op = .store 26 p x)
    {g : Nat} (haddr : a.eval p = .pointer (some ⟨g, 0, none⟩)) {u : Int} {A : Option Addr} {n c : Nat} (hx : a.eval x = .agg #[.int .i64 u, .slice A n c]) {c1 c2 c3 : Value} (hh : W.heap[g]? = some (.cells #[c1, c2, c3] 79 (0, 0)))
    (h : ∀ w1, w1.heap[g]? = some (.cells #[.int .i64 u, .slice A n c, c3] 79 (0, 0)) → Kept W w1 (fun k => k = g) → Below g W w1 → wpList Try.prog ops Q rest a w1) : wpList Try.prog ops Q (o :: rest) a W := by
  have hrun := run_store_run (P := Try.prog) 26 (.agg #[.int .i64 u, .slice A n c]) [.int .i64 u, .slice A n c] (g := g) (o := 0) hh rfl size26 (by simp) (by intro q hq; simp at hq; rcases hq with rfl | rfl <;> rfl)
  have e : W.setCells g 0 [.int .i64 u, .slice A n c] = W.setRow g #[.int .i64 u, .slice A n c, c3] := by
    show (W.setCell ⟨g, 0, none⟩ _).setCell ⟨g, 1, none⟩ _ = _
    rw [setCell_eq_setRow W g 0 _ 79 (0, 0) _ hh, setCell_eq_setRow _ g 1 _ 79 (0, 0) _ (setRow_heap W g _ _ 79 (0, 0) hh), setRow_setRow]
    rfl
  rw [e] at hrun
  have hK : Kept W (W.setRow g #[.int .i64 u, .slice A n c, c3]) (fun k => k = g) := ⟨by simp, fun i _ hn => setRow_other W g i _ hn⟩
  have hB : Below g W (W.setRow g #[.int .i64 u, .slice A n c, c3]) := ⟨rfl, rfl, rfl, by simp, fun k hk => setRow_other W g k _ (by omega)⟩
  refine wpList_plain hgd fun K hKK => ?_
  unfold Oper.wp execOp
  simp only [ho, haddr, hx, Sem.run_bind, Sem.run_pure, Result.andThen_ok, hrun]
  show K (a.put o.dst undef) _
  rw [hN]
  exact hKK a _ (h _ (setRow_heap W g _ _ 79 (0, 0) hh) hK hB)
theorem three_cells {w : World} {g t : Nat} {a b c : Value} (h : w.heap[g]? = some (.cells #[a, b, c] t (0, 0))) : (w.cell? ⟨g, 0, none⟩ = some a ∧ w.cell? ⟨g, 1, none⟩ = some b ∧ w.cell? ⟨g, 2, none⟩ = some c) ∧ w.frozen? ⟨g, 0, none⟩ = false ∧ w.frozen? ⟨g, 1, none⟩ = false ∧ w.frozen? ⟨g, 2, none⟩ = false := by
  refine ⟨⟨?_, ?_, ?_⟩, blk_frozen h 0, blk_frozen h 1, blk_frozen h 2⟩
  · rw [cell_of_row w g 0 _ _ _ h]; rfl
  · rw [cell_of_row w g 1 _ _ _ h]; rfl
  · rw [cell_of_row w g 2 _ _ _ h]; rfl
end Go.Proofs.Ytomildjihlbbmaa
