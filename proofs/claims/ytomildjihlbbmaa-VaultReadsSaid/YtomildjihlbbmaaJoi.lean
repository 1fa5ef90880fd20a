/-
  What both Unpacks do at any bytes: they hand back the one field that is packed as these bytes, or refuse because there is none.
-/
import Derived.Test.YtomildjihlbbmaaRun1
namespace Go.Proofs.Ytomildjihlbbmaa
open Go.RowKit Flt Num Go.Proofs.YtomildjihlbbmaaW.PrintWords Go.Proofs.YtomildjihlbbmaaW.PrintLast Go.Proofs.YtomildjihlbbmaaW.PrintMore Go.Proofs.Ytomildjihlbbmaa.PPackUnpacks
set_option linter.unusedVariables false
/-- b is what the field of side N with the cells L is packed as. -/
structure Packs (b : List Int) (N : Nat) (L : List (Nat × Nat)) : Prop where
  side : 1 ≤ N ∧ N ≤ 64
  len : L.length = N * N
  words : Words L
  eq : shortL N L = b
theorem packs_head {b : List Int} {N : Nat} {L : List (Nat × Nat)} (h : shortL N L = b) : ∃ (way : Nat) (t : List Int), way ≤ 2 ∧ b = [(way : Int), (N : Int)] ++ t ∧ encW way N L = some b := by
  obtain ⟨way, hw, he⟩ := shortL_way (N : Int) L
  rw [h] at he
  obtain ⟨t, ht⟩ := encL_pre way L (0, 0) _ b he
  exact ⟨way, t, hw, ht, he⟩
/-- what an Unpack leaves, at any bytes -/
def UnpAll (b : List Int) (w : World) (e : Ending) (w' : World) : Prop :=
  Below w.heap.size w w' ∧
    ((e = .returned (.tuple #[.agg #[.int .i64 0, .slice none 0 0], .int .i64 210]) ∧ ∀ N L, ¬ Packs b N L) ∨
     (∃ (N : Nat) (L : List (Nat × Nat)) (A : Option Addr) (c : Nat), Packs b N L ∧ (∀ N' L', Packs b N' L' → N' = N ∧ L' = L) ∧ e = .returned (.tuple #[.agg #[.int .i64 N, .slice A L.length c], .int .i64 0]) ∧ kc.R 42 w' w.heap.size (fun _ => True) (.slice A L.length c) L))
theorem heads_eq {way way' N N' : Nat} {t t' : List Int} (h : [(way : Int), (N : Int)] ++ t = [(way' : Int), (N' : Int)] ++ t') : way = way' ∧ N = N' ∧ t = t' := by
  simp only [List.cons_append, List.nil_append] at h
  injection h with h1 h2
  injection h2 with h2 h3
  exact ⟨by omega, by omega, h3⟩
theorem UnpBad.all {b : List Int} {w : World} {e : Ending} {w' : World} (h : UnpBad w e w') (hn : ∀ N L, ¬ Packs b N L) : UnpAll b w e w' := ⟨h.1, .inl ⟨h.2, hn⟩⟩
theorem UnpOut.all {way N : Nat} {b rest : List Int} (hN : 1 ≤ N ∧ N ≤ 64) (hb : b = [(way : Int), (N : Int)] ++ rest) {w : World} {e : Ending} {w' : World} (h : UnpOut way N b rest w e w') : UnpAll b w e w' := by
  obtain ⟨hB, L, last, st, hd, hl, hW, hor⟩ := h
  have uni : ∀ N' L', Packs b N' L' → N' = N ∧ L' = L ∧ st.2 = false := by
    intro N' L' hp
    obtain ⟨way', t, _, hb', he⟩ := packs_head hp.eq
    rw [hb] at hb'
    obtain ⟨rfl, rfl, rfl⟩ := heads_eq hb'
    rw [hb] at he
    obtain ⟨h1, h2⟩ := dec_back hp.words he hd (by rw [hl, hp.len])
    exact ⟨rfl, h1.symm, by rw [h2]⟩
  refine ⟨hB, ?_⟩
  rcases hor with ⟨he, hbad⟩ | ⟨A, c, he, hC, hs, hq⟩
  · refine .inl ⟨he, fun N' L' hp => ?_⟩
    obtain ⟨rfl, rfl, h3⟩ := uni N' L' hp
    rcases hbad with h | h
    · rw [h3] at h; cases h
    · exact h hp.eq
  · exact .inr ⟨N, L, A, c, ⟨hN, hl, hW, hq⟩, fun N' L' hp => ⟨(uni N' L' hp).1, (uni N' L' hp).2.1⟩, he, hC⟩
theorem RunOut.all {way N : Nat} {b rest : List Int} (hN : 1 ≤ N ∧ N ≤ 64) (hb : b = [(way : Int), (N : Int)] ++ rest) {w : World} {e : Ending} {w' : World} (h : RunOut way N b w e w') : UnpAll b w e w' := by
  obtain ⟨hB, L, last, at_, hd, hl, hW, hor⟩ := h
  have uni : ∀ N' L', Packs b N' L' → N' = N ∧ L' = L := by
    intro N' L' hp
    obtain ⟨way', t, _, hb', he⟩ := packs_head hp.eq
    rw [hb] at hb'
    obtain ⟨rfl, rfl, rfl⟩ := heads_eq hb'
    rw [hb] at he hd
    exact ⟨rfl, (decR_back hp.words he hd (by rw [hl, hp.len])).symm⟩
  refine ⟨hB, ?_⟩
  rcases hor with ⟨he, hbad⟩ | ⟨A, c, he, hC, hq⟩
  · refine .inl ⟨he, fun N' L' hp => ?_⟩
    obtain ⟨rfl, rfl⟩ := uni N' L' hp
    exact hbad hp.eq
  · exact .inr ⟨N, L, A, c, ⟨hN, hl, hW, hq⟩, uni, he, hC⟩
theorem bytes_cases {b : List Int} (hb : Bytes b) : b.length < 2 ∨ ∃ (q N : Nat) (rest : List Int), q < 256 ∧ N < 256 ∧ b = [(q : Int), (N : Int)] ++ rest := by
  match b, hb with
  | [], _ => exact .inl (by decide)
  | [_], _ => exact .inl (by simp)
  | x :: y :: rest, hb =>
    have hx := hb x (by simp)
    have hy := hb y (by simp)
    refine .inr ⟨x.toNat, y.toNat, rest, by omega, by omega, ?_⟩
    rw [Int.toNat_of_nonneg hx.1, Int.toNat_of_nonneg hy.1]; rfl
theorem no_packs_short {b : List Int} (h : b.length < 2) (N : Nat) (L : List (Nat × Nat)) : ¬ Packs b N L := fun hp => by
  obtain ⟨way, t, _, hb, _⟩ := packs_head hp.eq
  rw [hb] at h; simp at h; omega
theorem no_packs_head {q N : Nat} {b rest : List Int} (hb : b = [(q : Int), (N : Int)] ++ rest) (hbad : 2 < q ∨ N < 1 ∨ 64 < N) (N' : Nat) (L : List (Nat × Nat)) : ¬ Packs b N' L := fun hp => by
  obtain ⟨way, t, hw, hb', _⟩ := packs_head hp.eq
  rw [hb] at hb'
  obtain ⟨rfl, rfl, _⟩ := heads_eq hb'
  have := hp.side
  omega
theorem unpack_any (A : Option Addr) (c : Nat) (b : List Int) (w : World) (hA : kb.C w A b.length b) (hc : b.length ≤ c) (hb : Bytes b) :
    Calls Try.prog 6 #[.slice A b.length c] w fun e w' => UnpAll b w e w' := by
  rcases bytes_cases hb with h | ⟨q, N, rest, hq, hN, he⟩
  · exact (unpackS_any A c b w h).mono fun _ _ hh => hh.all (no_packs_short h)
  · by_cases hbad : 2 < q ∨ N < 1 ∨ 64 < N
    · exact (unpackH_any A c b w hA hc q N hq hN hbad rest he).mono fun _ _ hh => hh.all (no_packs_head he hbad)
    · have hN1 : 1 ≤ N ∧ N ≤ 64 := by omega
      obtain rfl | rfl | rfl : q = 0 ∨ q = 1 ∨ q = 2 := by omega
      · exact (unpack0_any A c b w hA hc hb N hN1 rest he).mono fun _ _ hh => hh.all hN1 he
      · exact (unpack1_any A c b w hA hc hb N hN1 rest he).mono fun _ _ hh => hh.all hN1 he
      · exact (unpack2_any A c b w hA hc hb N hN1 rest he).mono fun _ _ hh => hh.all hN1 he
theorem runpack_any (A : Option Addr) (c : Nat) (b : List Int) (w : World) (hA : kb.C w A b.length b) (hc : b.length ≤ c) (hb : Bytes b) :
    Calls Try.prog 7 #[.slice A b.length c] w fun e w' => UnpAll b w e w' := by
  rcases bytes_cases hb with h | ⟨q, N, rest, hq, hN, he⟩
  · exact (runpackS_any A c b w h).mono fun _ _ hh => hh.all (no_packs_short h)
  · by_cases hbad : 2 < q ∨ N < 1 ∨ 64 < N
    · exact (runpackH_any A c b w hA hc q N hq hN hbad rest he).mono fun _ _ hh => hh.all (no_packs_head he hbad)
    · have hN1 : 1 ≤ N ∧ N ≤ 64 := by omega
      obtain rfl | rfl | rfl : q = 0 ∨ q = 1 ∨ q = 2 := by omega
      · exact (runpack0_any A c b w hA hc hb N hN1 rest he).mono fun _ _ hh => hh.all hN1 he
      · exact (runpack1_any A c b w hA hc hb N hN1 rest he).mono fun _ _ hh => hh.all hN1 he
      · exact (runpack2_any A c b w hA hc hb N hN1 rest he).mono fun _ _ hh => hh.all hN1 he
/-- the fixed field and its bytes -/
theorem packs_fixed : Packs [2, 1, 6, 1] 1 [(4613937818241073152, 13830554455654793216)] :=
  ⟨by decide, rfl, fun x hx => by rw [List.mem_singleton.1 hx]; decide, by decide +kernel⟩
end Go.Proofs.Ytomildjihlbbmaa

/-
  Pack, of a field that is right, and right itself.
-/
namespace Go.Proofs.Ytomildjihlbbmaa
open Go.RowKit Flt Num Go.Proofs.YtomildjihlbbmaaW.PrintWords Go.Proofs.YtomildjihlbbmaaW.PrintLast Go.Proofs.YtomildjihlbbmaaW.PrintMore Go.Proofs.Ytomildjihlbbmaa.PPackUnpacks
set_option linter.unusedVariables false
attribute [local go_sem] run_f64bits run_f64from run_f32bits run_f32from
set_option maxHeartbeats 1000000 in
theorem right_yes (N M : Nat) (hN : 1 ≤ N ∧ N ≤ 64) (hM : M = N * N) (A : Option Addr) (c : Nat) (w : World) :
    Calls Try.prog 36 #[.agg #[.int .i64 N, .slice A M c]] w fun e w' => e = .returned (.bool true) ∧ Below w.heap.size w w' := by
  have hN2 : (1 : Int) ≤ (N : Int) := by omega
  have hN3 : (N : Int) ≤ 64 := by omega
  have hNle : N * N ≤ 4096 := Nat.mul_le_mul hN.2 hN.2
  have hNN : wrap64 ((N : Int) * (N : Int)) = (M : Int) := by rw [hM]; exact wrap64_id (by omega) (by omega)
  clear hN hM hNle
  have HX := Lib.hid (heap_alloc_new w (.cells #[.int .i64 N, .slice A M c] 26))
  obtain ⟨y1, y2, -, -⟩ := two_cells HX.out
  go_enter Try.func36, Try.ntmps36
  go_wp2
  go_ret
  exact ⟨by simp [hNN], below_alloc (Below.refl _ _) _⟩
set_option maxHeartbeats 1000000 in
theorem right_zero (A : Option Addr) (n c : Nat) (w : World) :
    Calls Try.prog 36 #[.agg #[.int .i64 0, .slice A n c]] w fun e w' => e = .returned (.bool false) ∧ Below w.heap.size w w' := by
  have HX := Lib.hid (heap_alloc_new w (.cells #[.int .i64 0, .slice A n c] 26))
  obtain ⟨y1, y2, -, -⟩ := two_cells HX.out
  go_enter Try.func36, Try.ntmps36
  go_wp2
  go_ret
  exact ⟨rfl, below_alloc (Below.refl _ _) _⟩
set_option maxHeartbeats 2000000 in
set_option maxRecDepth 100000 in
theorem pack_any (N : Nat) (hN : 1 ≤ N ∧ N ≤ 64) (A : Option Addr) (c : Nat) (L : List (Nat × Nat)) (w : World) (hC : kc.C w A L.length L) (hW : Words L) (hl : L.length = N * N) :
    Calls Try.prog 17 #[.agg #[.int .i64 N, .slice A L.length c]] w fun e w' => ∃ v, e = .returned (.tuple #[v, .int .i64 0]) ∧ Below w.heap.size w w' ∧ kb.R 5 w' w.heap.size (fun _ => True) v (shortL N L) := by
  have HC := Lib.hid hC
  have HW := Lib.hid hW
  have HL := Lib.hid hl
  have HL2 := Lib.hid (show L.length ≤ 4096 by rw [hl]; exact Nat.mul_le_mul hN.2 hN.2)
  have HN := Lib.hid hN
  clear hC hW hl hN
  have HX1 := Lib.hid (heap_alloc_new w (.cells #[.int .i64 N, .slice A L.length c] 26))
  have HB1 := Lib.hid (show Below w.heap.size w (w.alloc (.cells #[.int .i64 N, .slice A L.length c] 26)) from below_alloc (Below.refl _ _) _)
  go_enter Try.func17, Try.ntmps17
  go_wp2_with (first | ((with_reducible refine gate_dst (N := 4) rfl ?_); refine load_grid rfl (.tmp 1) rfl (g := w.heap.size) ?hx (u := .int .i64 N) (v := .slice A L.length c) HX1.out ?_; (case hx => go_simp)))
  refine (right_yes N L.length HN.out HL.out A c _).mono ?_
  rintro e w2 ⟨rfl, hb2⟩
  have HB2 := Lib.hid (HB1.out.trans (hb2.mono (HB1.out.size)))
  have HX2 := Lib.hid ((hb2.block _ (blk_lt HX1.out)).trans HX1.out)
  clear hb2
  go_wp2_with (first | ((with_reducible refine gate_dst (N := 7) rfl ?_); refine load_grid rfl (.tmp 1) rfl (g := w.heap.size) ?hx (u := .int .i64 N) (v := .slice A L.length c) HX2.out ?_; (case hx => go_simp)))
  refine (shortest_any (N : Int) (by have := HN.out; omega) A c L _ (Kd.C_below HC.out HB2.out) HW.out HL2.out).mono ?_
  rintro e w3 ⟨v, rfl, hb3, hr3⟩
  have HB3 := Lib.hid (HB2.out.trans (hb3.mono HB2.out.size))
  have HR3 := Lib.hid (Kd.R_lower hr3 HB2.out.size)
  clear hb3 hr3
  go_wp2
  go_ret2
  exact ⟨v, rfl, HB3.out, HR3.out⟩
end Go.Proofs.Ytomildjihlbbmaa

/-
  alive (layer 21): true.
-/
namespace Go.Proofs.Ytomildjihlbbmaa
open Go.RowKit Flt Num Go.Proofs.YtomildjihlbbmaaW.PrintWords Go.Proofs.YtomildjihlbbmaaW.PrintLast Go.Proofs.YtomildjihlbbmaaW.PrintMore Go.Proofs.Ytomildjihlbbmaa.PPackUnpacks
set_option linter.unusedVariables false
attribute [local go_sem] run_f64bits run_f64from run_f32bits run_f32from
def L31 : List (Nat × Nat) := [(4613937818241073152, 13830554455654793216)]
theorem short31 : shortL (1 : Nat) L31 = [2, 1, 6, 1] := packs_fixed.eq
theorem C_one {w : World} {g : Nat} (h : w.heap[g]? = some (.cells #[.complex .f64 4613937818241073152 13830554455654793216] 42)) : kc.C w (some ⟨g, 0, none⟩) 1 L31 := by
  refine Kd.C_of_reads (enc := fun x : Nat × Nat => Value.complex .f64 x.1 x.2) (d := ((0, 0) : Nat × Nat)) (h1 := fun _ => rfl) ⟨rfl, by decide, fun _ => ⟨_, rfl, fun j hj => ?_⟩⟩
  obtain rfl : j = 0 := by have : j < 1 := hj; omega
  simp [Addr.add, cell_of_row w g 0 _ _ _ h, L31]
end Go.Proofs.Ytomildjihlbbmaa
