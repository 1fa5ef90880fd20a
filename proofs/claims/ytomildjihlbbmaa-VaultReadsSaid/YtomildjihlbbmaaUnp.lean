/-
  Unpack: the raw way.
-/
import Derived.Test.YtomildjihlbbmaaTak
namespace Go.Proofs.Ytomildjihlbbmaa
open Go.RowKit Flt Num Go.Proofs.YtomildjihlbbmaaW.PrintWords Go.Proofs.YtomildjihlbbmaaW.PrintLast Go.Proofs.YtomildjihlbbmaaW.PrintMore Go.Proofs.Ytomildjihlbbmaa.PPackUnpacks
set_option linter.unusedVariables false
attribute [local go_sem] run_f64bits run_f64from run_f32bits run_f32from
def i2f (n : Int) : Nat := floatOfInt .f64 n
/-- one cell is read -/
def StepP (way : Nat) (last : Int × Int) (st : List Int × Bool) (v : Nat × Nat) (last' : Int × Int) (st' : List Int × Bool) : Prop :=
  if way = 0 then v = (fromB 0 (takeP 8 st).1, fromB 0 (takeP 8 (takeP 8 st).2).1) ∧ st' = (takeP 8 (takeP 8 st).2).2 ∧ last' = last
  else if way = 1 then Wid (fromB 0 (takeP 4 st).1) v.1 ∧ Wid (fromB 0 (takeP 4 (takeP 4 st).2).1) v.2 ∧ st' = (takeP 4 (takeP 4 st).2).2 ∧ last' = last
  else last' = (last.1 + unzig (difP 6 0 0 st).1, last.2 + unzig (difP 6 0 0 (difP 6 0 0 st).2).1) ∧ v = (i2f last'.1, i2f last'.2) ∧ st' = (difP 6 0 0 (difP 6 0 0 st).2).2
inductive DecS (way : Nat) (st0 : List Int × Bool) : List (Nat × Nat) → Int × Int → List Int × Bool → Prop
  | nil : DecS way st0 [] (0, 0) st0
  | snoc {L v last last' st st'} : DecS way st0 L last st → StepP way last st v last' st' → DecS way st0 (L ++ [v]) last' st'
theorem und24 : Try.prog.underlying 24 = some (.slice 42) := by kernel_rfl
theorem info42 : (Try.prog.info? 42).map (fun i => (i.zero, i.size, i.bytes)) = some (some (.complex .f64 0 0), 1, 16) := by kernel_rfl

theorem take_ok2 (n : Nat) (rb : Nat) (A : Option Addr) (c : Nat) (bs : List Int) (s : Bool) (w : World) (hn : n ≤ bs.length) (h3 : bs.length ≤ c) (h2 : kb.C w A bs.length bs) (h1 : w.heap[rb]? = some (.cells #[.slice A bs.length c, .bool s] 45)) (h4 : ∀ ad, A = some ad → 0 < bs.length → ad.block < rb) :
    Calls Try.prog 18 #[.pointer (some ⟨rb, 0, none⟩), .int .i64 n] w fun e w' => e = .returned (.slice A n c) ∧ Rd w' rb (bs.drop n, s) ∧ Kept w w' (fun k => k = rb) ∧ Below rb w w' := by
  refine (take_ok n rb A c bs s w hn h3 (Kd.C_max h2) h1).mono ?_
  rintro e w' ⟨rfl, rfl⟩
  have hk : Kept w (w.setCell ⟨rb, 0, none⟩ (.slice (if c = n then A else A.map (·.add n)) (bs.length - n) (c - n))) (fun k => k = rb) := Kept.setCell (S := fun k => k = rb) (p := ⟨rb, 0, none⟩) (Kept.refl w _) (.inl rfl) _
  have hd := Kd.C_drop h2 (m := n) (by omega) h3
  simp only [show kb.sz = 1 from rfl, Nat.mul_one] at hd
  refine ⟨rfl, ⟨_, c - n, ?_, C_to hd hk (fun ad e hp h => ?_), by rw [List.length_drop]; omega, fun ad e hp => ?_⟩, hk, (Below.refl rb w).setCell (Nat.le_refl _) _⟩
  · rw [setCell_eq_setRow w rb 0 _ 45 (0, 0) _ h1, setRow_heap w rb _ _ 45 (0, 0) h1]
    rw [List.length_drop]
    rfl
  · have := drop_block (h4 := h4) e (by rw [List.length_drop] at hp; omega)
    omega
  · exact drop_block (h4 := h4) e (by rw [List.length_drop] at hp; omega)

theorem get64_any (A : Option Addr) (c : Nat) (l : List Int) (w : World) (hl : l.length = 8) (hC : kb.C w A 8 l) (hc : 8 ≤ c) (hb : Bytes l) :
    Calls Try.prog 20 #[.slice A 8 c] w fun e w' => e = .returned (.int .u64 (fromB 0 l : Nat)) ∧ Drawn0 w w' := by
  rw [← hl] at hC hc ⊢
  exact pack_get_uint64.calls (l.length + 1) A c l _ w hC hc (get64_f l hb (by omega))
theorem get32_any (A : Option Addr) (c : Nat) (l : List Int) (w : World) (hl : l.length = 4) (hC : kb.C w A 4 l) (hc : 4 ≤ c) (hb : Bytes l) :
    Calls Try.prog 22 #[.slice A 4 c] w fun e w' => e = .returned (.int .u32 (fromB 0 l : Nat)) ∧ Drawn0 w w' := by
  rw [← hl] at hC hc ⊢
  exact pack_get_uint32.calls (l.length + 1) A c l _ w hC hc (get32_f l hb (by omega))
/-- what Unpack leaves -/
def UnpOut (way N : Nat) (b rest : List Int) (w : World) (e : Ending) (w' : World) : Prop :=
  Below w.heap.size w w' ∧ ∃ L last st, DecS way (rest, false) L last st ∧ L.length = N * N ∧ Words L ∧
    ((e = .returned (.tuple #[.agg #[.int .i64 0, .slice none 0 0], .int .i64 210]) ∧ (st.2 = true ∨ shortL N L ≠ b)) ∨
     (∃ A c, e = .returned (.tuple #[.agg #[.int .i64 N, .slice A L.length c], .int .i64 0]) ∧ kc.R 42 w' w.heap.size (fun _ => True) (.slice A L.length c) L ∧ st.2 = false ∧ shortL N L = b))
/-- the blocks that the cells' row is none of -/
def OkF (H fb : Nat) (k : Nat) : Prop := k ≠ H ∧ k ≠ H + 1 ∧ k ≠ fb ∧ k ≠ fb + 1
/-- the state of Unpack's loop, but the last numbers -/
structure LoopS (way : Nat) (H fb N : Nat) (rest : List Int) (w wr : World) (i : Nat) (L : List (Nat × Nat)) (last : Int × Int) (st : List Int × Bool) (v : Value) : Prop where
  below : Below H w wr
  len : L.length = i
  words : Words L
  dec : DecS way (rest, false) L last st
  rd : Rd wr (H + 1) st
  by_ : Bytes st.1
  res : wr.heap[H]? = some (.cells #[.int .i64 0, .slice none 0 0] 26)
  f : wr.heap[fb]? = some (.cells #[.int .i64 N, v] 26)
  row : kc.R 42 wr H (OkF H fb) v L
  hf : H + 1 < fb
  sz : fb + 1 < wr.heap.size
theorem LoopS.keep {way H fb N : Nat} {rest : List Int} {w wr w1 : World} {i : Nat} {L : List (Nat × Nat)} {last : Int × Int} {st : List Int × Bool} {v : Value} (h : LoopS way H fb N rest w wr i L last st v) (hk : Kept wr w1 (fun k => k = H + 1)) (hb : Below (H + 1) wr w1) :
    Below H w w1 ∧ w1.heap[H]? = some (.cells #[.int .i64 0, .slice none 0 0] 26) ∧ w1.heap[fb]? = some (.cells #[.int .i64 N, v] 26) ∧ kc.R 42 w1 H (OkF H fb) v L :=
  ⟨h.below.trans (hb.mono (by omega)), blk_kept h.res hk (by show ¬ (H = H + 1); omega), blk_kept h.f hk (by show ¬ (fb = H + 1); have := h.hf; omega), Kd.R_kept h.row hk (fun k ho he => ho.2.1 he)⟩

theorem store_grid {ops : Array Oper} {rest : List Oper} {o : Oper} {a : Act} {Q : Exit → Act → World → Prop} {W : World} (hN : o.dst = none) (hgd : o.guard = none) (p x : Operand) (ho : o.op = .store 26 p x)
    {g : Nat} (haddr : a.eval p = .pointer (some ⟨g, 0, none⟩)) {u : Int} {A : Option Addr} {n c : Nat} (hx : a.eval x = .agg #[.int .i64 u, .slice A n c]) {c1 c2 : Value} (hh : W.heap[g]? = some (.cells #[c1, c2] 26 (0, 0)))
    (h : ∀ w1, w1.heap[g]? = some (.cells #[.int .i64 u, .slice A n c] 26 (0, 0)) → Kept W w1 (fun k => k = g) → Below g W w1 → wpList Try.prog ops Q rest a w1) : wpList Try.prog ops Q (o :: rest) a W := by
  have hrun := run_store_run (P := Try.prog) 26 (.agg #[.int .i64 u, .slice A n c]) [.int .i64 u, .slice A n c] (g := g) (o := 0) hh rfl size26 (by simp) (by intro q hq; simp at hq; rcases hq with rfl | rfl <;> rfl)
  have e : W.setCells g 0 [.int .i64 u, .slice A n c] = W.setRow g #[.int .i64 u, .slice A n c] := by
    show (W.setCell ⟨g, 0, none⟩ _).setCell ⟨g, 1, none⟩ _ = _
    rw [set_two_eq hh]
  rw [e] at hrun
  have hK : Kept W (W.setRow g #[.int .i64 u, .slice A n c]) (fun k => k = g) := ⟨by simp, fun i _ hn => setRow_other W g i _ hn⟩
  have hB : Below g W (W.setRow g #[.int .i64 u, .slice A n c]) := ⟨rfl, rfl, rfl, by simp, fun k hk => setRow_other W g k _ (by omega)⟩
  refine wpList_plain hgd fun K hKK => ?_
  unfold Oper.wp execOp
  simp only [ho, haddr, hx, Sem.run_bind, Sem.run_pure, Result.andThen_ok, hrun]
  show K (a.put o.dst undef) _
  rw [hN]
  exact hKK a _ (h _ (setRow_heap W g _ _ 26 (0, 0) hh) hK hB)
theorem C_toK {W W' : World} {A : Option Addr} {n : Nat} {xs : List (Nat × Nat)} {S : Nat → Prop} (h : kc.C W A n xs) (hk : Kept W W' S) (hf : ∀ ad, A = some ad → 0 < n → ¬ S ad.block) : kc.C W' A n xs := by
  refine Kd.C_of_reads (enc := fun x : Nat × Nat => Value.complex .f64 x.1 x.2) (d := ((0, 0) : Nat × Nat)) (h1 := fun _ => rfl) ?_
  have hr := Kd.reads_of_C (enc := fun x : Nat × Nat => Value.complex .f64 x.1 x.2) (d := ((0, 0) : Nat × Nat)) (h1 := fun _ => rfl) h
  refine ⟨hr.1, hr.2.1, fun hp => ?_⟩
  obtain ⟨ad, e, hc⟩ := hr.2.2 hp
  refine ⟨ad, e, fun j hj => cell_kept (hc j hj) hk ?_⟩
  rw [add_block]
  exact hf ad e hp
theorem OkF.new {H fb S k : Nat} (h1 : fb + 1 < S) (h2 : H + 1 < fb) (hk : S ≤ k) : OkF H fb k := ⟨by omega, by omega, by omega, by omega⟩
theorem grown_kept {W w1 : World} {H : Nat} {ok : Nat → Prop} {v : Value} {L : List (Nat × Nat)} (h : kc.R 42 W H ok v L) (hg : W.grownBy w1 v.ownBlock) : Kept W w1 (fun k => ok k ∧ H ≤ k) :=
  Kept.of_grown hg (Kept.refl _ _) (fun k e => .inl ⟨h.1 k e, Kd.R_base h k e⟩)

theorem LoopS.next {way H fb N : Nat} {rest : List Int} {w wr w7 w8 : World} {i : Nat} {L : List (Nat × Nat)} {last last' : Int × Int} {st st' : List Int × Bool} {v v' : Value} {x : Nat × Nat}
    (h : LoopS way H fb N rest w wr i L last st v) (hk6 : wr.heap.size ≤ w7.heap.size) (hb : Below H w w8) (hx : w7.heap[H]? = some (.cells #[.int .i64 0, .slice none 0 0] 26)) (hf : w8.heap[fb]? = some (.cells #[.int .i64 N, v] 26))
    (hk8 : Kept w7 w8 (fun k => OkF H fb k ∧ H ≤ k)) (hr : kc.R 42 w8 H (OkF H fb) v' (L ++ [x])) (hw : x.1 < 2 ^ 64 ∧ x.2 < 2 ^ 64) (hrd : Rd w7 (H + 1) st') (hby : Bytes st'.1) (hs : StepP way last st x last' st') :
    LoopS way H fb N rest w (w8.setCell ⟨fb, 1, none⟩ v') (i + 1) (L ++ [x]) last' st' v' := by
  have hfb := h.hf
  have hks : Kept w8 (w8.setCell ⟨fb, 1, none⟩ v') (fun k => k = fb) := Kept.setCell (S := fun k => k = fb) (p := ⟨fb, 1, none⟩) (Kept.refl w8 _) (.inl rfl) _
  exact
    { below := hb.setCell (show H ≤ fb by omega) _
      len := by rw [List.length_append, h.len]; rfl
      words := fun y hy => by
        rcases List.mem_append.1 hy with hy | hy
        · exact h.words y hy
        · rw [List.mem_singleton.1 hy]; exact hw
      dec := .snoc h.dec hs
      rd := (hrd.keep hk8 (fun k hk => by obtain ⟨⟨a, b, _⟩, c⟩ := hk; omega)).keep hks (fun k hk => by show H + 1 < k; have : k = fb := hk; omega)
      by_ := hby
      res := blk_kept (blk_kept hx hk8 (fun h => h.1.1 rfl)) hks (by show ¬ (H = fb); omega)
      f := by rw [setCell_eq_setRow w8 fb 1 _ 26 (0, 0) _ hf, setRow_heap w8 fb _ _ 26 (0, 0) hf]; rfl
      row := Kd.R_far hr (p := ⟨fb, 1, none⟩) (fun k ho => ho.2.2.1) _
      hf := hfb
      sz := by have h1 := h.sz; have h2 := hk8.1; have h3 := hks.1; omega }

set_option maxHeartbeats 4000000 in
set_option maxRecDepth 100000 in
theorem unpack0_any (A : Option Addr) (c : Nat) (b : List Int) (w : World) (hA : kb.C w A b.length b) (hc : b.length ≤ c) (hb : Bytes b) (N : Nat) (hN : 1 ≤ N ∧ N ≤ 64) (rest : List Int) (hbe : b = [0, (N : Int)] ++ rest) :
    Calls Try.prog 6 #[.slice A b.length c] w fun e w' => UnpOut 0 N b rest w e w' := by
  have HA := Lib.hid hA
  have HLEN := Lib.hid (show b.length = rest.length + 2 by rw [hbe]; simp)
  have HMAX := Lib.hid (show b.length ≤ 9223372036854775807 from Kd.C_max hA)
  have HC := Lib.hid hc
  have HBE := Lib.hid hbe
  have HBY := Lib.hid hb
  obtain ⟨ad, rfl, hc0⟩ := Kd.at_int hA 0 (by decide) (by have := HLEN.out; omega)
  obtain ⟨_, e1, hc1⟩ := Kd.at_int hA 1 (by decide) (by have := HLEN.out; omega)
  cases e1
  rw [hbe] at hc0 hc1
  have HLT := Lib.hid (World.block_lt_of_cell? w _ hc0)
  clear hA hc hb hbe
  go_enter Try.func6, Try.ntmps6
  go_wp2_with fail
  obtain ⟨w1, hw1⟩ : ∃ w1 : World, w1 = (w.alloc (.cells #[.int .i64 0, .slice none 0 0] 26)).alloc (.cells #[.slice (some ad) b.length c, .bool false] 45) := ⟨_, rfl⟩
  rw [← hw1]
  have HB1 := Lib.hid (show Below w.heap.size w w1 by rw [hw1]; exact below_alloc (below_alloc (Below.refl _ _) _) _)
  have HX1 := Lib.hid (show w1.heap[w.heap.size]? = some (.cells #[.int .i64 0, .slice none 0 0] 26) by rw [hw1]; exact heap_alloc2_old w _ _)
  have HY1 := Lib.hid (show w1.heap[w.heap.size + 1]? = some (.cells #[.slice (some ad) b.length c, .bool false] 45) by rw [hw1]; exact heap_alloc2_new w _ _)
  have HS1 := Lib.hid (show w1.heap.size = w.heap.size + 2 by rw [hw1, World.size_alloc, World.size_alloc])
  clear hw1
  refine (take_ok2 2 (w.heap.size + 1) (some ad) c b false w1 (by have := HLEN.out; omega) HC.out (Kd.C_below HA.out HB1.out) HY1.out (fun a e hp => by cases e; have := HLT.out; rw [add_block] at this; omega)).mono ?_
  rintro e w2 ⟨rfl, hrd, hk2, hb2⟩
  have HRD := Lib.hid hrd
  have HB2 := Lib.hid (HB1.out.trans (hb2.mono (by omega)))
  have HX2 := Lib.hid (blk_kept HX1.out hk2 (by show ¬ (w.heap.size = w.heap.size + 1); omega))
  have HS2 := Lib.hid (show w.heap.size + 2 ≤ w2.heap.size by have := hk2.1; have := HS1.out; omega)
  have H0 := Lib.hid (show w.cell? ad = some (.int .u8 0) by simpa [Addr.add, rd] using hc0)
  have H1 := Lib.hid (show w.cell? ⟨ad.block, ad.off + 1, none⟩ = some (.int .u8 (N : Int)) by simpa [Addr.add, rd] using hc1)
  have hc0' := pw_cell_below HB2.out H0.out
  have hc1' := pw_cell_below HB2.out H1.out
  have hN1 : (N : Int) < 256 := by omega
  have hN2 : ¬ (N : Int) < 1 := by omega
  have hN3 : ¬ (64 : Int) < (N : Int) := by omega
  have hNle : N * N ≤ 4096 := Nat.mul_le_mul hN.2 hN.2
  have HNN := Lib.hid hNle
  have hNN : wrap64 ((N : Int) * (N : Int)) = ((N * N : Nat) : Int) := wrap64_id (by omega) (by omega)
  clear hNle
  obtain ⟨RA, rc, hrb, hrC, hrc, hrl⟩ := HRD.out
  obtain ⟨y1, y2, y3, y4⟩ := two_cells hrb
  dsimp only at y2
  clear hrb hrC hrc hrl y1 y3 y4
  have y2' : ∀ o, (w2.alloc o).cell? ⟨w.heap.size + 1, 1, none⟩ = some (.bool false) := fun o => pw_cell_below (below_alloc (Below.refl _ _) o) y2
  have hc0'' : ∀ o, (w2.alloc o).cell? ad = some (.int .u8 0) := fun o => pw_cell_below (below_alloc (Below.refl _ _) o) hc0'
  clear hrd hk2 hb2 HX1 HY1 hc0 hc1
  go_wp2_with fail
  rw [hNN]
  obtain ⟨fb, hfb⟩ : ∃ fb : Nat, fb = w2.heap.size := ⟨_, rfl⟩
  rw [← hfb]
  obtain ⟨w3, hw3⟩ : ∃ w3 : World, w3 = (w2.alloc (.cells #[.int .i64 N, .slice none 0 0] 26)).alloc (.cells #[.int .i64 0, .int .i64 0] 47) := ⟨_, rfl⟩
  rw [← hw3]
  have HK3 := Lib.hid (show Kept w2 w3 (fun _ => False) by rw [hw3]; exact ((Kept.refl w2 _).alloc _).alloc _)
  have HL0 := Lib.hid (show LoopS 0 w.heap.size fb N rest w w3 0 [] (0, 0) (rest, false) (.slice none 0 0) from
    { below := HB2.out.trans (by rw [hw3]; exact (below_alloc (below_alloc (Below.refl _ _) _) _).mono HB2.out.size)
      len := rfl
      words := fun x hx => by cases hx
      dec := .nil
      rd := by have := HRD.out.keep HK3.out (fun _ h => h.elim); rwa [HBE.out] at this
      by_ := fun c hc => HBY.out c (by rw [HBE.out]; exact List.mem_append_right _ hc)
      res := blk_kept HX2.out HK3.out (fun h => h)
      f := by rw [hw3, hfb]; exact heap_alloc2_old w2 _ _
      row := Kd.R_nil _ _ _ _ _
      hf := by have := HS2.out; omega
      sz := by rw [hw3, World.size_alloc, World.size_alloc]; omega })
  clear hw3 hc0' hc1' hc0'' y2 y2' hNN hfb
  go_loopg [47] (N * N + 1) (fun gk v47 wr => ∃ (i : Nat) (L : List (Nat × Nat)) (st : List Int × Bool) (v : Value), v47 = .int .i64 (i : Int) ∧ Hid (i + gk = N * N + 1) ∧ Hid (i ≤ N * N) ∧ Hid (LoopS 0 w.heap.size fb N rest w wr i L (0, 0) st v))
  case atStart => exact ⟨0, [], (rest, false), .slice none 0 0, rfl, Lib.hid (by omega), Lib.hid (by omega), HL0⟩
  case round =>
    obtain ⟨i, L, st, v, rfl, hg, hi, hl⟩ := hrel
    clear HL0 HK3
    have hcell := pw_cell_below hl.out.below H0.out
    by_cases hlt : i < N * N
    · have hlt' : (i : Int) < ((N * N : Nat) : Int) := by omega
      go_wp2_with fail
      refine (take_any 8 (.inr (.inr (.inr rfl))) _ st wr hl.out.rd).mono ?_
      rintro e w4 ⟨A1, c1, rfl, hle1, hC1, hrd1, hk1, hb1⟩
      have hby1 := takeP_bytes (n := 8) hl.out.by_
      have hln1 := takeP_length 8 st
      go_wp2_with fail
      refine (get64_any A1 c1 _ w4 hln1 hC1 hle1 hby1.1).mono ?_
      rintro e w5 ⟨rfl, ⟨n5, rfl⟩⟩
      have HK4 := Lib.hid hk1
      have HB4 := Lib.hid hb1
      have HRD4 := Lib.hid hrd1
      have HBY4 := Lib.hid hby1.2
      obtain ⟨re, hre⟩ : ∃ re : Nat, re = fromB 0 (takeP 8 st).1 := ⟨_, rfl⟩
      rw [← hre]
      have HRE := Lib.hid (show re = fromB 0 (takeP 8 st).1 ∧ re < 2 ^ 64 from ⟨hre, by rw [hre]; have := fromB_bound _ 0 0 hby1.1 (by decide); rwa [hln1] at this⟩)
      clear hC1 hrd1 hk1 hb1 hby1 hln1 hre
      go_wp2_with fail
      refine (take_any 8 (.inr (.inr (.inr rfl))) (w.heap.size + 1) (takeP 8 st).2 (w4.drewN n5) (HRD4.out.keep (kept_drewN (Kept.refl w4 (fun _ => False)) n5) (fun _ h => h.elim))).mono ?_
      rintro e w6 ⟨A2, c2, rfl, hle2, hC2, hrd2, hk2, hb2⟩
      have hby2 := takeP_bytes (n := 8) HBY4.out
      have hln2 := takeP_length 8 (takeP 8 st).2
      go_wp2_with fail
      refine (get64_any A2 c2 _ w6 hln2 hC2 hle2 hby2.1).mono ?_
      rintro e w7 ⟨rfl, ⟨n7, rfl⟩⟩
      have HK6 := Lib.hid (HK4.out.then_ (show Kept w4 w6 (fun k => k = w.heap.size + 1) from hk2) (fun k hk => .inl hk))
      have HB6 := Lib.hid (HB4.out.trans (show Below (w.heap.size + 1) w4 w6 from (below_drewN (Below.refl _ w4) n5).trans hb2))
      have HRD6 := Lib.hid hrd2
      have HBY6 := Lib.hid hby2.2
      obtain ⟨im, him⟩ : ∃ im : Nat, im = fromB 0 (takeP 8 (takeP 8 st).2).1 := ⟨_, rfl⟩
      rw [← him]
      have HIM := Lib.hid (show im = fromB 0 (takeP 8 (takeP 8 st).2).1 ∧ im < 2 ^ 64 from ⟨him, by rw [him]; have := fromB_bound _ 0 0 hby2.1 (by decide); rwa [hln2] at this⟩)
      obtain ⟨k1, k2, k3, k4⟩ := hl.out.keep HK6.out HB6.out
      obtain ⟨z1, z2, z3, z4⟩ := two_cells k3
      have HQ := Lib.hid k4
      have HKB := Lib.hid k1
      have HKR := Lib.hid k2
      have HKF := Lib.hid k3
      obtain ⟨VA, vc, rfl⟩ := Kd.R_slice k4
      clear hC2 hrd2 hk2 hb2 hby2 hln2 him k1 k2 k3 k4 HK4 HB4 HRD4 HBY4 hcell
      have hi1 : wrap64 ((i : Int) + 1) = ((i + 1 : Nat) : Int) := wrap64_id (by have := HNN.out; omega) (by have := HNN.out; omega)
      have HSZ := Lib.hid (show fb + 1 < (w6.drewN n7).heap.size from Nat.lt_of_lt_of_le hl.out.sz HK6.out.1)
      have HLL := Lib.hid (show (L.length + 1) * 16 ≤ 140737488355328 by have := hl.out.len; have := HNN.out; omega)
      go_upto_region 21 with (fail)
      go_wp2_with (first | ((with_reducible refine gate_builtin (b := .append) (xs := #[.tmp 99, .tmp 101]) rfl ?_); at_builtin; refine Kd.R_append kc (w0 := w) w.heap.size rfl (.tmp 99) (.tmp 101) 24 42 (.complex .f64 0 0) 16 rfl und24 info42 rfl (by decide) (by omega) (.slice VA L.length vc) L (re, im) [.complex .f64 re im] (OkF w.heap.size fb) (fun _ => False) ?hs ?hx ?aP (fun _ hk => hk.elim) ?aF ?aO ?aB ?aS ?aL ?_; (case hs => go_simp); (case hx => go_simp); (case aP => exact rfl); (case aF => exact (fun k hk => OkF.new HSZ.out hl.out.hf hk)); (case aO => exact Kd.R_drewN HQ.out n7); (case aB => exact below_drewN HKB.out n7); (case aS => exact HKB.out.size); (case aL => exact HLL.out); intro v1 w8 ho hbb hgr hat; have hk8 := grown_kept (Kd.R_drewN HQ.out n7) hgr; have HF8 := Lib.hid (blk_kept (HKF.out : (w6.drewN n7).heap[fb]? = _) hk8 (fun h => h.1.2.2.1 rfl)); have HK8 := Lib.hid hk8; have HO8 := Lib.hid ho; have HB8 := Lib.hid hbb; obtain ⟨VB, vd, rfl⟩ := Kd.R_slice ho; obtain ⟨t1, t2, t3, t4⟩ := two_cells HF8.out; clear ho hbb hgr hat hk8))
      go_roundg (gk - 1)
      case measure => have := hg.out; omega
      case rel =>
        refine ⟨i + 1, L ++ [(re, im)], (takeP 8 (takeP 8 st).2).2, .slice VB (L.length + 1) vd, by rw [hi1], Lib.hid (by have := hg.out; omega), Lib.hid (by omega), Lib.hid ?_⟩
        have hnext := hl.out.next HK6.out.1 HB8.out (HKR.out : (w6.drewN n7).heap[w.heap.size]? = _) HF8.out HK8.out HO8.out ⟨HRE.out.2, HIM.out.2⟩ (HRD6.out.keep (kept_drewN (Kept.refl w6 (fun _ => False)) n7) (fun _ h => h.elim)) HBY6.out (by unfold StepP; rw [if_pos rfl, ← HRE.out.1, ← HIM.out.1]; exact ⟨rfl, rfl, rfl⟩)
        rwa [show (L ++ [(re, im)]).length = L.length + 1 from by simp] at hnext
    · have hlt' : ¬ (i : Int) < ((N * N : Nat) : Int) := by omega
      obtain ⟨RA, rc, hrb, hrC, hrc, hrl⟩ := hl.out.rd
      obtain ⟨y1, y2, y3, y4⟩ := two_cells hrb
      clear hrb hrC hrc hrl y1 y3 y4
      obtain ⟨VA, vc, rfl⟩ := Kd.R_slice hl.out.row
      rcases hst : st.2 with _ | _
      · rw [hst] at y2
        have HST := Lib.hid hst
        clear hst
        have HLN := Lib.hid (show L.length = N * N by rw [hl.out.len]; have := hi.out; omega)
        have HRC := Lib.hid (Kd.R_reads' hl.out.row).2.2
        go_wp2_with (first | ((with_reducible refine gate_dst (N := 110) rfl ?_); refine gate_guard ?hgd ?_; (case hgd => go_simp); refine load_grid rfl (.tmp 6) rfl (g := fb) ?hx (u := .int .i64 N) (v := .slice VA L.length vc) hl.out.f ?_; (case hx => go_simp)))
        refine (shortest_any (N : Int) (by omega) VA vc L wr HRC.out hl.out.words (by rw [HLN.out]; exact HNN.out)).mono ?_
        rintro e w6 ⟨sv, rfl, hb6, hr6⟩
        obtain ⟨SA, sc, rfl, hsle, hSC⟩ := Kd.R_reads hr6
        have HB6 := Lib.hid (hl.out.below.trans (hb6.mono hl.out.below.size))
        have HX6 := Lib.hid ((hb6.block _ (blk_lt hl.out.res)).trans hl.out.res)
        have HF6 := Lib.hid ((hb6.block _ (blk_lt hl.out.f)).trans hl.out.f)
        have HR6 := Lib.hid (Kd.R_below hl.out.row hb6)
        go_wp2_with fail
        refine (equal_any SA sc (shortL N L) (some ad) c b w6 hSC hsle (Kd.C_below HA.out HB6.out) HC.out (shortL_bytes (by omega) L) HBY.out).mono ?_
        rintro e w7 ⟨rfl, ⟨n7, rfl⟩⟩
        clear hb6 hr6 hSC hsle
        by_cases heq : shortL N L = b
        · have hdec : decide (shortL N L = b) = true := decide_eq_true heq
          have HEQ := Lib.hid heq
          rw [hdec]
          clear heq hdec
          go_wp2_with (first
            | ((with_reducible refine gate_dst (N := 117) rfl ?_); refine load_grid rfl (.tmp 6) rfl (g := fb) ?hx (u := .int .i64 N) (v := .slice VA L.length vc) HF6.out ?_; (case hx => go_simp))
            | ((with_reducible refine gate_store (t := 26) (p := 2) rfl ?_); refine store_grid rfl rfl (.tmp 2) (.tmp 117) rfl (g := w.heap.size) ?hp (u := (N : Int)) (A := VA) (n := L.length) (c := vc) ?hv HX6.out ?_; (case hp => go_simp); (case hv => go_simp); intro w8 hh8 hk8 hb8; have HR8 := Lib.hid hh8; have HK8 := Lib.hid hk8; have HB8 := Lib.hid ((below_drewN HB6.out n7).trans (hb8.mono (Nat.le_refl _))); clear hh8 hk8 hb8))
          obtain ⟨r1, r2, -, -⟩ := two_cells HR8.out
          refine bodyPost_ret (v := .tuple #[.agg #[.int .i64 N, .slice VA L.length vc], .int .i64 0]) (by simp [results, Try.results6, go_sem, r1, r2]) rfl ⟨HB8.out, L, (0, 0), st, hl.out.dec, HLN.out, hl.out.words, .inr ⟨VA, vc, rfl, ?_, HST.out, HEQ.out⟩⟩
          exact Kd.R_mono (Kd.R_kept (Kd.R_drewN HR6.out n7) HK8.out (fun k ho he => ho.1 he)) (fun _ _ => trivial)
        · have hdec : decide (shortL N L = b) = false := decide_eq_false heq
          have HEQ := Lib.hid heq
          rw [hdec]
          clear heq hdec
          go_wp2_with (first | ((with_reducible refine gate_store (t := 26) (p := 2) rfl ?_); refine store_grid rfl rfl (.tmp 2) (.tmp 116) rfl (g := w.heap.size) ?hp (u := 0) (A := none) (n := 0) (c := 0) ?hv HX6.out ?_; (case hp => go_simp); (case hv => go_simp); intro w8 hh8 hk8 hb8; have HR8 := Lib.hid hh8; have HB8 := Lib.hid ((below_drewN HB6.out n7).trans (hb8.mono (Nat.le_refl _))); clear hh8 hk8 hb8))
          obtain ⟨r1, r2, -, -⟩ := two_cells HR8.out
          refine bodyPost_ret (v := .tuple #[.agg #[.int .i64 0, .slice none 0 0], .int .i64 210]) (by simp [results, Try.results6, go_sem, r1, r2]) rfl ⟨HB8.out, L, (0, 0), st, hl.out.dec, HLN.out, hl.out.words, .inl ⟨rfl, .inr HEQ.out⟩⟩
      · rw [hst] at y2
        have HST := Lib.hid hst
        clear hst
        go_wp2_with (first | ((with_reducible refine gate_store (t := 26) (p := 2) rfl ?_); refine store_grid rfl rfl (.tmp 2) (.tmp 116) rfl (g := w.heap.size) ?hp (u := 0) (A := none) (n := 0) (c := 0) ?hv hl.out.res ?_; (case hp => go_simp); (case hv => go_simp); intro w6 hh6 hk6 hb6; have HR6 := Lib.hid hh6; have HB6 := Lib.hid (hl.out.below.trans (hb6.mono (Nat.le_refl _))); clear hh6 hk6 hb6))
        obtain ⟨r1, r2, -, -⟩ := two_cells HR6.out
        refine bodyPost_ret (v := .tuple #[.agg #[.int .i64 0, .slice none 0 0], .int .i64 210]) (by simp [results, Try.results6, go_sem, r1, r2]) rfl ⟨HB6.out, L, (0, 0), st, hl.out.dec, by rw [hl.out.len]; have := hi.out; omega, hl.out.words, .inl ⟨rfl, .inl HST.out⟩⟩
end Go.Proofs.Ytomildjihlbbmaa

/-
  Unpack: the narrow way.
-/
namespace Go.Proofs.Ytomildjihlbbmaa
open Go.RowKit Flt Num Go.Proofs.YtomildjihlbbmaaW.PrintWords Go.Proofs.YtomildjihlbbmaaW.PrintLast Go.Proofs.YtomildjihlbbmaaW.PrintMore Go.Proofs.Ytomildjihlbbmaa.PPackUnpacks
set_option linter.unusedVariables false
attribute [local go_sem] run_f64bits run_f64from run_f32bits run_f32from
set_option maxHeartbeats 4000000 in
set_option maxRecDepth 100000 in
theorem unpack1_any (A : Option Addr) (c : Nat) (b : List Int) (w : World) (hA : kb.C w A b.length b) (hc : b.length ≤ c) (hb : Bytes b) (N : Nat) (hN : 1 ≤ N ∧ N ≤ 64) (rest : List Int) (hbe : b = [1, (N : Int)] ++ rest) :
    Calls Try.prog 6 #[.slice A b.length c] w fun e w' => UnpOut 1 N b rest w e w' := by
  have HA := Lib.hid hA
  have HLEN := Lib.hid (show b.length = rest.length + 2 by rw [hbe]; simp)
  have HMAX := Lib.hid (show b.length ≤ 9223372036854775807 from Kd.C_max hA)
  have HC := Lib.hid hc
  have HBE := Lib.hid hbe
  have HBY := Lib.hid hb
  obtain ⟨ad, rfl, hc0⟩ := Kd.at_int hA 0 (by decide) (by have := HLEN.out; omega)
  obtain ⟨_, e1, hc1⟩ := Kd.at_int hA 1 (by decide) (by have := HLEN.out; omega)
  cases e1
  rw [hbe] at hc0 hc1
  have HLT := Lib.hid (World.block_lt_of_cell? w _ hc0)
  clear hA hc hb hbe
  go_enter Try.func6, Try.ntmps6
  go_wp2_with fail
  obtain ⟨w1, hw1⟩ : ∃ w1 : World, w1 = (w.alloc (.cells #[.int .i64 0, .slice none 0 0] 26)).alloc (.cells #[.slice (some ad) b.length c, .bool false] 45) := ⟨_, rfl⟩
  rw [← hw1]
  have HB1 := Lib.hid (show Below w.heap.size w w1 by rw [hw1]; exact below_alloc (below_alloc (Below.refl _ _) _) _)
  have HX1 := Lib.hid (show w1.heap[w.heap.size]? = some (.cells #[.int .i64 0, .slice none 0 0] 26) by rw [hw1]; exact heap_alloc2_old w _ _)
  have HY1 := Lib.hid (show w1.heap[w.heap.size + 1]? = some (.cells #[.slice (some ad) b.length c, .bool false] 45) by rw [hw1]; exact heap_alloc2_new w _ _)
  have HS1 := Lib.hid (show w1.heap.size = w.heap.size + 2 by rw [hw1, World.size_alloc, World.size_alloc])
  clear hw1
  refine (take_ok2 2 (w.heap.size + 1) (some ad) c b false w1 (by have := HLEN.out; omega) HC.out (Kd.C_below HA.out HB1.out) HY1.out (fun a e hp => by cases e; have := HLT.out; rw [add_block] at this; omega)).mono ?_
  rintro e w2 ⟨rfl, hrd, hk2, hb2⟩
  have HRD := Lib.hid hrd
  have HB2 := Lib.hid (HB1.out.trans (hb2.mono (by omega)))
  have HX2 := Lib.hid (blk_kept HX1.out hk2 (by show ¬ (w.heap.size = w.heap.size + 1); omega))
  have HS2 := Lib.hid (show w.heap.size + 2 ≤ w2.heap.size by have := hk2.1; have := HS1.out; omega)
  have H0 := Lib.hid (show w.cell? ad = some (.int .u8 1) by simpa [Addr.add, rd] using hc0)
  have H1 := Lib.hid (show w.cell? ⟨ad.block, ad.off + 1, none⟩ = some (.int .u8 (N : Int)) by simpa [Addr.add, rd] using hc1)
  have hc0' := pw_cell_below HB2.out H0.out
  have hc1' := pw_cell_below HB2.out H1.out
  have hN1 : (N : Int) < 256 := by omega
  have hN2 : ¬ (N : Int) < 1 := by omega
  have hN3 : ¬ (64 : Int) < (N : Int) := by omega
  have hNle : N * N ≤ 4096 := Nat.mul_le_mul hN.2 hN.2
  have HNN := Lib.hid hNle
  have hNN : wrap64 ((N : Int) * (N : Int)) = ((N * N : Nat) : Int) := wrap64_id (by omega) (by omega)
  clear hNle
  obtain ⟨RA, rc, hrb, hrC, hrc, hrl⟩ := HRD.out
  obtain ⟨y1, y2, y3, y4⟩ := two_cells hrb
  dsimp only at y2
  clear hrb hrC hrc hrl y1 y3 y4
  have y2' : ∀ o, (w2.alloc o).cell? ⟨w.heap.size + 1, 1, none⟩ = some (.bool false) := fun o => pw_cell_below (below_alloc (Below.refl _ _) o) y2
  have hc0'' : ∀ o, (w2.alloc o).cell? ad = some (.int .u8 1) := fun o => pw_cell_below (below_alloc (Below.refl _ _) o) hc0'
  clear hrd hk2 hb2 HX1 HY1 hc0 hc1
  go_wp2_with fail
  rw [hNN]
  obtain ⟨fb, hfb⟩ : ∃ fb : Nat, fb = w2.heap.size := ⟨_, rfl⟩
  rw [← hfb]
  obtain ⟨w3, hw3⟩ : ∃ w3 : World, w3 = (w2.alloc (.cells #[.int .i64 N, .slice none 0 0] 26)).alloc (.cells #[.int .i64 0, .int .i64 0] 47) := ⟨_, rfl⟩
  rw [← hw3]
  have HK3 := Lib.hid (show Kept w2 w3 (fun _ => False) by rw [hw3]; exact ((Kept.refl w2 _).alloc _).alloc _)
  have HL0 := Lib.hid (show LoopS 1 w.heap.size fb N rest w w3 0 [] (0, 0) (rest, false) (.slice none 0 0) from
    { below := HB2.out.trans (by rw [hw3]; exact (below_alloc (below_alloc (Below.refl _ _) _) _).mono HB2.out.size)
      len := rfl
      words := fun x hx => by cases hx
      dec := .nil
      rd := by have := HRD.out.keep HK3.out (fun _ h => h.elim); rwa [HBE.out] at this
      by_ := fun c hc => HBY.out c (by rw [HBE.out]; exact List.mem_append_right _ hc)
      res := blk_kept HX2.out HK3.out (fun h => h)
      f := by rw [hw3, hfb]; exact heap_alloc2_old w2 _ _
      row := Kd.R_nil _ _ _ _ _
      hf := by have := HS2.out; omega
      sz := by rw [hw3, World.size_alloc, World.size_alloc]; omega })
  clear hw3 hc0' hc1' hc0'' y2 y2' hNN hfb
  go_loopg [47] (N * N + 1) (fun gk v47 wr => ∃ (i : Nat) (L : List (Nat × Nat)) (st : List Int × Bool) (v : Value), v47 = .int .i64 (i : Int) ∧ Hid (i + gk = N * N + 1) ∧ Hid (i ≤ N * N) ∧ Hid (LoopS 1 w.heap.size fb N rest w wr i L (0, 0) st v))
  case atStart => exact ⟨0, [], (rest, false), .slice none 0 0, rfl, Lib.hid (by omega), Lib.hid (by omega), HL0⟩
  case round =>
    obtain ⟨i, L, st, v, rfl, hg, hi, hl⟩ := hrel
    clear HL0 HK3
    have hcell := pw_cell_below hl.out.below H0.out
    by_cases hlt : i < N * N
    · have hlt' : (i : Int) < ((N * N : Nat) : Int) := by omega
      go_wp2_with fail
      refine (take_any 4 (.inr (.inr (.inl rfl))) _ st wr hl.out.rd).mono ?_
      rintro e w4 ⟨A1, c1, rfl, hle1, hC1, hrd1, hk1, hb1⟩
      have hby1 := takeP_bytes (n := 4) hl.out.by_
      have hln1 := takeP_length 4 st
      go_wp2_with fail
      refine (get32_any A1 c1 _ w4 hln1 hC1 hle1 hby1.1).mono ?_
      rintro e w5 ⟨rfl, ⟨n5, rfl⟩⟩
      have HK4 := Lib.hid hk1
      have HB4 := Lib.hid hb1
      have HRD4 := Lib.hid hrd1
      have HBY4 := Lib.hid hby1.2
      obtain ⟨re, hre⟩ : ∃ re : Nat, re = fromB 0 (takeP 4 st).1 := ⟨_, rfl⟩
      rw [← hre]
      have HRE := Lib.hid (show re = fromB 0 (takeP 4 st).1 ∧ re < 2 ^ 32 from ⟨hre, by rw [hre]; have := fromB_bound _ 0 0 hby1.1 (by decide); rwa [hln1] at this⟩)
      clear hC1 hrd1 hk1 hb1 hby1 hln1 hre
      go_wp2_with fail
      refine (take_any 4 (.inr (.inr (.inl rfl))) (w.heap.size + 1) (takeP 4 st).2 (w4.drewN n5) (HRD4.out.keep (kept_drewN (Kept.refl w4 (fun _ => False)) n5) (fun _ h => h.elim))).mono ?_
      rintro e w6 ⟨A2, c2, rfl, hle2, hC2, hrd2, hk2, hb2⟩
      have hby2 := takeP_bytes (n := 4) HBY4.out
      have hln2 := takeP_length 4 (takeP 4 st).2
      go_wp2_with fail
      refine (get32_any A2 c2 _ w6 hln2 hC2 hle2 hby2.1).mono ?_
      rintro e w7 ⟨rfl, ⟨n7, rfl⟩⟩
      have HK6 := Lib.hid (HK4.out.then_ (show Kept w4 w6 (fun k => k = w.heap.size + 1) from hk2) (fun k hk => .inl hk))
      have HB6 := Lib.hid (HB4.out.trans (show Below (w.heap.size + 1) w4 w6 from (below_drewN (Below.refl _ w4) n5).trans hb2))
      have HRD6 := Lib.hid hrd2
      have HBY6 := Lib.hid hby2.2
      obtain ⟨im, him⟩ : ∃ im : Nat, im = fromB 0 (takeP 4 (takeP 4 st).2).1 := ⟨_, rfl⟩
      rw [← him]
      have HIM := Lib.hid (show im = fromB 0 (takeP 4 (takeP 4 st).2).1 ∧ im < 2 ^ 32 from ⟨him, by rw [him]; have := fromB_bound _ 0 0 hby2.1 (by decide); rwa [hln2] at this⟩)
      obtain ⟨y, z, n8, hup, hw1, hw2⟩ := run_up2 re im HRE.out.2 HIM.out.2 (w6.drewN n7)
      have HW1 := Lib.hid hw1
      have HW2 := Lib.hid hw2
      clear hw1 hw2
      obtain ⟨k1, k2, k3, k4⟩ := hl.out.keep HK6.out HB6.out
      obtain ⟨z1, z2, z3, z4⟩ := two_cells k3
      have HQ := Lib.hid k4
      have HKB := Lib.hid k1
      have HKR := Lib.hid k2
      have HKF := Lib.hid k3
      obtain ⟨VA, vc, rfl⟩ := Kd.R_slice k4
      clear hC2 hrd2 hk2 hb2 hby2 hln2 him k1 k2 k3 k4 HK4 HB4 HRD4 HBY4 hcell
      have hi1 : wrap64 ((i : Int) + 1) = ((i + 1 : Nat) : Int) := wrap64_id (by have := HNN.out; omega) (by have := HNN.out; omega)
      have HSZ := Lib.hid (show fb + 1 < (w6.drewN (n7 + n8)).heap.size from Nat.lt_of_lt_of_le hl.out.sz HK6.out.1)
      have HLL := Lib.hid (show (L.length + 1) * 16 ≤ 140737488355328 by have := hl.out.len; have := HNN.out; omega)
      go_upto_region 21 with (fail)
      go_wp2_with (first | ((with_reducible refine gate_builtin (b := .append) (xs := #[.tmp 99, .tmp 101]) rfl ?_); at_builtin; refine Kd.R_append kc (w0 := w) w.heap.size rfl (.tmp 99) (.tmp 101) 24 42 (.complex .f64 0 0) 16 rfl und24 info42 rfl (by decide) (by omega) (.slice VA L.length vc) L (y, z) [.complex .f64 y z] (OkF w.heap.size fb) (fun _ => False) ?hs ?hx ?aP (fun _ hk => hk.elim) ?aF ?aO ?aB ?aS ?aL ?_; (case hs => go_simp); (case hx => go_simp); (case aP => exact rfl); (case aF => exact (fun k hk => OkF.new HSZ.out hl.out.hf hk)); (case aO => exact Kd.R_drewN HQ.out (n7 + n8)); (case aB => exact below_drewN HKB.out (n7 + n8)); (case aS => exact HKB.out.size); (case aL => exact HLL.out); intro v1 w8 ho hbb hgr hat; have hk8 := grown_kept (Kd.R_drewN HQ.out (n7 + n8)) hgr; have HF8 := Lib.hid (blk_kept (HKF.out : (w6.drewN (n7 + n8)).heap[fb]? = _) hk8 (fun h => h.1.2.2.1 rfl)); have HK8 := Lib.hid hk8; have HO8 := Lib.hid ho; have HB8 := Lib.hid hbb; obtain ⟨VB, vd, rfl⟩ := Kd.R_slice ho; obtain ⟨t1, t2, t3, t4⟩ := two_cells HF8.out; clear ho hbb hgr hat hk8))
      go_roundg (gk - 1)
      case measure => have := hg.out; omega
      case rel =>
        refine ⟨i + 1, L ++ [(y, z)], (takeP 4 (takeP 4 st).2).2, .slice VB (L.length + 1) vd, by rw [hi1], Lib.hid (by have := hg.out; omega), Lib.hid (by omega), Lib.hid ?_⟩
        have hnext := hl.out.next HK6.out.1 HB8.out (HKR.out : (w6.drewN (n7 + n8)).heap[w.heap.size]? = _) HF8.out HK8.out HO8.out ⟨HW1.out.1, HW2.out.1⟩ (HRD6.out.keep (kept_drewN (Kept.refl w6 (fun _ => False)) (n7 + n8)) (fun _ h => h.elim)) HBY6.out (by unfold StepP; rw [if_neg (by decide), if_pos rfl, ← HRE.out.1, ← HIM.out.1]; exact ⟨HW1.out, HW2.out, rfl, rfl⟩)
        rwa [show (L ++ [(y, z)]).length = L.length + 1 from by simp] at hnext
    · have hlt' : ¬ (i : Int) < ((N * N : Nat) : Int) := by omega
      obtain ⟨RA, rc, hrb, hrC, hrc, hrl⟩ := hl.out.rd
      obtain ⟨y1, y2, y3, y4⟩ := two_cells hrb
      clear hrb hrC hrc hrl y1 y3 y4
      obtain ⟨VA, vc, rfl⟩ := Kd.R_slice hl.out.row
      rcases hst : st.2 with _ | _
      · rw [hst] at y2
        have HST := Lib.hid hst
        clear hst
        have HLN := Lib.hid (show L.length = N * N by rw [hl.out.len]; have := hi.out; omega)
        have HRC := Lib.hid (Kd.R_reads' hl.out.row).2.2
        go_wp2_with (first | ((with_reducible refine gate_dst (N := 110) rfl ?_); refine gate_guard ?hgd ?_; (case hgd => go_simp); refine load_grid rfl (.tmp 6) rfl (g := fb) ?hx (u := .int .i64 N) (v := .slice VA L.length vc) hl.out.f ?_; (case hx => go_simp)))
        refine (shortest_any (N : Int) (by omega) VA vc L wr HRC.out hl.out.words (by rw [HLN.out]; exact HNN.out)).mono ?_
        rintro e w6 ⟨sv, rfl, hb6, hr6⟩
        obtain ⟨SA, sc, rfl, hsle, hSC⟩ := Kd.R_reads hr6
        have HB6 := Lib.hid (hl.out.below.trans (hb6.mono hl.out.below.size))
        have HX6 := Lib.hid ((hb6.block _ (blk_lt hl.out.res)).trans hl.out.res)
        have HF6 := Lib.hid ((hb6.block _ (blk_lt hl.out.f)).trans hl.out.f)
        have HR6 := Lib.hid (Kd.R_below hl.out.row hb6)
        go_wp2_with fail
        refine (equal_any SA sc (shortL N L) (some ad) c b w6 hSC hsle (Kd.C_below HA.out HB6.out) HC.out (shortL_bytes (by omega) L) HBY.out).mono ?_
        rintro e w7 ⟨rfl, ⟨n7, rfl⟩⟩
        clear hb6 hr6 hSC hsle
        by_cases heq : shortL N L = b
        · have hdec : decide (shortL N L = b) = true := decide_eq_true heq
          have HEQ := Lib.hid heq
          rw [hdec]
          clear heq hdec
          go_wp2_with (first
            | ((with_reducible refine gate_dst (N := 117) rfl ?_); refine load_grid rfl (.tmp 6) rfl (g := fb) ?hx (u := .int .i64 N) (v := .slice VA L.length vc) HF6.out ?_; (case hx => go_simp))
            | ((with_reducible refine gate_store (t := 26) (p := 2) rfl ?_); refine store_grid rfl rfl (.tmp 2) (.tmp 117) rfl (g := w.heap.size) ?hp (u := (N : Int)) (A := VA) (n := L.length) (c := vc) ?hv HX6.out ?_; (case hp => go_simp); (case hv => go_simp); intro w8 hh8 hk8 hb8; have HR8 := Lib.hid hh8; have HK8 := Lib.hid hk8; have HB8 := Lib.hid ((below_drewN HB6.out n7).trans (hb8.mono (Nat.le_refl _))); clear hh8 hk8 hb8))
          obtain ⟨r1, r2, -, -⟩ := two_cells HR8.out
          refine bodyPost_ret (v := .tuple #[.agg #[.int .i64 N, .slice VA L.length vc], .int .i64 0]) (by simp [results, Try.results6, go_sem, r1, r2]) rfl ⟨HB8.out, L, (0, 0), st, hl.out.dec, HLN.out, hl.out.words, .inr ⟨VA, vc, rfl, ?_, HST.out, HEQ.out⟩⟩
          exact Kd.R_mono (Kd.R_kept (Kd.R_drewN HR6.out n7) HK8.out (fun k ho he => ho.1 he)) (fun _ _ => trivial)
        · have hdec : decide (shortL N L = b) = false := decide_eq_false heq
          have HEQ := Lib.hid heq
          rw [hdec]
          clear heq hdec
          go_wp2_with (first | ((with_reducible refine gate_store (t := 26) (p := 2) rfl ?_); refine store_grid rfl rfl (.tmp 2) (.tmp 116) rfl (g := w.heap.size) ?hp (u := 0) (A := none) (n := 0) (c := 0) ?hv HX6.out ?_; (case hp => go_simp); (case hv => go_simp); intro w8 hh8 hk8 hb8; have HR8 := Lib.hid hh8; have HB8 := Lib.hid ((below_drewN HB6.out n7).trans (hb8.mono (Nat.le_refl _))); clear hh8 hk8 hb8))
          obtain ⟨r1, r2, -, -⟩ := two_cells HR8.out
          refine bodyPost_ret (v := .tuple #[.agg #[.int .i64 0, .slice none 0 0], .int .i64 210]) (by simp [results, Try.results6, go_sem, r1, r2]) rfl ⟨HB8.out, L, (0, 0), st, hl.out.dec, HLN.out, hl.out.words, .inl ⟨rfl, .inr HEQ.out⟩⟩
      · rw [hst] at y2
        have HST := Lib.hid hst
        clear hst
        go_wp2_with (first | ((with_reducible refine gate_store (t := 26) (p := 2) rfl ?_); refine store_grid rfl rfl (.tmp 2) (.tmp 116) rfl (g := w.heap.size) ?hp (u := 0) (A := none) (n := 0) (c := 0) ?hv hl.out.res ?_; (case hp => go_simp); (case hv => go_simp); intro w6 hh6 hk6 hb6; have HR6 := Lib.hid hh6; have HB6 := Lib.hid (hl.out.below.trans (hb6.mono (Nat.le_refl _))); clear hh6 hk6 hb6))
        obtain ⟨r1, r2, -, -⟩ := two_cells HR6.out
        refine bodyPost_ret (v := .tuple #[.agg #[.int .i64 0, .slice none 0 0], .int .i64 210]) (by simp [results, Try.results6, go_sem, r1, r2]) rfl ⟨HB6.out, L, (0, 0), st, hl.out.dec, by rw [hl.out.len]; have := hi.out; omega, hl.out.words, .inl ⟨rfl, .inl HST.out⟩⟩
end Go.Proofs.Ytomildjihlbbmaa
