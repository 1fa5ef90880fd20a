/-
  Decoding what was encoded gives it back: the reference's way, over an index.
-/
import Derived.Test.YtomildjihlbbmaaUnp2
namespace Go.Proofs.Ytomildjihlbbmaa
open Go.RowKit Flt Num
set_option linter.unusedVariables false
def StepR (way : Nat) (b : List Int) (last : Int × Int) (at_ : Nat) (v : Nat × Nat) (last' : Int × Int) (at' : Nat) : Prop :=
  if way = 0 then v = (numR b at_ 8 0, numR b (at_ + 8) 8 0) ∧ at' = at_ + 16 ∧ last' = last
  else if way = 1 then Wid (numR b at_ 4 0) v.1 ∧ Wid (numR b (at_ + 4) 4 0) v.2 ∧ at' = at_ + 8 ∧ last' = last
  else last' = (last.1 + unzig (grpR b 6 0 0 at_).1, last.2 + unzig (grpR b 6 0 0 (grpR b 6 0 0 at_).2).1) ∧ v = (i2f last'.1, i2f last'.2) ∧ at' = (grpR b 6 0 0 (grpR b 6 0 0 at_).2).2
inductive DecR (way : Nat) (b : List Int) (at0 : Nat) : List (Nat × Nat) → Int × Int → Nat → Prop
  | nil : DecR way b at0 [] (0, 0) at0
  | snoc {L v last last' a a'} : DecR way b at0 L last a → StepR way b last a v last' a' → DecR way b at0 (L ++ [v]) last' a'
theorem num_back (pre : List Int) (n v : Nat) (post : List Int) (h : v < 256 ^ n) : numR (pre ++ be n v ++ post) pre.length n 0 = v := by
  have := numR_from pre (be n v) post 0
  rw [be_length] at this
  rw [this, fromB_be0 n v h]
theorem grp_back {a c : Int} (ha : -most ≤ a ∧ a ≤ most) (hc : -most ≤ c ∧ c ≤ most) (pre post : List Int) : grpR (pre ++ vari 6 (zig (a - c)) ++ post) 6 0 0 pre.length = (zig (a - c), (pre ++ vari 6 (zig (a - c))).length) := by
  have hz := zig40 ha hc
  rw [vari_fuel 6 5 _ hz (by decide), grpR_vari 5 0 0 _ pre post hz]; simp
theorem step_backR {way : Nat} {last : Int × Int} {v : Nat × Nat} {p : List Int × (Int × Int)} (h : encCell way last v = some p) (hv : v.1 < 2 ^ 64 ∧ v.2 < 2 ^ 64) (hl : (-most ≤ last.1 ∧ last.1 ≤ most) ∧ -most ≤ last.2 ∧ last.2 ≤ most)
    {pre post : List Int} {v2 : Nat × Nat} {last2 : Int × Int} {at2 : Nat} (hs : StepR way (pre ++ p.1 ++ post) last pre.length v2 last2 at2) : v2 = v ∧ last2 = p.2 ∧ at2 = (pre ++ p.1).length ∧ (-most ≤ p.2.1 ∧ p.2.1 ≤ most) ∧ -most ≤ p.2.2 ∧ p.2.2 ≤ most := by
  unfold encCell at h
  unfold StepR at hs
  by_cases h0 : way = 0
  · rw [if_pos h0] at h hs
    injection h with h
    subst h
    dsimp only at hs ⊢
    have e1 := num_back pre 8 v.1 (be 8 v.2 ++ post) (by omega)
    have e2 := num_back (pre ++ be 8 v.1) 8 v.2 post (by omega)
    rw [show pre ++ be 8 v.1 ++ (be 8 v.2 ++ post) = pre ++ (be 8 v.1 ++ be 8 v.2) ++ post from by simp] at e1
    rw [show pre ++ be 8 v.1 ++ be 8 v.2 ++ post = pre ++ (be 8 v.1 ++ be 8 v.2) ++ post from by simp, List.length_append, be_length] at e2
    rw [e1, e2] at hs
    exact ⟨hs.1, hs.2.2, by rw [hs.2.1]; simp [be_length], hl⟩
  · rw [if_neg h0] at h hs
    by_cases h1 : way = 1
    · rw [if_pos h1] at h hs
      split at h
      · rename_i hn
        injection h with h
        subst h
        unfold narrowB at hn
        rw [Bool.and_eq_true, Option.isSome_iff_exists, Option.isSome_iff_exists] at hn
        obtain ⟨⟨c, hc⟩, d, hd⟩ := hn
        dsimp only at hs ⊢
        rw [hc, hd] at hs ⊢
        dsimp only [Option.getD] at hs ⊢
        have e1 := num_back pre 4 c (be 4 d ++ post) (by have := narrow_lt hc; omega)
        have e2 := num_back (pre ++ be 4 c) 4 d post (by have := narrow_lt hd; omega)
        rw [show pre ++ be 4 c ++ (be 4 d ++ post) = pre ++ (be 4 c ++ be 4 d) ++ post from by simp] at e1
        rw [show pre ++ be 4 c ++ be 4 d ++ post = pre ++ (be 4 c ++ be 4 d) ++ post from by simp, List.length_append, be_length] at e2
        rw [e1, e2] at hs
        obtain ⟨hw1, hw2, h3, h4⟩ := hs
        exact ⟨Prod.ext (narrow_back hv.1 hc hw1) (narrow_back hv.2 hd hw2), h4, by rw [h3]; simp [be_length], hl⟩
      · cases h
    · rw [if_neg h1] at h hs
      split at h
      · rename_i hw
        injection h with h
        subst h
        obtain ⟨⟨_, a1, a2⟩, _, b1, b2⟩ := wholeC_parts hv.1 hv.2 hw
        unfold wholeC at hw
        rw [Bool.and_eq_true] at hw
        dsimp only at hs ⊢
        have e1 := grp_back (a := fInt v.1) (c := last.1) ⟨a1, a2⟩ hl.1 pre (vari 6 (zig (fInt v.2 - last.2)) ++ post)
        have e2 := grp_back (a := fInt v.2) (c := last.2) ⟨b1, b2⟩ hl.2 (pre ++ vari 6 (zig (fInt v.1 - last.1))) post
        rw [show pre ++ vari 6 (zig (fInt v.1 - last.1)) ++ (vari 6 (zig (fInt v.2 - last.2)) ++ post) = pre ++ (vari 6 (zig (fInt v.1 - last.1)) ++ vari 6 (zig (fInt v.2 - last.2))) ++ post from by simp] at e1
        rw [show pre ++ vari 6 (zig (fInt v.1 - last.1)) ++ vari 6 (zig (fInt v.2 - last.2)) ++ post = pre ++ (vari 6 (zig (fInt v.1 - last.1)) ++ vari 6 (zig (fInt v.2 - last.2))) ++ post from by simp] at e2
        rw [e1] at hs
        dsimp only at hs
        rw [e2] at hs
        dsimp only at hs
        rw [unzig_zig, unzig_zig] at hs
        obtain ⟨h3, h4, h5⟩ := hs
        have f1 : last.1 + (fInt v.1 - last.1) = fInt v.1 := by omega
        have f2 : last.2 + (fInt v.2 - last.2) = fInt v.2 := by omega
        rw [f1, f2] at h3
        subst h3
        refine ⟨?_, rfl, by rw [h5, List.append_assoc], ⟨a1, a2⟩, b1, b2⟩
        rw [h4]
        exact Prod.ext (i2f_whole hv.1 hw.1) (i2f_whole hv.2 hw.2)
      · cases h
theorem decR_pre {way : Nat} {l : List (Nat × Nat)} (hw : Words l) {hd rest : List Int} (he : encL way (0, 0) l [] = some rest) {L : List (Nat × Nat)} {last : Int × Int} {at_ : Nat} (h : DecR way (hd ++ rest) hd.length L last at_) :
    L.length ≤ l.length → L = l.take L.length ∧ (∃ m t, hd ++ rest = m ++ t ∧ at_ = m.length ∧ encL way last (l.drop L.length) [] = some t) ∧ (-most ≤ last.1 ∧ last.1 ≤ most) ∧ -most ≤ last.2 ∧ last.2 ≤ most := by
  induction h with
  | nil => exact fun _ => ⟨by simp, ⟨hd, rest, rfl, rfl, by simpa using he⟩, by decide, by decide⟩
  | @snoc L v last last' a a' hd' hs ih =>
    intro hle
    rw [List.length_append, List.length_singleton] at hle
    obtain ⟨h1, ⟨m, t, hm, ha, h3⟩, h4⟩ := ih (by omega)
    rw [drop_at (by omega : L.length < l.length), encL] at h3
    obtain ⟨p, hp, h3⟩ := Option.bind_eq_some_iff.1 h3
    rw [List.nil_append, show p.1 = p.1 ++ [] from (List.append_nil _).symm, encL_app] at h3
    obtain ⟨t', ht, h5⟩ := Option.map_eq_some_iff.1 h3
    subst h5
    rw [hm, ha, show m ++ (p.1 ++ t') = m ++ p.1 ++ t' from by simp] at hs
    obtain ⟨k1, k2, k3, k4⟩ := step_backR hp (words_at hw (by omega)) h4 hs
    rw [List.length_append, List.length_singleton, k2]
    refine ⟨?_, ⟨m ++ p.1, t', by rw [hm]; simp, k3, ht⟩, k4⟩
    rw [k1]
    conv => lhs; rw [h1]
    rw [List.take_add_one]
    have : l[L.length]? = some (l.getD L.length (0, 0)) := by
      rw [List.getElem?_eq_getElem (by omega)]; simp [List.getD, (by omega : L.length < l.length)]
    rw [this, List.length_take, Nat.min_eq_left (by omega)]
    rfl
theorem decR_back {way : Nat} {N : Int} {l : List (Nat × Nat)} (hw : Words l) {rest : List Int} (he : encW way N l = some ([(way : Int), N] ++ rest)) {L : List (Nat × Nat)} {last : Int × Int} {at_ : Nat} (h : DecR way ([(way : Int), N] ++ rest) 2 L last at_) (hl : L.length = l.length) : L = l := by
  unfold encW at he
  rw [show [(way : Int), N] = [(way : Int), N] ++ [] from (List.append_nil _).symm, encL_app] at he
  obtain ⟨t, ht, h5⟩ := Option.map_eq_some_iff.1 he
  rw [List.append_nil] at h5
  have h6 : t = rest := List.append_cancel_left h5
  subst h6
  obtain ⟨h1, _⟩ := decR_pre (hd := [(way : Int), N]) hw ht h (by omega)
  rwa [hl, List.take_length] at h1
end Go.Proofs.Ytomildjihlbbmaa

/-
  The reference's Unpack: bytes that are refused at once.
-/
namespace Go.Proofs.Ytomildjihlbbmaa
open Go.RowKit Flt Num Go.Proofs.YtomildjihlbbmaaW.PrintWords Go.Proofs.YtomildjihlbbmaaW.PrintLast Go.Proofs.YtomildjihlbbmaaW.PrintMore Go.Proofs.Ytomildjihlbbmaa.PPackUnpacks
set_option linter.unusedVariables false
attribute [local go_sem] run_f64bits run_f64from run_f32bits run_f32from
set_option maxHeartbeats 1000000 in
set_option maxRecDepth 100000 in
theorem runpackS_any (A : Option Addr) (c : Nat) (b : List Int) (w : World) (hl : b.length < 2) :
    Calls Try.prog 7 #[.slice A b.length c] w fun e w' => UnpBad w e w' := by
  have hl' : (b.length : Int) < 2 := by omega
  have HX1 := Lib.hid (show (w.alloc (.cells #[.int .i64 0, .slice none 0 0] 26)).heap[w.heap.size]? = some (.cells #[.int .i64 0, .slice none 0 0] 26) from heap_alloc_new w _)
  have HB1 := Lib.hid (show Below w.heap.size w (w.alloc (.cells #[.int .i64 0, .slice none 0 0] 26)) from below_alloc (Below.refl _ _) _)
  go_enter Try.func7, Try.ntmps7
  go_wp2_with (first | ((with_reducible refine gate_store (t := 26) (p := 2) rfl ?_); refine store_grid rfl rfl (.tmp 2) (.tmp 36) rfl (g := w.heap.size) ?hp (u := 0) (A := none) (n := 0) (c := 0) ?hv HX1.out ?_; (case hp => go_simp); (case hv => go_simp); intro w6 hh6 hk6 hb6; have HR6 := Lib.hid hh6; have HB6 := Lib.hid (HB1.out.trans (hb6.mono (Nat.le_refl _))); clear hh6 hk6 hb6))
  obtain ⟨r1, r2, -, -⟩ := two_cells HR6.out
  exact bodyPost_ret (v := .tuple #[.agg #[.int .i64 0, .slice none 0 0], .int .i64 210]) (by simp [results, Try.results7, go_sem, r1, r2]) rfl ⟨HB6.out, rfl⟩

set_option maxHeartbeats 2000000 in
set_option maxRecDepth 100000 in
theorem runpackH_any (A : Option Addr) (c : Nat) (b : List Int) (w : World) (hA : kb.C w A b.length b) (hc : b.length ≤ c) (q N : Nat) (hq : q < 256) (hN : N < 256) (hbad : 2 < q ∨ N < 1 ∨ 64 < N) (rest : List Int) (hbe : b = [(q : Int), (N : Int)] ++ rest) :
    Calls Try.prog 7 #[.slice A b.length c] w fun e w' => UnpBad w e w' := by
  have hlen : b.length = rest.length + 2 := by rw [hbe]; simp
  obtain ⟨ad, rfl, hc0⟩ := Kd.at_int hA 0 (by decide) (by omega)
  obtain ⟨_, e1, hc1⟩ := Kd.at_int hA 1 (by decide) (by omega)
  cases e1
  rw [hbe] at hc0 hc1
  have HBAD := Lib.hid hbad
  have H0 := Lib.hid (show w.cell? ad = some (.int .u8 (q : Int)) by simpa [Addr.add, rd] using hc0)
  have H1 := Lib.hid (show w.cell? ⟨ad.block, ad.off + 1, none⟩ = some (.int .u8 (N : Int)) by simpa [Addr.add, rd] using hc1)
  have y0 : ∀ o, (w.alloc o).cell? ad = some (.int .u8 (q : Int)) := fun o => pw_cell_below (below_alloc (Below.refl _ _) o) H0.out
  have y1 : ∀ o, (w.alloc o).cell? ⟨ad.block, ad.off + 1, none⟩ = some (.int .u8 (N : Int)) := fun o => pw_cell_below (below_alloc (Below.refl _ _) o) H1.out
  have hl' : ¬ (b.length : Int) < 2 := by omega
  have hl1 : (1 : Int) < (b.length : Int) := by omega
  have hl0 : (0 : Int) < (b.length : Int) := by omega
  clear hA hc hbe hbad hlen hc0 hc1
  have HX1 := Lib.hid (show (w.alloc (.cells #[.int .i64 0, .slice none 0 0] 26)).heap[w.heap.size]? = some (.cells #[.int .i64 0, .slice none 0 0] 26) from heap_alloc_new w _)
  have HB1 := Lib.hid (show Below w.heap.size w (w.alloc (.cells #[.int .i64 0, .slice none 0 0] 26)) from below_alloc (Below.refl _ _) _)
  by_cases h1 : 2 < q
  · have h1' : (2 : Int) < (q : Int) := by omega
    go_enter Try.func7, Try.ntmps7
    go_wp2_with (first | ((with_reducible refine gate_store (t := 26) (p := 2) rfl ?_); refine store_grid rfl rfl (.tmp 2) (.tmp 36) rfl (g := w.heap.size) ?hp (u := 0) (A := none) (n := 0) (c := 0) ?hv HX1.out ?_; (case hp => go_simp); (case hv => go_simp); intro w6 hh6 hk6 hb6; have HR6 := Lib.hid hh6; have HB6 := Lib.hid (HB1.out.trans (hb6.mono (Nat.le_refl _))); clear hh6 hk6 hb6))
    obtain ⟨r1, r2, -, -⟩ := two_cells HR6.out
    exact bodyPost_ret (v := .tuple #[.agg #[.int .i64 0, .slice none 0 0], .int .i64 210]) (by simp [results, Try.results7, go_sem, r1, r2]) rfl ⟨HB6.out, rfl⟩
  · have h1' : ¬ (2 : Int) < (q : Int) := by omega
    by_cases h2 : N < 1
    · have h2' : (N : Int) < 1 := by omega
      go_enter Try.func7, Try.ntmps7
      go_wp2_with (first | ((with_reducible refine gate_store (t := 26) (p := 2) rfl ?_); refine store_grid rfl rfl (.tmp 2) (.tmp 36) rfl (g := w.heap.size) ?hp (u := 0) (A := none) (n := 0) (c := 0) ?hv HX1.out ?_; (case hp => go_simp); (case hv => go_simp); intro w6 hh6 hk6 hb6; have HR6 := Lib.hid hh6; have HB6 := Lib.hid (HB1.out.trans (hb6.mono (Nat.le_refl _))); clear hh6 hk6 hb6))
      obtain ⟨r1, r2, -, -⟩ := two_cells HR6.out
      exact bodyPost_ret (v := .tuple #[.agg #[.int .i64 0, .slice none 0 0], .int .i64 210]) (by simp [results, Try.results7, go_sem, r1, r2]) rfl ⟨HB6.out, rfl⟩
    · have h2' : ¬ (N : Int) < 1 := by omega
      have h3' : (64 : Int) < (N : Int) := by have := HBAD.out; omega
      go_enter Try.func7, Try.ntmps7
      go_wp2_with (first | ((with_reducible refine gate_store (t := 26) (p := 2) rfl ?_); refine store_grid rfl rfl (.tmp 2) (.tmp 36) rfl (g := w.heap.size) ?hp (u := 0) (A := none) (n := 0) (c := 0) ?hv HX1.out ?_; (case hp => go_simp); (case hv => go_simp); intro w6 hh6 hk6 hb6; have HR6 := Lib.hid hh6; have HB6 := Lib.hid (HB1.out.trans (hb6.mono (Nat.le_refl _))); clear hh6 hk6 hb6))
      obtain ⟨r1, r2, -, -⟩ := two_cells HR6.out
      exact bodyPost_ret (v := .tuple #[.agg #[.int .i64 0, .slice none 0 0], .int .i64 210]) (by simp [results, Try.results7, go_sem, r1, r2]) rfl ⟨HB6.out, rfl⟩
end Go.Proofs.Ytomildjihlbbmaa

/-
  The reference's Unpack: the near way.
-/
namespace Go.Proofs.Ytomildjihlbbmaa
open Go.RowKit Flt Num Go.Proofs.YtomildjihlbbmaaW.PrintWords Go.Proofs.YtomildjihlbbmaaW.PrintLast Go.Proofs.YtomildjihlbbmaaW.PrintMore Go.Proofs.Ytomildjihlbbmaa.PPackUnpacks
set_option linter.unusedVariables false
attribute [local go_sem] run_f64bits run_f64from run_f32bits run_f32from
/-- the blocks that the cells' row is none of -/
def OkG (H : Nat) (k : Nat) : Prop := k ≠ H ∧ k ≠ H + 1
structure LoopG (way H N : Nat) (b : List Int) (w wr : World) (i : Nat) (L : List (Nat × Nat)) (last : Int × Int) (at_ : Nat) (v : Value) : Prop where
  below : Below H w wr
  len : L.length = i
  words : Words L
  dec : DecR way b 2 L last at_
  res : wr.heap[H]? = some (.cells #[.int .i64 0, .slice none 0 0] 26)
  f : wr.heap[H + 1]? = some (.cells #[.int .i64 N, v] 26)
  row : kc.R 42 wr H (OkG H) v L
/-- what the reference's Unpack leaves -/
def RunOut (way N : Nat) (b : List Int) (w : World) (e : Ending) (w' : World) : Prop :=
  Below w.heap.size w w' ∧ ∃ L last at_, DecR way b 2 L last at_ ∧ L.length = N * N ∧ Words L ∧
    ((e = .returned (.tuple #[.agg #[.int .i64 0, .slice none 0 0], .int .i64 210]) ∧ shortL N L ≠ b) ∨
     (∃ A c, e = .returned (.tuple #[.agg #[.int .i64 N, .slice A L.length c], .int .i64 0]) ∧ kc.R 42 w' w.heap.size (fun _ => True) (.slice A L.length c) L ∧ shortL N L = b))
theorem LoopG.next {way H N : Nat} {b : List Int} {w w7 w8 : World} {i : Nat} {L : List (Nat × Nat)} {last last' : Int × Int} {at_ at' : Nat} {v v' : Value} {x : Nat × Nat}
    (h : LoopG way H N b w w7 i L last at_ v) (hb : Below H w w8) (hf : w8.heap[H + 1]? = some (.cells #[.int .i64 N, v] 26))
    (hk8 : Kept w7 w8 (fun k => OkG H k ∧ H ≤ k)) (hr : kc.R 42 w8 H (OkG H) v' (L ++ [x])) (hw : x.1 < 2 ^ 64 ∧ x.2 < 2 ^ 64) (hs : StepR way b last at_ x last' at') :
    LoopG way H N b w (w8.setCell ⟨H + 1, 1, none⟩ v') (i + 1) (L ++ [x]) last' at' v' := by
  have hks : Kept w8 (w8.setCell ⟨H + 1, 1, none⟩ v') (fun k => k = H + 1) := Kept.setCell (S := fun k => k = H + 1) (p := ⟨H + 1, 1, none⟩) (Kept.refl w8 _) (.inl rfl) _
  exact
    { below := hb.setCell (show H ≤ H + 1 by omega) _
      len := by rw [List.length_append, h.len]; rfl
      words := fun y hy => by
        rcases List.mem_append.1 hy with hy | hy
        · exact h.words y hy
        · rw [List.mem_singleton.1 hy]; exact hw
      dec := .snoc h.dec hs
      res := blk_kept (blk_kept h.res hk8 (fun h => h.1.1 rfl)) hks (by show ¬ (H = H + 1); omega)
      f := by rw [setCell_eq_setRow w8 (H + 1) 1 _ 26 (0, 0) _ hf, setRow_heap w8 (H + 1) _ _ 26 (0, 0) hf]; rfl
      row := Kd.R_far hr (p := ⟨H + 1, 1, none⟩) (fun k ho => ho.2) _ }
theorem LoopG.drew {way H N : Nat} {b : List Int} {w wr : World} {i : Nat} {L : List (Nat × Nat)} {last : Int × Int} {at_ : Nat} {v : Value} (h : LoopG way H N b w wr i L last at_ v) (n : Nat) : LoopG way H N b w (wr.drewN n) i L last at_ v :=
  { below := below_drewN h.below n, len := h.len, words := h.words, dec := h.dec, res := h.res, f := h.f, row := Kd.R_drewN h.row n }
theorem group_any (A : Option Addr) (c : Nat) (b : List Int) (i : Nat) (w : World) (hC : kb.C w A b.length b) (hc : b.length ≤ c) (hb : Bytes b) (hi : i < 2 ^ 40) :
    Calls Try.prog 27 #[.slice A b.length c, .int .i64 i] w fun e w' => e = .returned (.tuple #[.int .i64 (unzig (grpR b 6 0 0 i).1), .int .i64 ((grpR b 6 0 0 i).2 : Int)]) ∧ Drawn0 w w' :=
  penumbraref21_group.calls 14 A c b i _ _ w hC hc (group_f b hb i hi)
theorem number_any (A : Option Addr) (c : Nat) (b : List Int) (i n : Nat) (w : World) (hC : kb.C w A b.length b) (hc : b.length ≤ c) (hb : Bytes b) (hi : i < 2 ^ 40) (hn : n ≤ 8) :
    Calls Try.prog 26 #[.slice A b.length c, .int .i64 i, .int .i64 n] w fun e w' => e = .returned (.int .u64 (numR b i n 0 : Nat)) ∧ Drawn0 w w' :=
  penumbraref21_number.calls (n + 1) A c b i n _ w hC hc (number_f b hb i n hi hn)
theorem grpR_le (b : List Int) : ∀ (j k v i : Nat), (grpR b j k v i).2 ≤ i + j
  | 0, k, v, i => Nat.le_refl _
  | j + 1, k, v, i => by
    rw [grpR]
    split
    · split
      · show i + 1 ≤ i + (j + 1); omega
      · have := grpR_le b j (k + 1) (v + (b.getD i 0).toNat % 128 * 2 ^ (7 * k)) (i + 1); omega
    · show i ≤ i + (j + 1); omega
theorem grpR_bound (b : List Int) : ∀ (j k v i : Nat), v < 2 ^ (7 * k) → (grpR b j k v i).1 < 2 ^ (7 * (k + j))
  | 0, k, v, i, h => h
  | j + 1, k, v, i, h => by
    have hs : v + (b.getD i 0).toNat % 128 * 2 ^ (7 * k) < 2 ^ (7 * (k + 1)) := by
      rw [pow7]
      have : (b.getD i 0).toNat % 128 ≤ 127 := by omega
      have := Nat.mul_le_mul_right (2 ^ (7 * k)) this
      omega
    rw [grpR]
    split
    · split
      · exact Nat.lt_of_lt_of_le hs (Nat.pow_le_pow_right (by omega) (by omega))
      · have := grpR_bound b j (k + 1) _ (i + 1) hs
        rwa [show k + 1 + j = k + (j + 1) from by omega] at this
    · exact Nat.lt_of_lt_of_le h (Nat.pow_le_pow_right (by omega) (by omega))
end Go.Proofs.Ytomildjihlbbmaa

/-
  The reference's Unpack: the near way.
-/
namespace Go.Proofs.Ytomildjihlbbmaa
open Go.RowKit Flt Num Go.Proofs.YtomildjihlbbmaaW.PrintWords Go.Proofs.YtomildjihlbbmaaW.PrintLast Go.Proofs.YtomildjihlbbmaaW.PrintMore Go.Proofs.Ytomildjihlbbmaa.PPackUnpacks
set_option linter.unusedVariables false
attribute [local go_sem] run_f64bits run_f64from run_f32bits run_f32from
theorem und3s : (Try.prog.underlying 3).isSome = true := by kernel_rfl
theorem run_i2f3 (n : Int) (w : World) : (convert 3 48 (.int .i64 n)).run Try.prog w = .ok (.float .f64 (i2f n)) w := run_convert_int_float w 3 48 .i64 .f64 n und3s und48c
theorem rowg_ne {W : World} {H : Nat} {A : Option Addr} {n c : Nat} {L : List (Nat × Nat)} (h : kc.R 42 W H (OkG H) (.slice A n c) L) {ad : Addr} (e : A = some ad) (hp : 0 < n) (hk : ad.block = H) : False := by
  have hn := (Kd.R_reads' h).1
  obtain ⟨g, cap, hv, -⟩ := Kd.R_form h (by omega)
  have h2 := (h.1 g (by rw [hv]; simp [Value.ownBlock])).1
  injection hv with ha
  rw [e] at ha
  injection ha with ha
  rw [ha] at hk
  exact h2 hk
set_option maxHeartbeats 4000000 in
set_option maxRecDepth 100000 in
theorem runpack2_any (A : Option Addr) (c : Nat) (b : List Int) (w : World) (hA : kb.C w A b.length b) (hc : b.length ≤ c) (hb : Bytes b) (N : Nat) (hN : 1 ≤ N ∧ N ≤ 64) (rest : List Int) (hbe : b = [2, (N : Int)] ++ rest) :
    Calls Try.prog 7 #[.slice A b.length c] w fun e w' => RunOut 2 N b w e w' := by
  have hlen : b.length = rest.length + 2 := by rw [hbe]; simp
  have HA := Lib.hid hA
  have HC := Lib.hid hc
  have HBY := Lib.hid hb
  obtain ⟨ad, rfl, hc0⟩ := Kd.at_int hA 0 (by decide) (by omega)
  obtain ⟨_, e1, hc1⟩ := Kd.at_int hA 1 (by decide) (by omega)
  cases e1
  rw [hbe] at hc0 hc1
  have H0 := Lib.hid (show w.cell? ad = some (.int .u8 2) by simpa [Addr.add, rd] using hc0)
  have H1 := Lib.hid (show w.cell? ⟨ad.block, ad.off + 1, none⟩ = some (.int .u8 (N : Int)) by simpa [Addr.add, rd] using hc1)
  have y0 : ∀ o, (w.alloc o).cell? ad = some (.int .u8 2) := fun o => pw_cell_below (below_alloc (Below.refl _ _) o) H0.out
  have y1 : ∀ o, (w.alloc o).cell? ⟨ad.block, ad.off + 1, none⟩ = some (.int .u8 (N : Int)) := fun o => pw_cell_below (below_alloc (Below.refl _ _) o) H1.out
  have hl' : ¬ (b.length : Int) < 2 := by omega
  have hl1 : (1 : Int) < (b.length : Int) := by omega
  have hl0 : (0 : Int) < (b.length : Int) := by omega
  have hN1 : (N : Int) < 256 := by omega
  have hN2 : ¬ (N : Int) < 1 := by omega
  have hN3 : ¬ (64 : Int) < (N : Int) := by omega
  have hNle : N * N ≤ 4096 := Nat.mul_le_mul hN.2 hN.2
  obtain ⟨M, hM⟩ : ∃ M : Nat, N * N = M := ⟨_, rfl⟩
  have HM := Lib.hid hM
  have hMle : M ≤ 4096 := hM ▸ hNle
  have HNN := Lib.hid hMle
  have hNN : wrap64 ((N : Int) * (N : Int)) = (M : Int) := by
    rw [← hM]; exact wrap64_id (by have : N * N ≤ 4096 := hNle; omega) (by have : N * N ≤ 4096 := hNle; omega)
  clear hA hc hb hbe hlen hc0 hc1 hNle hM hMle
  go_enter Try.func7, Try.ntmps7
  go_wp2_with fail
  obtain ⟨w1, hw1⟩ : ∃ w1 : World, w1 = (w.alloc (.cells #[.int .i64 0, .slice none 0 0] 26)).alloc (.cells #[.int .i64 N, .slice none 0 0] 26) := ⟨_, rfl⟩
  rw [← hw1]
  have HL0 := Lib.hid (show LoopG 2 w.heap.size N b w w1 0 [] (0, 0) 2 (.slice none 0 0) from
    { below := by rw [hw1]; exact below_alloc (below_alloc (Below.refl _ _) _) _
      len := rfl
      words := fun x hx => by cases hx
      dec := .nil
      res := by rw [hw1]; exact heap_alloc2_old w _ _
      f := by rw [hw1]; exact heap_alloc2_new w _ _
      row := Kd.R_nil _ _ _ _ _ })
  clear hw1 y0 y1 hl' hl1
  go_loopg [5, 6, 7, 8] (M + 1) (fun gk v5 v6 v7 v8 wr => ∃ (i a : Nat) (L : List (Nat × Nat)) (v : Value) (x y : Int), v5 = .int .i64 (a : Int) ∧ v6 = .int .i64 x ∧ v7 = .int .i64 y ∧ v8 = .int .i64 (i : Int) ∧ Hid (i + gk = M + 1) ∧ Hid (i ≤ M) ∧ Hid (a ≤ 2 + 12 * i) ∧ Hid (LoopG 2 w.heap.size N b w wr i L (x, y) a v) ∧ Hid (-(i : Int) * 4398046511104 ≤ x ∧ x ≤ (i : Int) * 4398046511104 ∧ -(i : Int) * 4398046511104 ≤ y ∧ y ≤ (i : Int) * 4398046511104))
  case atStart => exact ⟨0, 2, [], .slice none 0 0, 0, 0, rfl, rfl, rfl, rfl, Lib.hid (by omega), Lib.hid (by omega), Lib.hid (by omega), HL0, Lib.hid (by decide)⟩
  case round =>
    obtain ⟨i, a, L, v, x, y, rfl, rfl, rfl, rfl, hg, hi, ha, hl, hbd⟩ := hrel
    clear HL0
    have hcell := pw_cell_below hl.out.below H0.out
    obtain ⟨f1, f2, f3, f4⟩ := two_cells hl.out.f
    obtain ⟨VA, vc, rfl⟩ := Kd.R_slice hl.out.row
    by_cases hlt : i < M
    · have hlt' : (i : Int) < (M : Int) := by omega
      go_wp2_with fail
      refine (group_any (some ad) c b a wr (Kd.C_below HA.out hl.out.below) HC.out HBY.out (by have := ha.out; have := HNN.out; omega)).mono ?_
      rintro e w2 ⟨rfl, ⟨n2, rfl⟩⟩
      have HU1 := unzig_bound (grpR_bound b 6 0 0 a (by decide))
      have HP1 := grpR_le b 6 0 0 a
      obtain ⟨d1, hd1⟩ : ∃ d1 : Int, d1 = unzig (grpR b 6 0 0 a).1 := ⟨_, rfl⟩
      obtain ⟨a1, ha1⟩ : ∃ a1 : Nat, a1 = (grpR b 6 0 0 a).2 := ⟨_, rfl⟩
      rw [← hd1] at HU1
      rw [← ha1] at HP1
      rw [← hd1, ← ha1]
      replace hd1 := Lib.hid hd1
      replace ha1 := Lib.hid ha1
      replace HU1 := Lib.hid HU1
      replace HP1 := Lib.hid HP1
      go_wp2_with fail
      refine (group_any (some ad) c b a1 (wr.drewN n2) (Kd.C_below HA.out (below_drewN hl.out.below n2)) HC.out HBY.out (by have := ha.out; have := HNN.out; have := HP1.out; omega)).mono ?_
      rintro e w3 ⟨rfl, ⟨n3, rfl⟩⟩
      have HU2 := unzig_bound (grpR_bound b 6 0 0 a1 (by decide))
      have HP2 := grpR_le b 6 0 0 a1
      obtain ⟨d2, hd2⟩ : ∃ d2 : Int, d2 = unzig (grpR b 6 0 0 a1).1 := ⟨_, rfl⟩
      obtain ⟨a2, ha2⟩ : ∃ a2 : Nat, a2 = (grpR b 6 0 0 a1).2 := ⟨_, rfl⟩
      rw [← hd2] at HU2
      rw [← ha2] at HP2
      rw [← hd2, ← ha2]
      replace hd2 := Lib.hid hd2
      replace ha2 := Lib.hid ha2
      replace HU2 := Lib.hid HU2
      replace HP2 := Lib.hid HP2
      have hbx := hbd.out
      have hin := HNN.out
      have HLL := Lib.hid (show (L.length + 1) * 16 ≤ 140737488355328 by have := hl.out.len; omega)
      have hi1 : wrap64 ((i : Int) + 1) = ((i + 1 : Nat) : Int) := wrap64_id (by omega) (by omega)
      have hs1 : wrap64 (x + d1) = x + d1 := wrap64_id (by have := HU1.out; omega) (by have := HU1.out; omega)
      have hs2 : wrap64 (y + d2) = y + d2 := wrap64_id (by have := HU2.out; omega) (by have := HU2.out; omega)
      have hc1 := fun ww => run_i2f3 (x + d1) ww
      have hc2 := fun ww => run_i2f3 (y + d2) ww
      have HZ := Lib.hid (hl.out.drew (n2 + n3))
      have HSZ := Lib.hid (show w.heap.size + 1 < (wr.drewN (n2 + n3)).heap.size from blk_lt HZ.out.f)
      have HS1 := Lib.hid hs1
      have HS2 := Lib.hid hs2
      clear hbx hin hcell
      go_upto_region 14 with (fail)
      go_wp2_with (first | ((with_reducible refine gate_builtin (b := .append) (xs := #[.tmp 73, .tmp 79]) rfl ?_); at_builtin; refine Kd.R_append kc (w0 := w) w.heap.size rfl (.tmp 73) (.tmp 79) 24 42 (.complex .f64 0 0) 16 rfl und24 info42 rfl (by decide) (by omega) (.slice VA L.length vc) L (i2f (x + d1), i2f (y + d2)) [.complex .f64 (i2f (x + d1)) (i2f (y + d2))] (OkG w.heap.size) (fun _ => False) ?hs ?hx ?aP (fun _ hk => hk.elim) ?aF ?aO ?aB ?aS ?aL ?_; (case hs => go_simp); (case hx => go_simp); (case aP => exact rfl); (case aF => exact (fun k hk => ⟨by have := HSZ.out; omega, by have := HSZ.out; omega⟩)); (case aO => exact HZ.out.row); (case aB => exact HZ.out.below); (case aS => exact HZ.out.below.size); (case aL => exact HLL.out); intro v1 w8 ho hbb hgr hat; have hk8 := grown_kept HZ.out.row hgr; have HF8 := Lib.hid (blk_kept HZ.out.f hk8 (fun h => h.1.2 rfl)); have HK8 := Lib.hid hk8; have HO8 := Lib.hid ho; have HB8 := Lib.hid hbb; obtain ⟨VB, vd, rfl⟩ := Kd.R_slice ho; obtain ⟨t1, t2, t3, t4⟩ := two_cells HF8.out; clear ho hbb hgr hat hk8 hc1 hc2 hs1 hs2 f1 f2 f3 f4))
      go_roundg (gk - 1)
      case measure => have := hg.out; omega
      case rel =>
        refine ⟨i + 1, a2, L ++ [(i2f (x + d1), i2f (y + d2))], .slice VB (L.length + 1) vd, x + d1, y + d2, rfl, by rw [HS1.out], by rw [HS2.out], by rw [hi1], Lib.hid (by have := hg.out; omega), Lib.hid (by omega), Lib.hid (by have := ha.out; have := HP1.out; have := HP2.out; omega), Lib.hid ?_, Lib.hid ?_⟩
        · have hnext := HZ.out.next HB8.out HF8.out HK8.out HO8.out ⟨i2f_lt _, i2f_lt _⟩ (by unfold StepR; rw [if_neg (by decide), if_neg (by decide), ← ha1.out, ← hd1.out, ← hd2.out, ← ha2.out]; exact ⟨rfl, rfl, rfl⟩)
          rwa [show (L ++ [(i2f (x + d1), i2f (y + d2))]).length = L.length + 1 from by simp] at hnext
        · have h1 := hbd.out; have h2 := HU1.out; have h3 := HU2.out
          refine ⟨?_, ?_, ?_, ?_⟩ <;> rw [Int.natCast_add] <;> omega
    · have hlt' : ¬ (i : Int) < (M : Int) := by omega
      have HLN := Lib.hid (show L.length = N * N by rw [hl.out.len, HM.out]; have := hi.out; omega)
      have HRC := Lib.hid (Kd.R_reads' hl.out.row).2.2
      go_wp2_with (first | ((with_reducible refine gate_dst (N := 126) rfl ?_); refine load_grid rfl (.tmp 4) rfl (g := w.heap.size + 1) ?hx (u := .int .i64 N) (v := .slice VA L.length vc) hl.out.f ?_; (case hx => go_simp)))
      refine (rshortest_any (N : Int) (by omega) VA vc L wr HRC.out hl.out.words (by rw [HLN.out, HM.out]; exact HNN.out)).mono ?_
      rintro e w6 ⟨sv, kk, rfl, hb6, hr6⟩
      obtain ⟨SA, sc, rfl, hsle, hSC⟩ := Kd.R_reads hr6
      have HB6 := Lib.hid (hl.out.below.trans (hb6.mono hl.out.below.size))
      have HX6 := Lib.hid ((hb6.block _ (blk_lt hl.out.res)).trans hl.out.res)
      have HF6 := Lib.hid ((hb6.block _ (blk_lt hl.out.f)).trans hl.out.f)
      have HR6 := Lib.hid (Kd.R_below hl.out.row hb6)
      have hcv3 := Kd.C_string (P := Try.prog) (A := SA) (c := sc) Try.underlying22 Try.underlying5 Try.underlying9 hSC
      have hcv4 := Kd.C_string (P := Try.prog) (A := some ad) (c := c) Try.underlying22 Try.underlying5 Try.underlying9 (Kd.C_below HA.out HB6.out)
      have hse := str_eq (shortL_bytes (N := (N : Int)) (by omega) L) HBY.out
      clear hb6 hr6 hsle hcell f1 f2 f3 f4 hSC
      by_cases heq : shortL N L = b
      · have hdec : ((strOfNums (shortL N L)).toList == (strOfNums b).toList) = true := by rw [hse]; exact decide_eq_true heq
        have hdec2 : ((strOfNums (shortL N L)).toList != (strOfNums b).toList) = false := by rw [bne, hdec]; rfl
        have HEQ := Lib.hid heq
        clear heq hse
        go_wp2_with (first
          | ((with_reducible refine gate_dst (N := 136) rfl ?_); refine load_grid rfl (.tmp 4) rfl (g := w.heap.size + 1) ?hx (u := .int .i64 N) (v := .slice VA L.length vc) HF6.out ?_; (case hx => go_simp))
          | ((with_reducible refine gate_store (t := 26) (p := 2) rfl ?_); refine store_grid rfl rfl (.tmp 2) (.tmp 136) rfl (g := w.heap.size) ?hp (u := (N : Int)) (A := VA) (n := L.length) (c := vc) ?hv HX6.out ?_; (case hp => go_simp); (case hv => go_simp); intro w8 hh8 hk8 hb8; have HR8 := Lib.hid hh8; have HK8 := Lib.hid hk8; have HB8 := Lib.hid (HB6.out.trans (hb8.mono (Nat.le_refl _))); clear hh8 hk8 hb8))
        obtain ⟨r1, r2, -, -⟩ := two_cells HR8.out
        refine bodyPost_ret (v := .tuple #[.agg #[.int .i64 N, .slice VA L.length vc], .int .i64 0]) (by simp [results, Try.results7, go_sem, r1, r2]) rfl ⟨HB8.out, L, (x, y), a, hl.out.dec, HLN.out, hl.out.words, .inr ⟨VA, vc, rfl, ?_, HEQ.out⟩⟩
        exact Kd.R_mono (Kd.R_kept HR6.out HK8.out (fun k ho he => ho.1 he)) (fun _ _ => trivial)
      · have hdec : ((strOfNums (shortL N L)).toList == (strOfNums b).toList) = false := by rw [hse]; exact decide_eq_false heq
        have hdec2 : ((strOfNums (shortL N L)).toList != (strOfNums b).toList) = true := by rw [bne, hdec]; rfl
        have HEQ := Lib.hid heq
        clear heq hse
        go_wp2_with (first | ((with_reducible refine gate_store (t := 26) (p := 2) rfl ?_); refine store_grid rfl rfl (.tmp 2) (.tmp 135) rfl (g := w.heap.size) ?hp (u := 0) (A := none) (n := 0) (c := 0) ?hv HX6.out ?_; (case hp => go_simp); (case hv => go_simp); intro w8 hh8 hk8 hb8; have HR8 := Lib.hid hh8; have HB8 := Lib.hid (HB6.out.trans (hb8.mono (Nat.le_refl _))); clear hh8 hk8 hb8))
        obtain ⟨r1, r2, -, -⟩ := two_cells HR8.out
        exact bodyPost_ret (v := .tuple #[.agg #[.int .i64 0, .slice none 0 0], .int .i64 210]) (by simp [results, Try.results7, go_sem, r1, r2]) rfl ⟨HB8.out, L, (x, y), a, hl.out.dec, HLN.out, hl.out.words, .inl ⟨rfl, HEQ.out⟩⟩
end Go.Proofs.Ytomildjihlbbmaa
