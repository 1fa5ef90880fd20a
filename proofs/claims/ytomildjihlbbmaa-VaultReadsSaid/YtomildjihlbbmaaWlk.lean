/-
  The walk over a file's records, twice by text: told is Slices' closure, and Cut's.
-/
import Derived.Test.YtomildjihlbbmaaCat
namespace Go.Proofs.Ytomildjihlbbmaa
open Go.RowKit Flt Num Go.Proofs.YtomildjihlbbmaaW.PrintWords Go.Proofs.YtomildjihlbbmaaW.PrintLast Go.Proofs.YtomildjihlbbmaaW.PrintMore Go.Proofs.Ytomildjihlbbmaa.PVaultReads
set_option linter.unusedVariables false
set_option linter.unusedSimpArgs false
theorem kb_lt {w : World} {A : Option Addr} {n : Nat} {L : List Int} (h : kb.C w A n L) (ad : Addr) (e : A = some ad) (hp : 0 < n) : ad.block < w.heap.size := by
  have hr := Kd.reads_of_C (enc := Value.int .u8) (d := (0 : Int)) (h1 := fun _ => rfl) h
  obtain ⟨ad', e', hc⟩ := hr.2.2 hp
  rw [e] at e'
  injection e' with e'
  subst e'
  have := World.block_lt_of_cell? w _ (hc 0 hp)
  rwa [add_block] at this
theorem fok_le {N : Nat} {L : List (Nat × Nat)} (h : FOk (N, L)) : L.length ≤ 4096 := by
  have h1 := h.len
  have h2 := h.side.2
  have h1' : L.length = N * N := h1
  have h2' : N ≤ 64 := h2
  have := Nat.mul_le_mul h2' h2'
  omega
theorem TldS.kept {base p1 p2 p : Nat} {l : List Fld} {a : Nat} {w w' : World} {cells : Array Value} (h : TldS base p1 p2 l a w) (hp : w.heap[p]? = some (.cells cells 79 (0, 0))) (hk : Kept w w' (fun k => k = p)) : TldS base p1 p2 l a w' := by
  obtain ⟨⟨v, h1, hr⟩, h2⟩ := h
  exact ⟨⟨v, (hk.2 _ (blk_lt h1) (fun e => blk_types h1 hp (by decide) e)).trans h1, Kd.R_mono (Kd.R_step (Kd.R_types hr hp (by decide)) (fun k ho hlt => hk.2 k hlt (fun e => ho.2 e))) (fun _ hk => hk.1)⟩, (hk.2 _ (blk_lt h2) (fun e => blk_types h2 hp (by decide) e)).trans h2⟩
theorem TldC.kept {p1 p2 p : Nat} {l : List Fld} {a : Nat} {w w' : World} {cells : Array Value} (h : TldC p1 p2 l a w) (hp : w.heap[p]? = some (.cells cells 79 (0, 0))) (hk : Kept w w' (fun k => k = p)) : TldC p1 p2 l a w' :=
  ⟨(hk.2 _ (blk_lt h.one) (fun e => blk_types h.one hp (by decide) e)).trans h.one, (hk.2 _ (blk_lt h.two) (fun e => blk_types h.two hp (by decide) e)).trans h.two⟩
theorem Kpr.block {ah : Option Fld} {p : Nat} {w : World} (h : Kpr ah p w) : ∃ cells, w.heap[p]? = some (.cells cells 79 (0, 0)) := by
  cases ah with
  | none => exact ⟨_, h⟩
  | some g => obtain ⟨A, c, h1, -⟩ := h; exact ⟨_, h1⟩
set_option maxHeartbeats 16000000 in
set_option maxRecDepth 100000 in
theorem walkS_any (w0 : World) (p1 p2 : Nat) (hb1 : w0.heap.size ≤ p1) (hne : p1 < p2) (A : Option Addr) (c : Nat) (b : List Int) (hA : kb.C w0 A b.length b) (hc : b.length ≤ c) (hb : Bytes b) (w : World) (hbw : Below w0.heap.size w0 w) (hT : TldS w0.heap.size p1 p2 [] 0 w) :
    Calls Try.prog 32 #[.slice A b.length c, .func (.func 33) #[] #[.pointer (some ⟨p1, 0, none⟩), .pointer (some ⟨p2, 0, none⟩)]] w fun e w' => e = .returned (.tuple #[]) ∧ TldS w0.heap.size p1 p2 (cutAll b).1 (cutAll b).2 w' ∧ Below w0.heap.size w0 w' := by
  have HA := Lib.hid hA
  have HC := Lib.hid hc
  have HBY := Lib.hid hb
  have HMAX := Lib.hid (show b.length ≤ 9223372036854775807 from Kd.C_max hA)
  have HBW := Lib.hid hbw
  have HB1 := Lib.hid hb1
  have HNE := Lib.hid hne
  obtain ⟨wk, hwk⟩ : ∃ wk : World, wk = w.alloc (.cells #[.int .i64 0, .slice none 0 0, .bool false] 79) := ⟨_, rfl⟩
  have HBK := Lib.hid (show Below w.heap.size w wk by rw [hwk]; exact below_alloc (Below.refl _ _) _)
  have HKK := Lib.hid (show wk.heap[w.heap.size]? = some (.cells #[.int .i64 0, .slice none 0 0, .bool false] 79 (0, 0)) by rw [hwk]; exact heap_alloc_new w _)
  have HTK := Lib.hid (show TldS w0.heap.size p1 p2 [] 0 wk by obtain ⟨⟨v, h1, hr⟩, h2⟩ := hT; exact ⟨⟨v, blk_below h1 HBK.out, Kd.R_below hr HBK.out⟩, blk_below h2 HBK.out⟩)
  have HWK := Lib.hid hwk.symm
  clear hA hc hb hbw hb1 hne hT hwk
  have hmf : ∀ (fn : Fn) (first cap : Array Value) (w : World), (Instr.makeFunc fn first cap).run Try.prog w = .ok (.func fn first cap) w := fun _ _ _ _ => rfl
  go_enter_defers Try.func32, Try.ntmps32
  go_wp2_with fail
  rw [HWK.out]
  go_loopg [5, 8] 65 (fun gk v5 v8 wr => ∃ (a : Nat) (l : List Fld), v5 = .int .i64 (a : Int) ∧ v8 = .int .i64 (l.length : Int) ∧ Hid (l.length + gk = 65) ∧ Hid (CutS b l a) ∧ Hid (Below w0.heap.size w0 wr) ∧ Hid (TldS w0.heap.size p1 p2 l a wr) ∧ Hid (Kpr l.getLast? w.heap.size wr))
  case atStart => exact ⟨0, [], rfl, rfl, Lib.hid rfl, Lib.hid (CutS.start b), Lib.hid (HBW.out.trans (HBK.out.mono HBW.out.size)), HTK, Lib.hid HKK.out⟩
  case round =>
    obtain ⟨a, l, rfl, rfl, hg, hs, hbr, htl, hkp⟩ := hrel
    by_cases hlt : l.length < 64
    · have hlt' : (l.length : Int) < 64 := by omega
      have HLT := Lib.hid hlt
      obtain ⟨DA, hds, hdc, hdl⟩ := slice_drop A c b a HC.out hs.out.place
      obtain ⟨bd, hbd⟩ : ∃ bd, bd = b.drop a := ⟨_, rfl⟩
      obtain ⟨cd, hcd⟩ : ∃ cd, cd = c - a := ⟨_, rfl⟩
      rw [← hbd] at hds hdc hdl
      rw [← hcd] at hds hdl
      have HDC := Lib.hid hdc
      have HDL := Lib.hid hdl
      have HDB := Lib.hid (show Bytes bd by rw [hbd]; exact bdrop HBY.out _)
      have HNP := Lib.hid (show 0 < bd.length → ∀ ad, DA = some ad → ad.block ≠ w.heap.size from fun hp ad e => by have := kb_lt (HDC.out w0 HA.out) ad e hp; have := HBW.out.size; omega)
      obtain ⟨kcells, hkc⟩ := hkp.out.block
      have HKC := Lib.hid hkc
      replace hbd := Lib.hid hbd
      clear hdc hdl hcd hlt hkc
      go_wp2_with fail
      refine (read_any l.getLast? w.heap.size DA cd bd hs.out.last wr (HDC.out wr (Kd.C_below HA.out hbr.out)) HDL.out HDB.out hkp.out HNP.out).mono ?_
      rintro e w4 ⟨hk4, hb4, ⟨rfl, hno⟩ | ⟨N, L, B, cb, n, hnx, rfl, hr4, hp4⟩⟩
      · have HB4 := Lib.hid (hbr.out.trans (hb4.mono HBW.out.size))
        have HT4 := Lib.hid (htl.out.kept HKC.out hk4)
        have HE := Lib.hid (hs.out.none HLT.out (by rw [← hbd.out]; exact hno))
        clear hk4 hb4 hno hds
        unfold brk
        go_wp2_with fail
        refine leaves_cons (f := 41) (args := #[]) (by simp) (by simp [go_sem]) ?_
        refine (catch_broken [] _).mono ?_
        rintro e u' w5 ⟨rfl, rfl, hb5⟩
        have HB5 := Lib.hid hb5
        clear hb5
        simp [Leaves, settle, results, Try.results32, go_sem]
        rw [HE.out]
        exact ⟨by obtain ⟨⟨v, h1, hr⟩, h2⟩ := HT4.out; exact ⟨⟨v, blk_below h1 HB5.out, Kd.R_below hr HB5.out⟩, blk_below h2 HB5.out⟩, HB4.out.trans (HB5.out.mono HB4.out.size)⟩
      · have HB4 := Lib.hid (hbr.out.trans (hb4.mono HBW.out.size))
        have HT4 := Lib.hid (htl.out.kept HKC.out hk4)
        have HNX := Lib.hid (show IsNext l.getLast? (b.drop a) (N, L) n by rw [← hbd.out]; exact hnx)
        have HNL := Lib.hid (show a + n ≤ b.length by have h := hnx.2.2.1; rw [hbd.out, List.length_drop] at h; have := hs.out.place; omega)
        have hsum : wrap64 ((a : Int) + (n : Int)) = ((a + n : Nat) : Int) := wrap64_id (by have := HMAX.out; have := HNL.out; have := hs.out.small; omega) (by have := HMAX.out; have := HNL.out; have := hs.out.small; omega)
        have HSUM := Lib.hid hsum
        obtain ⟨w5, hw5⟩ : ∃ w5 : World, w5 = w4.alloc (.cells #[.int .i64 N, .slice B L.length cb] 26) := ⟨_, rfl⟩
        have HB5 := Lib.hid (show Below w0.heap.size w0 w5 by rw [hw5]; exact HB4.out.alloc HB4.out.size _)
        have H65 := Lib.hid (show w5.heap[w4.heap.size]? = some (.cells #[.int .i64 N, .slice B L.length cb] 26 (0, 0)) by rw [hw5]; exact heap_alloc_new w4 _)
        have HR5 := Lib.hid (show kc.R 42 w5 wr.heap.size (fun _ => True) (.slice B L.length cb) L by rw [hw5]; exact Kd.R_alloc hr4 _)
        have HP5 := Lib.hid (show w5.heap[w.heap.size]? = some (.cells #[.int .i64 N, .slice B L.length cb, .bool true] 79 (0, 0)) by rw [hw5]; exact blk_below hp4 (below_alloc (Below.refl _ _) _))
        have HT5 := Lib.hid (show TldS w0.heap.size p1 p2 l a w5 by rw [hw5]; exact HT4.out.kept hp4 ((Kept.refl _ _).alloc _))
        have HW5 := Lib.hid hw5.symm
        have HFO := Lib.hid (hnx.ok hs.out.last)
        clear hb4 hk4 hr4 hp4 hnx hds hsum hw5
        by_cases hm : a + n ≤ 1048576
        · have hm' : ¬ (1048576 : Int) < ((a + n : Nat) : Int) := by omega
          have HM := Lib.hid hm
          clear hm
          have hsum := HSUM.out
          go_wp2_with fail
          rw [HW5.out]
          simp only [← Int.natCast_add]
          refine (toldS_any w0.heap.size p1 p2 HB1.out HNE.out N B cb L a (a + n) l (by have := HLT.out; omega) (fok_le HFO.out) w5 (Kd.R_reads' HR5.out).2.2 HT5.out).mono ?_
          rintro e w6 ⟨rfl, ht6, hkeep⟩
          have HT6 := Lib.hid ht6
          have HB6 := Lib.hid (HB5.out.trans hkeep.1)
          have HKP := Lib.hid (show Kpr (l ++ [(N, L)]).getLast? w.heap.size w6 by rw [List.getLast?_concat]; exact ⟨B, cb, hkeep.2.1 _ _ HP5.out, (Kd.R_reads' (hkeep.2.2 _ _ _ HR5.out)).2.2⟩)
          have hs2 : wrap64 ((l.length : Int) + 1) = ((l.length + 1 : Nat) : Int) := wrap64_id (by have := HLT.out; omega) (by have := HLT.out; omega)
          clear ht6 hkeep hsum hm' hlt'
          go_wp2_with fail
          go_roundg (gk - 1)
          case measure => have := hg.out; have := HLT.out; omega
          case rel => exact ⟨a + n, l ++ [(N, L)], rfl, by rw [List.length_append, List.length_singleton, hs2], Lib.hid (by rw [List.length_append, List.length_singleton]; have := hg.out; have := HLT.out; omega), Lib.hid (hs.out.next HLT.out HNX.out HM.out), HB6, HT6, HKP⟩
        · have hm' : (1048576 : Int) < ((a + n : Nat) : Int) := by omega
          have HE := Lib.hid (hs.out.long HLT.out HNX.out hm)
          have hsum := HSUM.out
          clear hm
          go_wp2_with fail
          rw [HW5.out]
          refine leaves_cons (f := 41) (args := #[]) (by simp) (by simp [go_sem]) ?_
          refine (catch_idle _).mono ?_
          rintro e u' w6 ⟨rfl, rfl, rfl⟩
          simp [Leaves, settle, results, Try.results32, go_sem]
          rw [HE.out]
          exact ⟨HT5.out, HB5.out⟩
    · have hlt' : ¬ (l.length : Int) < 64 := by omega
      have HE := Lib.hid (hs.out.full hlt)
      clear hlt
      go_wp2_with fail
      refine leaves_cons (f := 41) (args := #[]) (by simp) (by simp [go_sem]) ?_
      refine (catch_idle _).mono ?_
      rintro e u' w6 ⟨rfl, rfl, rfl⟩
      simp [Leaves, settle, results, Try.results32, go_sem]
      rw [HE.out]
      exact ⟨htl.out, hbr.out⟩
set_option maxHeartbeats 16000000 in
set_option maxRecDepth 100000 in
theorem walkC_any (w0 : World) (p1 p2 : Nat) (hb1 : w0.heap.size ≤ p1) (hne : p1 < p2) (A : Option Addr) (c : Nat) (b : List Int) (hA : kb.C w0 A b.length b) (hc : b.length ≤ c) (hb : Bytes b) (w : World) (hbw : Below w0.heap.size w0 w) (hT : TldC p1 p2 [] 0 w) :
    Calls Try.prog 32 #[.slice A b.length c, .func (.func 35) #[] #[.pointer (some ⟨p1, 0, none⟩), .pointer (some ⟨p2, 0, none⟩)]] w fun e w' => e = .returned (.tuple #[]) ∧ TldC p1 p2 (cutAll b).1 (cutAll b).2 w' ∧ Below w0.heap.size w0 w' := by
  have HA := Lib.hid hA
  have HC := Lib.hid hc
  have HBY := Lib.hid hb
  have HMAX := Lib.hid (show b.length ≤ 9223372036854775807 from Kd.C_max hA)
  have HBW := Lib.hid hbw
  have HB1 := Lib.hid hb1
  have HNE := Lib.hid hne
  obtain ⟨wk, hwk⟩ : ∃ wk : World, wk = w.alloc (.cells #[.int .i64 0, .slice none 0 0, .bool false] 79) := ⟨_, rfl⟩
  have HBK := Lib.hid (show Below w.heap.size w wk by rw [hwk]; exact below_alloc (Below.refl _ _) _)
  have HKK := Lib.hid (show wk.heap[w.heap.size]? = some (.cells #[.int .i64 0, .slice none 0 0, .bool false] 79 (0, 0)) by rw [hwk]; exact heap_alloc_new w _)
  have HTK := Lib.hid (show TldC p1 p2 [] 0 wk by exact ⟨blk_below hT.one HBK.out, blk_below hT.two HBK.out⟩)
  have HWK := Lib.hid hwk.symm
  clear hA hc hb hbw hb1 hne hT hwk
  have hmf : ∀ (fn : Fn) (first cap : Array Value) (w : World), (Instr.makeFunc fn first cap).run Try.prog w = .ok (.func fn first cap) w := fun _ _ _ _ => rfl
  go_enter_defers Try.func32, Try.ntmps32
  go_wp2_with fail
  rw [HWK.out]
  go_loopg [5, 8] 65 (fun gk v5 v8 wr => ∃ (a : Nat) (l : List Fld), v5 = .int .i64 (a : Int) ∧ v8 = .int .i64 (l.length : Int) ∧ Hid (l.length + gk = 65) ∧ Hid (CutS b l a) ∧ Hid (Below w0.heap.size w0 wr) ∧ Hid (TldC p1 p2 l a wr) ∧ Hid (Kpr l.getLast? w.heap.size wr))
  case atStart => exact ⟨0, [], rfl, rfl, Lib.hid rfl, Lib.hid (CutS.start b), Lib.hid (HBW.out.trans (HBK.out.mono HBW.out.size)), HTK, Lib.hid HKK.out⟩
  case round =>
    obtain ⟨a, l, rfl, rfl, hg, hs, hbr, htl, hkp⟩ := hrel
    by_cases hlt : l.length < 64
    · have hlt' : (l.length : Int) < 64 := by omega
      have HLT := Lib.hid hlt
      obtain ⟨DA, hds, hdc, hdl⟩ := slice_drop A c b a HC.out hs.out.place
      obtain ⟨bd, hbd⟩ : ∃ bd, bd = b.drop a := ⟨_, rfl⟩
      obtain ⟨cd, hcd⟩ : ∃ cd, cd = c - a := ⟨_, rfl⟩
      rw [← hbd] at hds hdc hdl
      rw [← hcd] at hds hdl
      have HDC := Lib.hid hdc
      have HDL := Lib.hid hdl
      have HDB := Lib.hid (show Bytes bd by rw [hbd]; exact bdrop HBY.out _)
      have HNP := Lib.hid (show 0 < bd.length → ∀ ad, DA = some ad → ad.block ≠ w.heap.size from fun hp ad e => by have := kb_lt (HDC.out w0 HA.out) ad e hp; have := HBW.out.size; omega)
      obtain ⟨kcells, hkc⟩ := hkp.out.block
      have HKC := Lib.hid hkc
      replace hbd := Lib.hid hbd
      clear hdc hdl hcd hlt hkc
      go_wp2_with fail
      refine (read_any l.getLast? w.heap.size DA cd bd hs.out.last wr (HDC.out wr (Kd.C_below HA.out hbr.out)) HDL.out HDB.out hkp.out HNP.out).mono ?_
      rintro e w4 ⟨hk4, hb4, ⟨rfl, hno⟩ | ⟨N, L, B, cb, n, hnx, rfl, hr4, hp4⟩⟩
      · have HB4 := Lib.hid (hbr.out.trans (hb4.mono HBW.out.size))
        have HT4 := Lib.hid (htl.out.kept HKC.out hk4)
        have HE := Lib.hid (hs.out.none HLT.out (by rw [← hbd.out]; exact hno))
        clear hk4 hb4 hno hds
        unfold brk
        go_wp2_with fail
        refine leaves_cons (f := 41) (args := #[]) (by simp) (by simp [go_sem]) ?_
        refine (catch_broken [] _).mono ?_
        rintro e u' w5 ⟨rfl, rfl, hb5⟩
        have HB5 := Lib.hid hb5
        clear hb5
        simp [Leaves, settle, results, Try.results32, go_sem]
        rw [HE.out]
        exact ⟨⟨blk_below HT4.out.one HB5.out, blk_below HT4.out.two HB5.out⟩, HB4.out.trans (HB5.out.mono HB4.out.size)⟩
      · have HB4 := Lib.hid (hbr.out.trans (hb4.mono HBW.out.size))
        have HT4 := Lib.hid (htl.out.kept HKC.out hk4)
        have HNX := Lib.hid (show IsNext l.getLast? (b.drop a) (N, L) n by rw [← hbd.out]; exact hnx)
        have HNL := Lib.hid (show a + n ≤ b.length by have h := hnx.2.2.1; rw [hbd.out, List.length_drop] at h; have := hs.out.place; omega)
        have hsum : wrap64 ((a : Int) + (n : Int)) = ((a + n : Nat) : Int) := wrap64_id (by have := HMAX.out; have := HNL.out; have := hs.out.small; omega) (by have := HMAX.out; have := HNL.out; have := hs.out.small; omega)
        have HSUM := Lib.hid hsum
        obtain ⟨w5, hw5⟩ : ∃ w5 : World, w5 = w4.alloc (.cells #[.int .i64 N, .slice B L.length cb] 26) := ⟨_, rfl⟩
        have HB5 := Lib.hid (show Below w0.heap.size w0 w5 by rw [hw5]; exact HB4.out.alloc HB4.out.size _)
        have H65 := Lib.hid (show w5.heap[w4.heap.size]? = some (.cells #[.int .i64 N, .slice B L.length cb] 26 (0, 0)) by rw [hw5]; exact heap_alloc_new w4 _)
        have HR5 := Lib.hid (show kc.R 42 w5 wr.heap.size (fun _ => True) (.slice B L.length cb) L by rw [hw5]; exact Kd.R_alloc hr4 _)
        have HP5 := Lib.hid (show w5.heap[w.heap.size]? = some (.cells #[.int .i64 N, .slice B L.length cb, .bool true] 79 (0, 0)) by rw [hw5]; exact blk_below hp4 (below_alloc (Below.refl _ _) _))
        have HT5 := Lib.hid (show TldC p1 p2 l a w5 by rw [hw5]; exact HT4.out.kept hp4 ((Kept.refl _ _).alloc _))
        have HW5 := Lib.hid hw5.symm
        have HFO := Lib.hid (hnx.ok hs.out.last)
        clear hb4 hk4 hr4 hp4 hnx hds hsum hw5
        by_cases hm : a + n ≤ 1048576
        · have hm' : ¬ (1048576 : Int) < ((a + n : Nat) : Int) := by omega
          have HM := Lib.hid hm
          clear hm
          have hsum := HSUM.out
          go_wp2_with fail
          rw [HW5.out]
          simp only [← Int.natCast_add]
          refine (toldC_any w0.heap.size p1 p2 HB1.out HNE.out N B cb L a (a + n) l (by have := HLT.out; omega) w5 HT5.out (N, L)).mono ?_
          rintro e w6 ⟨rfl, ht6, hkeep⟩
          have HT6 := Lib.hid ht6
          have HB6 := Lib.hid (HB5.out.trans hkeep.1)
          have HKP := Lib.hid (show Kpr (l ++ [(N, L)]).getLast? w.heap.size w6 by rw [List.getLast?_concat]; exact ⟨B, cb, hkeep.2.1 _ _ HP5.out, (Kd.R_reads' (hkeep.2.2 _ _ _ HR5.out)).2.2⟩)
          have hs2 : wrap64 ((l.length : Int) + 1) = ((l.length + 1 : Nat) : Int) := wrap64_id (by have := HLT.out; omega) (by have := HLT.out; omega)
          clear ht6 hkeep hsum hm' hlt'
          go_wp2_with fail
          go_roundg (gk - 1)
          case measure => have := hg.out; have := HLT.out; omega
          case rel => exact ⟨a + n, l ++ [(N, L)], rfl, by rw [List.length_append, List.length_singleton, hs2], Lib.hid (by rw [List.length_append, List.length_singleton]; have := hg.out; have := HLT.out; omega), Lib.hid (hs.out.next HLT.out HNX.out HM.out), HB6, HT6, HKP⟩
        · have hm' : (1048576 : Int) < ((a + n : Nat) : Int) := by omega
          have HE := Lib.hid (hs.out.long HLT.out HNX.out hm)
          have hsum := HSUM.out
          clear hm
          go_wp2_with fail
          rw [HW5.out]
          refine leaves_cons (f := 41) (args := #[]) (by simp) (by simp [go_sem]) ?_
          refine (catch_idle _).mono ?_
          rintro e u' w6 ⟨rfl, rfl, rfl⟩
          simp [Leaves, settle, results, Try.results32, go_sem]
          rw [HE.out]
          exact ⟨HT5.out, HB5.out⟩
    · have hlt' : ¬ (l.length : Int) < 64 := by omega
      have HE := Lib.hid (hs.out.full hlt)
      clear hlt
      go_wp2_with fail
      refine leaves_cons (f := 41) (args := #[]) (by simp) (by simp [go_sem]) ?_
      refine (catch_idle _).mono ?_
      rintro e u' w6 ⟨rfl, rfl, rfl⟩
      simp [Leaves, settle, results, Try.results32, go_sem]
      rw [HE.out]
      exact ⟨htl.out, hbr.out⟩
end Go.Proofs.Ytomildjihlbbmaa
