/-
  The vault in plain words: sums, records, the record at the head of bytes, the longest beginning that is a file; no program in sight but the printed sums.
-/
import Derived.Test.YtomildjihlbbmaaJoi
import Derived.Test.YtomildjihlbbmaaPVaultReadsx2
import Derived.Test.YtomildjihlbbmaaPVaultReadsx1
namespace Go.Proofs.Ytomildjihlbbmaa
open Go.RowKit Flt Num Go.Proofs.YtomildjihlbbmaaW.PrintWords Go.Proofs.YtomildjihlbbmaaW.PrintLast Go.Proofs.YtomildjihlbbmaaW.PrintMore Go.Proofs.Ytomildjihlbbmaa.PVaultReads
set_option linter.unusedVariables false
abbrev Fld := Nat × List (Nat × Nat)
def xorC (x y : Nat × Nat) : Nat × Nat := (x.1 ^^^ y.1, x.2 ^^^ y.2)
def xorL (L L' : List (Nat × Nat)) : List (Nat × Nat) := List.zipWith xorC L L'
def sumF : Nat → List Int → Nat
  | s, [] => s
  | s, c :: cs => sumF ((s * 31 + c.toNat) % 4294967296) cs
def sumB (l : List Int) : Nat := sumF 1 l
/-- a field that is right -/
structure FOk (f : Fld) : Prop where
  side : 1 ≤ f.1 ∧ f.1 ≤ 64
  len : f.2.length = f.1 * f.1
  words : Words f.2
def bodyL (ah : Option Fld) (f : Fld) : List Int :=
  match ah with
  | some g => if g.1 = f.1 then (if (shortL f.1 (xorL f.2 g.2)).length < (shortL f.1 f.2).length then 1 :: shortL f.1 (xorL f.2 g.2) else 0 :: shortL f.1 f.2) else 0 :: shortL f.1 f.2
  | none => 0 :: shortL f.1 f.2
def recL (ah : Option Fld) (f : Fld) : List Int := be 4 (bodyL ah f).length ++ be 4 (sumB (bodyL ah f)) ++ bodyL ah f
def num4 (b : List Int) : Nat := (b.getD 0 0).toNat * 16777216 + (b.getD 1 0).toNat * 65536 + (b.getD 2 0).toNat * 256 + (b.getD 3 0).toNat
/-- the record at the head of b holds f, behind ah, and is n bytes long -/
def IsNext (ah : Option Fld) (b : List Int) (f : Fld) (n : Nat) : Prop :=
  n = 8 + num4 b ∧ 1 ≤ num4 b ∧ n ≤ b.length ∧ ∃ N L, Packs ((b.take n).drop 9) N L ∧
    (if b.getD 8 0 = 1 then ∃ L', ah = some (N, L') ∧ f = (N, xorL L L') else f = (N, L)) ∧ recL ah f = b.take n

theorem wid_ex (c : Nat) : ∃ y, Wid c y := by
  unfold Wid
  cases h : Ieee.single.read c with
  | nan s t => exact ⟨18446744073709551615, by decide, max_nan⟩
  | infinity s => exact ⟨_, write_double_lt _, rfl⟩
  | number s m e => exact ⟨_, write_double_lt _, rfl⟩
theorem step_ex (way : Nat) (last : Int × Int) (st : List Int × Bool) : ∃ v last' st', StepP way last st v last' st' := by
  unfold StepP
  by_cases h0 : way = 0
  · simp only [if_pos h0]; exact ⟨_, _, _, rfl, rfl, rfl⟩
  · by_cases h1 : way = 1
    · simp only [if_neg h0, if_pos h1]
      obtain ⟨y, hy⟩ := wid_ex (fromB 0 (takeP 4 st).1)
      obtain ⟨z, hz⟩ := wid_ex (fromB 0 (takeP 4 (takeP 4 st).2).1)
      exact ⟨(y, z), _, _, hy, hz, rfl, rfl⟩
    · simp only [if_neg h0, if_neg h1]; exact ⟨_, _, _, rfl, rfl, rfl⟩
theorem dec_ex (way : Nat) (st0 : List Int × Bool) : ∀ n, ∃ L last st, DecS way st0 L last st ∧ L.length = n
  | 0 => ⟨[], _, _, .nil, rfl⟩
  | n + 1 => by
    obtain ⟨L, last, st, h, hl⟩ := dec_ex way st0 n
    obtain ⟨v, last', st', hs⟩ := step_ex way last st
    exact ⟨_, _, _, .snoc h hs, by simp [hl]⟩
theorem packs_unique {b : List Int} {N N' : Nat} {L L' : List (Nat × Nat)} (h : Packs b N L) (h' : Packs b N' L') : N = N' ∧ L = L' := by
  obtain ⟨way, t, _, hb, he⟩ := packs_head h.eq
  obtain ⟨way', t', _, hb', he'⟩ := packs_head h'.eq
  rw [hb] at hb'
  obtain ⟨rfl, rfl, rfl⟩ := heads_eq hb'
  obtain ⟨M, last, st, hd, hl⟩ := dec_ex way (t, false) (N * N)
  rw [hb] at he he'
  have e1 := (dec_back h.words he hd (by rw [hl, h.len])).1
  have e2 := (dec_back h'.words he' hd (by rw [hl, h'.len])).1
  exact ⟨rfl, e1.symm.trans e2⟩
theorem IsNext.unique {ah : Option Fld} {b : List Int} {f f' : Fld} {n n' : Nat} (h : IsNext ah b f n) (h' : IsNext ah b f' n') : f = f' ∧ n = n' := by
  obtain ⟨hn, -, -, N, L, hp, hf, -⟩ := h
  obtain ⟨hn', -, -, N', L', hp', hf', -⟩ := h'
  have en : n = n' := hn.trans hn'.symm
  subst en
  obtain ⟨rfl, rfl⟩ := packs_unique hp hp'
  refine ⟨?_, rfl⟩
  by_cases hk : b.getD 8 0 = 1
  · rw [if_pos hk] at hf hf'
    obtain ⟨L1, e1, rfl⟩ := hf
    obtain ⟨L2, e2, rfl⟩ := hf'
    rw [e1] at e2
    injection e2 with e2
    injection e2 with _ e2
    rw [e2]
  · rw [if_neg hk] at hf hf'
    rw [hf, hf']
theorem xor_words {L L' : List (Nat × Nat)} (h : Words L) (h' : Words L') : Words (xorL L L') := by
  unfold xorL
  intro x hx
  obtain ⟨i, hi, rfl⟩ := List.mem_iff_getElem.1 hx
  rw [List.length_zipWith] at hi
  rw [List.getElem_zipWith]
  have h1 := h _ (List.getElem_mem (show i < L.length by omega))
  have h2 := h' _ (List.getElem_mem (show i < L'.length by omega))
  exact ⟨Nat.xor_lt_two_pow h1.1 h2.1, Nat.xor_lt_two_pow h1.2 h2.2⟩
theorem xor_ok {N : Nat} {L L' : List (Nat × Nat)} (h : FOk (N, L)) (h' : FOk (N, L')) : FOk (N, xorL L L') :=
  ⟨h.side, by show (xorL L L').length = N * N; rw [xorL, List.length_zipWith, show L.length = N * N from h.len, show L'.length = N * N from h'.len, Nat.min_self], xor_words h.words h'.words⟩
theorem Packs.ok {b : List Int} {N : Nat} {L : List (Nat × Nat)} (h : Packs b N L) : FOk (N, L) := ⟨h.side, h.len, h.words⟩
theorem IsNext.ok {ah : Option Fld} {b : List Int} {f : Fld} {n : Nat} (h : IsNext ah b f n) (ha : ∀ g, ah = some g → FOk g) : FOk f := by
  obtain ⟨-, -, -, N, L, hp, hf, -⟩ := h
  by_cases hk : b.getD 8 0 = 1
  · rw [if_pos hk] at hf
    obtain ⟨L', e, rfl⟩ := hf
    exact xor_ok hp.ok (ha _ e)
  · rw [if_neg hk] at hf
    rw [hf]; exact hp.ok
open Classical in
noncomputable def nextF (ah : Option Fld) (b : List Int) : Option (Fld × Nat) := if h : ∃ p : Fld × Nat, IsNext ah b p.1 p.2 then some h.choose else none
theorem nextF_some {ah : Option Fld} {b : List Int} {f : Fld} {n : Nat} (h : IsNext ah b f n) : nextF ah b = some (f, n) := by
  have hex : ∃ p : Fld × Nat, IsNext ah b p.1 p.2 := ⟨(f, n), h⟩
  unfold nextF
  rw [dif_pos hex]
  obtain ⟨e1, e2⟩ := hex.choose_spec.unique h
  exact congrArg some (Prod.ext e1 e2)
theorem nextF_none {ah : Option Fld} {b : List Int} (h : ∀ f n, ¬ IsNext ah b f n) : nextF ah b = none := by
  unfold nextF
  rw [dif_neg (fun ⟨p, hp⟩ => h _ _ hp)]
/-- the longest beginning that is a file: k records more at most -/
noncomputable def cutF (b : List Int) : Nat → List Fld → Nat → List Fld × Nat
  | 0, l, a => (l, a)
  | k + 1, l, a => match nextF l.getLast? (b.drop a) with
    | some (f, n) => if a + n ≤ 1048576 then cutF b k (l ++ [f]) (a + n) else (l, a)
    | none => (l, a)
theorem cutF_some {b : List Int} {k : Nat} {l : List Fld} {a : Nat} {f : Fld} {n : Nat} (h : IsNext l.getLast? (b.drop a) f n) (hm : a + n ≤ 1048576) : cutF b (k + 1) l a = cutF b k (l ++ [f]) (a + n) := by
  rw [cutF, nextF_some h]; simp only [if_pos hm]
theorem cutF_long {b : List Int} {k : Nat} {l : List Fld} {a : Nat} {f : Fld} {n : Nat} (h : IsNext l.getLast? (b.drop a) f n) (hm : ¬ a + n ≤ 1048576) : cutF b (k + 1) l a = (l, a) := by
  rw [cutF, nextF_some h]; simp only [if_neg hm]
theorem cutF_none {b : List Int} {k : Nat} {l : List Fld} {a : Nat} (h : ∀ f n, ¬ IsNext l.getLast? (b.drop a) f n) : cutF b (k + 1) l a = (l, a) := by
  rw [cutF, nextF_none h]
noncomputable def cutAll (b : List Int) : List Fld × Nat := cutF b 64 [] 0

/-! ### the sums, as printed -/
theorem sumF_lt : ∀ (l : List Int) (s : Nat), s < 4294967296 → sumF s l < 4294967296
  | [], s, h => h
  | c :: cs, s, h => sumF_lt cs _ (Nat.mod_lt _ (by decide))
theorem sumF_step {l : List Int} (hb : Bytes l) {s i : Nat} (hi : i < l.length) : ((((s : Int) * 31) % 4294967296 + (rd l (i : Int)) % 4294967296) % 4294967296) = (((s * 31 + (l.getD i 0).toNat) % 4294967296 : Nat) : Int) ∧ sumF s (l.drop i) = sumF ((s * 31 + (l.getD i 0).toNat) % 4294967296) (l.drop (i + 1)) := by
  have hc := rd_bytes hb hi
  have hg : rd l (i : Int) = l.getD i 0 := rfl
  refine ⟨?_, ?_⟩
  · rw [hg] at hc ⊢
    omega
  · rw [List.drop_eq_getElem_cons hi, sumF, getD_lt hi]
theorem vsum_l (l : List Int) (hb : Bytes l) (hm : l.length < 2 ^ 62) : ∀ (j i s : Nat), i + j = l.length → vault_Sum.l0 (j + 1) (s : Int) l (l.length : Int) (i : Int) = some ((sumF s (l.drop i) : Nat) : Int)
  | 0, i, s, h => by
    rw [vault_Sum.l0, if_neg (by omega), show l.drop i = [] from List.drop_eq_nil_of_le (by omega)]; rfl
  | j + 1, i, s, h => by
    obtain ⟨e1, e2⟩ := sumF_step hb (s := s) (i := i) (by omega)
    rw [vault_Sum.l0, if_pos (by omega), if_pos (by omega), if_pos (by omega), e1, e2, wrap64_id (n := (i : Int) + 1) (by omega) (by omega)]
    exact vsum_l l hb hm j (i + 1) _ (by omega)
theorem vsum_f (l : List Int) (hb : Bytes l) (hm : l.length < 2 ^ 62) : vault_Sum.f (l.length + 1) l = some ((sumB l : Nat) : Int) := vsum_l l hb hm l.length 0 1 (by omega)
theorem rsum_l (l : List Int) (hb : Bytes l) (hm : l.length < 2 ^ 62) : ∀ (j i s : Nat), i + j = l.length → penumbraref22_Sum.l0 (j + 1) l (s : Int) (i : Int) = some ((sumF s (l.drop i) : Nat) : Int)
  | 0, i, s, h => by
    rw [penumbraref22_Sum.l0, if_neg (by omega), show l.drop i = [] from List.drop_eq_nil_of_le (by omega)]; rfl
  | j + 1, i, s, h => by
    obtain ⟨e1, e2⟩ := sumF_step hb (s := s) (i := i) (by omega)
    rw [penumbraref22_Sum.l0, if_pos (by omega), if_pos (by omega), show (31 : Int) * (s : Int) = (s : Int) * 31 from Int.mul_comm _ _, e1, e2, wrap64_id (n := (i : Int) + 1) (by omega) (by omega)]
    exact rsum_l l hb hm j (i + 1) _ (by omega)
theorem rsum_f (l : List Int) (hb : Bytes l) (hm : l.length < 2 ^ 62) : penumbraref22_Sum.f (l.length + 1) l = some ((sumB l : Nat) : Int) := rsum_l l hb hm l.length 0 1 (by omega)
theorem four_be (v : Nat) (h : v < 4294967296) : ([((v : Int) / 16777216) % 256, ((v : Int) / 65536) % 256, ((v : Int) / 256) % 256, (v : Int) % 256] : List Int) = be 4 v := by
  have h3 : ((v : Int) / 16777216) % 256 = ((v / 256 ^ 3 % 256 : Nat) : Int) := by rw [show (256 : Nat) ^ 3 = 16777216 from rfl]; omega
  have h2 : ((v : Int) / 65536) % 256 = ((v / 256 ^ 2 % 256 : Nat) : Int) := by rw [show (256 : Nat) ^ 2 = 65536 from rfl]; omega
  have h1 : ((v : Int) / 256) % 256 = ((v / 256 ^ 1 % 256 : Nat) : Int) := by rw [show (256 : Nat) ^ 1 = 256 from rfl]; omega
  have h0 : (v : Int) % 256 = ((v / 256 ^ 0 % 256 : Nat) : Int) := by rw [show (256 : Nat) ^ 0 = 1 from rfl, Nat.div_one]; omega
  rw [h3, h2, h1, h0]
  rfl
theorem four_f (v : Nat) (h : v < 4294967296) : penumbraref22_four.f (v : Int) = some (be 4 v) := congrArg some (four_be v h)
end Go.Proofs.Ytomildjihlbbmaa
