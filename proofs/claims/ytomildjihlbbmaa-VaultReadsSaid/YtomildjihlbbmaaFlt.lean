/-
  Binary floats, as far as the packing asks: words that stand for whole numbers, and words of the greater format that the smaller one holds, too. No program and no memory here.
-/
import Derived.Laws.FloatArith
import Derived.RowKit
import Derived.Laws.BitsAllLaws
namespace Go.Proofs.Ytomildjihlbbmaa.Flt
open Ieee

theorem shl_pow (m k : Nat) : m <<< k = m * 2 ^ k := Nat.shiftLeft_eq m k

/-- What is cut off without a rest. -/
theorem cut_exact (way : Toward) (s : Bool) (k drop : Nat) (hk : 1 ≤ k) : way.cut s (k * 2 ^ drop) drop = k := by
  have hlog : drop ≤ (k * 2 ^ drop).log2 := (Nat.le_log2 (Nat.pos_iff_ne_zero.1 (Nat.mul_pos hk (Nat.two_pow_pos _)))).2 (Nat.le_mul_of_pos_left _ hk)
  have hmin : min drop ((k * 2 ^ drop).log2 + 2) = drop := by omega
  have hpos : 0 < 2 ^ drop := Nat.two_pow_pos _
  unfold Toward.cut
  simp only [hmin, shl_pow, Nat.one_mul, Nat.mul_div_cancel _ hpos, Nat.mul_mod_left]
  cases way <;> simp <;> omega

/-- Writing where no digit is lost: p is the place; M the significand at the last digit's place. -/
theorem nearest_exact (f : Format) (s : Bool) (m : Nat) (p last : Int) (M : Nat) (hm : m ≠ 0) (hl : last = max (p + m.log2 - f.fractionBits) f.leastPlace)
    (hM : (last ≤ p ∧ M = m * 2 ^ (p - last).toNat) ∨ (p < last ∧ m = M * 2 ^ (last - p).toNat)) :
    f.nearest s m p = f.word s (min ((last - f.leastPlace).toNat * f.binade + M) f.infRung) := by
  unfold Format.nearest
  rw [if_neg hm]
  simp only [← hl]
  rcases hM with ⟨h1, rfl⟩ | ⟨h1, hM⟩
  · have e : (last - p).toNat = 0 := by omega
    have hc := cut_exact .even s (m * 2 ^ (p - last).toNat) 0 (Nat.mul_pos (Nat.pos_of_ne_zero hm) (Nat.two_pow_pos _))
    rw [Nat.pow_zero, Nat.mul_one] at hc
    rw [e, shl_pow, hc]
  · have e : (p - last).toNat = 0 := by omega
    have hM1 : 1 ≤ M := by
      rcases Nat.eq_zero_or_pos M with h | h
      · subst h; rw [Nat.zero_mul] at hM; exact absurd hM hm
      · exact h
    rw [e, shl_pow, Nat.pow_zero, Nat.mul_one]
    conv => lhs; rw [hM]
    rw [cut_exact .even s M _ hM1]

/-- Reading a word of the two parts. -/
theorem read_word (f : Format) (s : Bool) (r : Nat) (h : r < f.signWeight) : f.read (f.word s r) =
    (if r < f.binade then .number s r f.leastPlace
     else if r < f.infRung then .number s (f.binade + r % f.binade) (f.leastPlace + (r / f.binade - 1 : Nat))
     else if r = f.infRung then .infinity s
     else .nan s (r - f.infRung)) := by
  have hs : 0 < f.signWeight := Nat.two_pow_pos _
  unfold Format.read Format.word
  cases s
  · have h1 : r / f.signWeight = 0 := Nat.div_eq_of_lt h
    have h2 : r % f.signWeight = r := Nat.mod_eq_of_lt h
    simp [h1, h2]
  · have h1 : (f.signWeight + r) / f.signWeight = 1 := by
      rw [Nat.add_div_left _ hs, Nat.div_eq_of_lt h]
    have h2 : (f.signWeight + r) % f.signWeight = r := by
      rw [Nat.add_mod_left, Nat.mod_eq_of_lt h]
    simp [h1, h2]

/-- Every word has two parts. -/
theorem word_parts (f : Format) (x : Nat) (h : x < 2 * f.signWeight) : ∃ s r, r < f.signWeight ∧ x = f.word s r := by
  by_cases hx : x < f.signWeight
  · exact ⟨false, x, hx, rfl⟩
  · exact ⟨true, x - f.signWeight, by omega, by unfold Format.word; simp; omega⟩

theorem binade_pos (f : Format) : 0 < f.binade := Nat.two_pow_pos _

/-- A written number read again, where no digit is lost and the format holds it. -/
theorem read_nearest (f : Format) (s : Bool) (m : Nat) (p last : Int) (M : Nat) (hm : m ≠ 0) (hl : last = max (p + m.log2 - f.fractionBits) f.leastPlace)
    (hM : (last ≤ p ∧ M = m * 2 ^ (p - last).toNat) ∨ (p < last ∧ m = M * 2 ^ (last - p).toNat))
    (hM1 : M < 2 * f.binade) (hM2 : f.binade ≤ M ∨ last = f.leastPlace) (hfin : (last - f.leastPlace).toNat * f.binade + M < f.infRung) :
    f.read (f.nearest s m p) = .number s M last := by
  have hb := binade_pos f
  have hi := f.infRung_lt
  rw [nearest_exact f s m p last M hm hl hM, Nat.min_eq_left (by omega), read_word f s _ (by omega)]
  have hl2 : f.leastPlace ≤ last := by omega
  by_cases hs : (last - f.leastPlace).toNat * f.binade + M < f.binade
  · have h0 : (last - f.leastPlace).toNat = 0 := by
      rcases Nat.eq_zero_or_pos (last - f.leastPlace).toNat with h | h
      · exact h
      · have : f.binade ≤ (last - f.leastPlace).toNat * f.binade := Nat.le_mul_of_pos_left _ h
        omega
    rw [if_pos hs, h0, Nat.zero_mul, Nat.zero_add]
    have : last = f.leastPlace := by omega
    rw [this]
  · rw [if_neg hs, if_pos hfin]
    have hMb : f.binade ≤ M := by
      rcases hM2 with h | h
      · exact h
      · rw [h] at hs
        simp at hs
        exact hs
    obtain ⟨r, hr⟩ : ∃ r, M = f.binade + r := ⟨M - f.binade, by omega⟩
    have hr1 : r < f.binade := by omega
    have e : (last - f.leastPlace).toNat * f.binade + M = r + ((last - f.leastPlace).toNat + 1) * f.binade := by rw [hr, Nat.add_mul]; omega
    rw [e, Nat.add_mul_mod_self_right, Nat.mod_eq_of_lt hr1, Nat.add_mul_div_right _ _ hb, Nat.div_eq_of_lt hr1, ← hr]
    congr 1
    omega

/-! ### the two formats' numbers -/
theorem d_least : double.leastPlace = -1074 := by decide
theorem s_least : single.leastPlace = -149 := by decide
theorem d_binade : double.binade = 4503599627370496 := by decide
theorem s_binade : single.binade = 8388608 := by decide
theorem d_inf : double.infRung = 9218868437227405312 := by decide
theorem s_inf : single.infRung = 2139095040 := by decide
theorem d_sign : double.signWeight = 9223372036854775808 := by decide
theorem s_sign : single.signWeight = 2147483648 := by decide

theorem log2_bounds {m : Nat} (hm : m ≠ 0) : 2 ^ m.log2 ≤ m ∧ m < 2 ^ (m.log2 + 1) := ⟨Nat.log2_self_le hm, Nat.lt_log2_self⟩
theorem log2_lt_of {m k : Nat} (hm : m ≠ 0) (h : m < 2 ^ k) : m.log2 < k := (Nat.log2_lt hm).2 h

/-- A number of at most 53 digits at a place that lies high enough is held by the greater format: its significand is shifted up. -/
theorem read_write_double (s : Bool) (m : Nat) (p : Int) (hm : m ≠ 0) (h53 : m < 2 ^ 53) (hp : -1022 ≤ p + m.log2) (hp2 : p + m.log2 ≤ 1000) :
    double.read (double.write (.number s m p)) = .number s (m * 2 ^ (52 - m.log2)) (p + m.log2 - 52) := by
  have hL := log2_lt_of hm h53
  obtain ⟨b1, b2⟩ := log2_bounds hm
  have e1 : 2 ^ m.log2 * 2 ^ (52 - m.log2) = 2 ^ 52 := by rw [← Nat.pow_add]; congr 1; omega
  have e2 : 2 ^ (m.log2 + 1) * 2 ^ (52 - m.log2) = 2 ^ 53 := by rw [← Nat.pow_add]; congr 1; omega
  have hpos : 0 < 2 ^ (52 - m.log2) := Nat.two_pow_pos _
  have k1 : 2 ^ 52 ≤ m * 2 ^ (52 - m.log2) := by rw [← e1]; exact Nat.mul_le_mul_right _ b1
  have k2 : m * 2 ^ (52 - m.log2) < 2 ^ 53 := by rw [← e2]; exact Nat.mul_lt_mul_of_pos_right b2 hpos
  have hf : (double.fractionBits : Int) = 52 := rfl
  refine read_nearest double s m p (p + m.log2 - 52) (m * 2 ^ (52 - m.log2)) hm ?_ (.inl ⟨by omega, ?_⟩) ?_ (.inl ?_) ?_
  · rw [hf, d_least]; omega
  · congr 2; omega
  · rw [d_binade]; omega
  · rw [d_binade]; exact k1
  · rw [d_least, d_binade, d_inf]
    have : (p + (m.log2 : Int) - 52 - -1074).toNat ≤ 2022 := by omega
    have : (p + (m.log2 : Int) - 52 - -1074).toNat * 4503599627370496 ≤ 2022 * 4503599627370496 := Nat.mul_le_mul_right _ this
    omega

/-- A whole number of at most 53 digits. -/
theorem read_write_int (s : Bool) (k : Nat) (hk : k ≠ 0) (h : k < 2 ^ 53) : double.read (double.write (.number s k 0)) = .number s (k * 2 ^ (52 - k.log2)) ((k.log2 : Int) - 52) := by
  have hL := log2_lt_of hk h
  have := read_write_double s k 0 hk h (by omega) (by omega)
  rw [this]
  congr 1
  omega
theorem read_write_zero (s : Bool) (p : Int) : double.read (double.write (.number s 0 p)) = .number s 0 (-1074) := by
  show double.read (double.nearest s 0 p) = _
  unfold Format.nearest
  rw [if_pos rfl, read_word double s 0 (by rw [d_sign]; omega), if_pos (by rw [d_binade]; omega), d_least]

/-- What a word of the smaller format reads as. -/
theorem single_cases (c : Nat) (h : c < 2 ^ 32) : ∃ s r, r < 2147483648 ∧ c = single.word s r ∧ single.read c =
    (if r < 8388608 then .number s r (-149) else if r < 2139095040 then .number s (8388608 + r % 8388608) (-149 + (r / 8388608 - 1 : Nat)) else if r = 2139095040 then .infinity s else .nan s (r - 2139095040)) := by
  obtain ⟨s, r, hr, rfl⟩ := word_parts single c (by rw [s_sign]; omega)
  have := read_word single s r hr
  rw [s_binade, s_inf, s_least] at this
  rw [s_sign] at hr
  exact ⟨s, r, hr, rfl, this⟩
theorem double_cases (x : Nat) (h : x < 2 ^ 64) : ∃ s r, r < 9223372036854775808 ∧ x = double.word s r ∧ double.read x =
    (if r < 4503599627370496 then .number s r (-1074) else if r < 9218868437227405312 then .number s (4503599627370496 + r % 4503599627370496) (-1074 + (r / 4503599627370496 - 1 : Nat)) else if r = 9218868437227405312 then .infinity s else .nan s (r - 9218868437227405312)) := by
  obtain ⟨s, r, hr, rfl⟩ := word_parts double x (by rw [d_sign]; omega)
  have := read_word double s r hr
  rw [d_binade, d_inf, d_least] at this
  rw [d_sign] at hr
  exact ⟨s, r, hr, rfl, this⟩

/-- There and back: a word of the smaller format that is no NaN, written in the greater one, read, and written in the smaller one again. And what stands in the greater one is as finite as it was. -/
theorem round_trip (c : Nat) (h : c < 2 ^ 32) (hn : (single.read c).isNaN = false) :
    single.write (double.read (double.write (single.read c))) = c ∧ (double.read (double.write (single.read c))).isInfinity = (single.read c).isInfinity ∧ (double.read (double.write (single.read c))).isNaN = false := by
  obtain ⟨s, r, hr, rfl, he⟩ := single_cases c h
  rw [he] at hn ⊢
  by_cases h1 : r < 8388608
  · rw [if_pos h1]
    by_cases h0 : r = 0
    · subst h0
      rw [read_write_zero]
      refine ⟨?_, rfl, rfl⟩
      show single.nearest s 0 _ = _
      unfold Format.nearest
      rw [if_pos rfl]
    · have hL := log2_lt_of h0 (show r < 2 ^ 23 by omega)
      rw [read_write_double s r (-149) h0 (by omega) (by omega) (by omega)]
      refine ⟨?_, rfl, rfl⟩
      have hpos : 0 < 2 ^ (52 - r.log2) := Nat.two_pow_pos _
      obtain ⟨b1, b2⟩ := log2_bounds h0
      have hM0 : r * 2 ^ (52 - r.log2) ≠ 0 := Nat.pos_iff_ne_zero.1 (Nat.mul_pos (Nat.pos_of_ne_zero h0) hpos)
      have hlog : (r * 2 ^ (52 - r.log2)).log2 = 52 := by
        rw [Nat.log2_eq_iff hM0]
        have e1 : 2 ^ r.log2 * 2 ^ (52 - r.log2) = 2 ^ 52 := by rw [← Nat.pow_add]; congr 1; omega
        have e2 : 2 ^ (r.log2 + 1) * 2 ^ (52 - r.log2) = 2 ^ 53 := by rw [← Nat.pow_add]; congr 1; omega
        exact ⟨by rw [← e1]; exact Nat.mul_le_mul_right _ b1, by rw [← e2]; exact Nat.mul_lt_mul_of_pos_right b2 hpos⟩
      have hf : (single.fractionBits : Int) = 23 := rfl
      show single.nearest s _ _ = _
      rw [nearest_exact single s _ (-149 + (r.log2 : Int) - 52) (-149) r hM0 (by rw [hlog, hf, s_least]; omega) (.inr ⟨by omega, by congr 2; omega⟩)]
      rw [s_least, s_binade, s_inf]
      have e : ((-149 : Int) - -149).toNat = 0 := rfl
      rw [e, Nat.zero_mul, Nat.zero_add, Nat.min_eq_left (by omega)]
  · rw [if_neg h1] at hn ⊢
    by_cases h2 : r < 2139095040
    · rw [if_pos h2]
      obtain ⟨k, q, hq, hr2⟩ : ∃ k q, q < 8388608 ∧ r = (k + 1) * 8388608 + q := ⟨r / 8388608 - 1, r % 8388608, Nat.mod_lt _ (by omega), by omega⟩
      have e1 : r % 8388608 = q := by omega
      have e2 : r / 8388608 - 1 = k := by omega
      have hk : k ≤ 253 := by omega
      rw [e1, e2]
      have hm0 : 8388608 + q ≠ 0 := by omega
      have hlog0 : (8388608 + q).log2 = 23 := by rw [Nat.log2_eq_iff hm0]; omega
      rw [read_write_double s (8388608 + q) (-149 + (k : Int)) hm0 (by omega) (by rw [hlog0]; omega) (by rw [hlog0]; omega), hlog0]
      refine ⟨?_, rfl, rfl⟩
      have hM0 : (8388608 + q) * 2 ^ (52 - 23) ≠ 0 := by omega
      have hlog : ((8388608 + q) * 2 ^ (52 - 23)).log2 = 52 := by rw [Nat.log2_eq_iff hM0]; omega
      have hf : (single.fractionBits : Int) = 23 := rfl
      show single.nearest s _ _ = _
      rw [nearest_exact single s _ (-149 + (k : Int) + (23 : Nat) - 52) (-149 + (k : Int)) (8388608 + q) hM0 (by rw [hlog, hf, s_least]; omega) (.inr ⟨by omega, by congr 2; omega⟩)]
      rw [s_least, s_binade, s_inf]
      have e : (-149 + (k : Int) - -149).toNat = k := by omega
      rw [e, Nat.min_eq_left (by omega)]
      congr 1
      omega
    · rw [if_neg h2] at hn ⊢
      by_cases h3 : r = 2139095040
      · rw [if_pos h3]
        subst h3
        have : double.read (double.write (.infinity s)) = .infinity s := by cases s <;> decide +kernel
        rw [this]
        exact ⟨rfl, rfl, rfl⟩
      · rw [if_neg h3] at hn
        cases hn
end Go.Proofs.Ytomildjihlbbmaa.Flt

/-
  The two ways in which the packing asks of a float: is it held by the smaller format? is it a whole number of at most so much? Both texts' answers are the same. No program and no memory here.
-/
namespace Go.Proofs.Ytomildjihlbbmaa.Flt
open Ieee

/-! ### narrow -/
/-- What a float64 may become as a float32: a NaN some NaN; a number too great for it anything. -/
def Nar (x c : Nat) : Prop := c < 2 ^ 32 ∧ match double.read x with
  | .nan _ _ => (single.read c).isNaN = true
  | .infinity s => c = single.write (.infinity s)
  | .number s m e => (single.read (single.write (.number s m e))).isInfinity = true ∨ c = single.write (.number s m e)
/-- What a float32 becomes as a float64: a NaN some NaN. -/
def Wid (c y : Nat) : Prop := y < 2 ^ 64 ∧ match single.read c with
  | .nan _ _ => (double.read y).isNaN = true
  | d => y = double.write d
/-- The float32 that holds a float64 with all its bits, if there is one. -/
def narrowF (x : Nat) : Option Nat :=
  match double.read x with
  | .nan _ _ => none
  | d => if double.write (single.read (single.write d)) = x then some (single.write d) else none

theorem write_single_lt (d : Datum) : single.write d < 2 ^ 32 := single.write_lt d
theorem write_double_lt (d : Datum) : double.write d < 2 ^ 64 := double.write_lt d

theorem single_write_not_nan (s : Bool) (m : Nat) (e : Int) : (single.read (single.write (.number s m e))).isNaN = false := by
  have h : ∃ r, r ≤ single.infRung ∧ single.write (.number s m e) = single.word s r := by
    show ∃ r, r ≤ single.infRung ∧ single.nearest s m e = single.word s r
    unfold Format.nearest
    dsimp only
    split
    · exact ⟨0, Nat.zero_le _, rfl⟩
    · exact ⟨_, Nat.min_le_right _ _, rfl⟩
  obtain ⟨r, hr, he⟩ := h
  have hi := single.infRung_lt
  rw [he, read_word single s r (by omega)]
  by_cases h1 : r < single.binade
  · rw [if_pos h1]; rfl
  · rw [if_neg h1]
    by_cases h2 : r < single.infRung
    · rw [if_pos h2]; rfl
    · rw [if_neg h2, if_pos (by omega)]; rfl

/-- A float64 that is no NaN, through a float32 and back: it is itself just where narrowF holds it, and then by narrowF's word. -/
theorem narrow_key {x c y : Nat} (hx : x < 2 ^ 64) (hn : (double.read x).isNaN = false) (h1 : Nar x c) (h2 : Wid c y) : (y = x ↔ (narrowF x).isSome = true) ∧ (y = x → narrowF x = some c) := by
  obtain ⟨hc, h1⟩ := h1
  obtain ⟨hy, h2⟩ := h2
  have key : y = x → narrowF x = some c := by
    rintro rfl
    have hcn : (single.read c).isNaN = false := by
      cases hs : single.read c with
      | nan s t => rw [hs] at h2; rw [h2] at hn; cases hn
      | number s m e => rfl
      | infinity s => rfl
    have hy2 : y = double.write (single.read c) := by
      cases hs : single.read c with
      | nan s t => rw [hs] at hcn; cases hcn
      | number s m e => rw [hs] at h2; exact h2
      | infinity s => rw [hs] at h2; exact h2
    obtain ⟨r1, r2, r3⟩ := round_trip c hc hcn
    rw [← hy2] at r1 r2 r3
    unfold narrowF
    cases hd : double.read y with
    | nan s t => rw [hd] at hn; cases hn
    | infinity s =>
      rw [hd] at r1
      simp only [r1, ← hy2, if_true]
    | number s m e =>
      rw [hd] at r1
      simp only [r1, ← hy2, if_true]
  refine ⟨⟨fun h => by rw [key h]; rfl, fun h => ?_⟩, key⟩
  unfold narrowF at h
  cases hd : double.read x with
  | nan s t => rw [hd] at hn; cases hn
  | infinity s =>
    rw [hd] at h h1
    simp only at h h1
    by_cases hw : double.write (single.read (single.write (.infinity s))) = x
    · rw [← h1] at hw
      cases hs : single.read c with
      | nan s' t =>
        have e : single.read (single.write (.infinity s)) = .infinity s := by cases s <;> decide +kernel
        rw [h1, e] at hs; cases hs
      | number s' m e => rw [hs] at h2 hw; rw [← hw]; exact h2
      | infinity s' => rw [hs] at h2 hw; rw [← hw]; exact h2
    · rw [if_neg hw] at h; cases h
  | number s m e =>
    rw [hd] at h h1
    simp only at h h1
    by_cases hw : double.write (single.read (single.write (.number s m e))) = x
    · have hni : (single.read (single.write (.number s m e))).isInfinity = false := by
        obtain ⟨_, r2, _⟩ := round_trip _ (write_single_lt (.number s m e)) (single_write_not_nan s m e)
        rw [hw, hd] at r2
        exact r2.symm
      rcases h1 with h1 | h1
      · rw [hni] at h1; cases h1
      · rw [← h1] at hw
        have hcn := single_write_not_nan s m e
        rw [← h1] at hcn
        cases hs : single.read c with
        | nan s' t => rw [hs] at hcn; cases hcn
        | number s' m' e' => rw [hs] at h2 hw; rw [← hw]; exact h2
        | infinity s' => rw [hs] at h2 hw; rw [← hw]; exact h2
    · rw [if_neg hw] at h; cases h
theorem narrow_lt {x c : Nat} (h : narrowF x = some c) : c < 2 ^ 32 := by
  unfold narrowF at h
  split at h
  · cases h
  · split at h
    · cases h; exact write_single_lt _
    · cases h
theorem narrow_nan {x : Nat} (h : (double.read x).isNaN = true) : narrowF x = none := by
  unfold narrowF
  cases hd : double.read x with
  | nan s t => rfl
  | number s m e => rw [hd] at h; cases h
  | infinity s => rw [hd] at h; cases h
/-- back from a float32 that holds a float64 -/
theorem narrow_back {x c y : Nat} (hx : x < 2 ^ 64) (h : narrowF x = some c) (h2 : Wid c y) : y = x := by
  have hn : (double.read x).isNaN = false := by
    cases hd : (double.read x).isNaN
    · rfl
    · rw [narrow_nan hd] at h; cases h
  have h1 : Nar x c := by
    refine ⟨narrow_lt h, ?_⟩
    unfold narrowF at h
    cases hd : double.read x with
    | nan s t => rw [hd] at hn; cases hn
    | infinity s =>
      rw [hd] at h; simp only at h ⊢
      split at h
      · cases h; rfl
      · cases h
    | number s m e =>
      rw [hd] at h; simp only at h ⊢
      split at h
      · cases h; exact .inr rfl
      · cases h
  exact (narrow_key hx hn h1 h2).1.2 (by rw [h]; rfl)

/-! ### whole -/
def fAbs (x : Nat) : Nat := (bits BinOp.andNot IntKind.u64 (↑x) 9223372036854775808).toNat
def fFloor (x : Nat) : Nat := FloatKind.f64.encode ((FloatKind.f64.decode x).integral .down)
def fTrunc (x : Nat) : Nat := FloatKind.f64.encode ((FloatKind.f64.decode x).integral .zero)
/-- a float's whole part (0 where it has none that fits) -/
def fInt (x : Nat) : Int := (floatToIntVal .f64 x .i64).getD 0
/-- as the program asks it -/
def wholeP (x : Nat) (most : Int) : Bool :=
  if (FloatKind.f64.format.order (fAbs x) 4890909195324358656 == some .lt) = true then
    if (FloatKind.f64.format.order x (fFloor x) == some .eq) = true then
      if fInt (fAbs x) ≤ most then !((FloatKind.f64.format.order x 0 == some .eq) && decide (9223372036854775808 ≤ x)) else false
    else false
  else false
/-- as the reference asks it -/
def wholeR (x : Nat) (most : Int) : Bool :=
  if (FloatKind.f64.format.order x 0 == some .eq) = true then x == 0
  else if (FloatKind.f64.format.order x (fTrunc x) != some .eq || (FloatKind.f64.format.order (fAbs x) 4890909195324358656 == some .gt || FloatKind.f64.format.order (fAbs x) 4890909195324358656 == some .eq)) = true then false
  else decide (fInt (fAbs x) ≤ most)
def isInfF (x : Nat) : Bool := FloatKind.f64.format.order (fAbs x) 9218868437227405311 == some .gt

theorem fAbs_eq (x : Nat) (h : x < 2 ^ 64) : fAbs x = x % 2 ^ 63 := by
  unfold fAbs
  have e := u64_andNot_nat x 9223372036854775808 (by omega) (by omega)
  rw [show (9223372036854775808 : Int) = ((9223372036854775808 : Nat) : Int) from rfl, e, Int.toNat_natCast]
  exact Nat.and_two_pow_sub_one_eq_mod x 63

theorem order_num (s t : Bool) (m n : Nat) (i j : Int) : Datum.order (.number s m i) (.number t n j) = some (compare (signed s m (i - min i j).toNat) (signed t n (j - min i j).toNat)) := rfl
theorem signed_zero (s : Bool) (k : Nat) : signed s 0 k = 0 := by unfold signed; cases s <;> simp
theorem signed_eq_zero (s : Bool) (m k : Nat) : signed s m k = 0 ↔ m = 0 := by
  unfold signed
  rw [shl_pow]
  have hp : 0 < 2 ^ k := Nat.two_pow_pos _
  constructor
  · intro h
    have : m * 2 ^ k = 0 := by split at h <;> omega
    rcases Nat.mul_eq_zero.1 this with h1 | h1
    · exact h1
    · omega
  · rintro rfl; simp
theorem signed_inj (s : Bool) (m n k l : Nat) : signed s m k = signed s n l ↔ m * 2 ^ k = n * 2 ^ l := by
  unfold signed
  rw [shl_pow, shl_pow]
  cases s <;> simp only [if_true, if_false, Bool.false_eq_true] <;> omega
theorem cmp_eq (a b : Int) : (some (compare a b) == some Ordering.eq) = decide (a = b) := by
  by_cases h : a = b
  · subst h; simp
  · have : compare a b ≠ .eq := fun e => h (Int.compare_eq_eq.1 e)
    rw [decide_eq_false h]
    cases hc : compare a b with
    | eq => exact absurd hc this
    | lt => rfl
    | gt => rfl
theorem cmp_lt (a b : Int) : (some (compare a b) == some Ordering.lt) = decide (a < b) := by
  by_cases h : a < b
  · rw [decide_eq_true h, Int.compare_eq_lt.2 h]; rfl
  · have : compare a b ≠ .lt := fun e => h (Int.compare_eq_lt.1 e)
    rw [decide_eq_false h]
    cases hc : compare a b with
    | lt => exact absurd hc this
    | eq => rfl
    | gt => rfl

theorem nat_cut_le (way : Toward) (t : Bool) (n drop : Nat) : way.cut t n drop ≤ n / 2 ^ min drop (n.log2 + 2) + 1 := by
  unfold Toward.cut
  simp only [shl_pow, Nat.one_mul]
  have : ∀ b : Bool, b.toNat ≤ 1 := by decide
  exact Nat.add_le_add_left (this _) _

/-- A float that is a number, told by its parts. -/
structure Num (x : Nat) (s : Bool) (m : Nat) (e : Int) : Prop where
  r : FloatKind.f64.format.read x = .number s m e
  a : FloatKind.f64.format.read (fAbs x) = .number false m e
  m1 : m < 2 ^ 53
  e0 : -1074 ≤ e
  e1 : e ≤ 971
  sg : decide (9223372036854775808 ≤ x) = s
  z : m = 0 → x = if s then 9223372036854775808 else 0

theorem num_cases (x : Nat) (h : x < 2 ^ 64) : (∃ s m e, Num x s m e) ∨ (∃ s, FloatKind.f64.format.read x = .infinity s ∧ FloatKind.f64.format.read (fAbs x) = .infinity false) ∨ (∃ s t u, FloatKind.f64.format.read x = .nan s t ∧ FloatKind.f64.format.read (fAbs x) = .nan false u) := by
  obtain ⟨s, r, hr, hx, he⟩ := double_cases x h
  have hx2 : x = (if s then 9223372036854775808 + r else r) := by rw [hx]; unfold Format.word; rw [d_sign]
  have ha : fAbs x = r := by rw [fAbs_eq x h, hx2]; cases s <;> simp <;> omega
  have ha2 : fAbs x = double.word false r := by rw [ha]; rfl
  have hsg : decide (9223372036854775808 ≤ x) = s := by rw [hx2]; cases s <;> simp <;> omega
  have he2 := read_word double false r (by rw [d_sign]; omega)
  rw [← ha2, d_binade, d_inf, d_least] at he2
  by_cases h1 : r < 4503599627370496
  · rw [if_pos h1] at he he2
    exact .inl ⟨s, r, -1074, he, he2, by omega, by omega, by omega, hsg, fun hz => by rw [hx2, hz]⟩
  · rw [if_neg h1] at he he2
    by_cases h2 : r < 9218868437227405312
    · rw [if_pos h2] at he he2
      exact .inl ⟨s, _, _, he, he2, by omega, by omega, by omega, hsg, fun hz => by omega⟩
    · rw [if_neg h2] at he he2
      by_cases h3 : r = 9218868437227405312
      · rw [if_pos h3] at he he2
        exact .inr (.inl ⟨s, he, he2⟩)
      · rw [if_neg h3] at he he2
        exact .inr (.inr ⟨s, _, _, he, he2⟩)

theorem read0 : FloatKind.f64.format.read 0 = .number false 0 (-1074) := by decide +kernel
theorem read63 : FloatKind.f64.format.read 4890909195324358656 = .number false 4503599627370496 11 := by decide +kernel
theorem readMax : FloatKind.f64.format.read 9218868437227405311 = .number false 9007199254740991 971 := by decide +kernel

section
variable {x : Nat} {s : Bool} {m : Nat} {e : Int} (h : Num x s m e)
include h
theorem eq0_num : (FloatKind.f64.format.order x 0 == some .eq) = decide (m = 0) := by
  unfold Format.order
  rw [h.r, read0, order_num, cmp_eq, signed_zero]
  congr 1
  exact propext (signed_eq_zero s m _)
theorem inf_num : isInfF x = false := by
  unfold isInfF Format.order
  rw [h.a, readMax, order_num]
  have hm := h.m1
  have he := h.e1
  have hb : min e 971 = e := by omega
  rw [hb, Int.sub_self, signed, signed, shl_pow, shl_pow]
  simp only [Bool.false_eq_true, if_false]
  have : ¬ (9007199254740991 * 2 ^ (971 - e).toNat < m * 2 ^ (0 : Int).toNat) := by
    have : 1 ≤ 2 ^ (971 - e).toNat := Nat.two_pow_pos _
    have e0 : (0 : Int).toNat = 0 := rfl
    rw [e0, Nat.pow_zero, Nat.mul_one]
    have : 9007199254740991 * 1 ≤ 9007199254740991 * 2 ^ (971 - e).toNat := Nat.mul_le_mul_left _ this
    omega
  cases hc : compare ((m * 2 ^ (0 : Int).toNat : Nat) : Int) ((9007199254740991 * 2 ^ (971 - e).toNat : Nat) : Int) with
  | lt => rfl
  | eq => rfl
  | gt =>
    have := Int.compare_eq_gt.1 hc
    omega

/-- below 2^63? -/
def lt63 (m : Nat) (e : Int) : Bool := decide (signed false m (e - min e 11).toNat < signed false 4503599627370496 (11 - min e 11).toNat)
theorem lt_num : (FloatKind.f64.format.order (fAbs x) 4890909195324358656 == some .lt) = lt63 m e := by
  unfold Format.order
  rw [h.a, read63, order_num, cmp_lt]
  rfl
theorem ge_num : (FloatKind.f64.format.order (fAbs x) 4890909195324358656 == some .gt || FloatKind.f64.format.order (fAbs x) 4890909195324358656 == some .eq) = !(lt63 m e) := by
  have := lt_num h
  rw [← this]
  cases hc : FloatKind.f64.format.order (fAbs x) 4890909195324358656 with
  | none =>
    unfold Format.order at hc
    rw [h.a, read63, order_num] at hc
    cases hc
  | some o => cases o <;> rfl

/-- Cut towards zero, the number is below 2^63. -/
theorem cut_num (hl : lt63 m e = true) (t : Bool) : Toward.zero.cut t (m <<< e.toNat) (-e).toNat < 9223372036854775808 := by
  have hm := h.m1
  have e0 := h.e0
  have hc : Toward.zero.cut t (m <<< e.toNat) (-e).toNat ≤ m <<< e.toNat := by
    unfold Toward.cut
    simp only [Bool.toNat_false, Nat.add_zero]
    exact Nat.div_le_self _ _
  refine Nat.lt_of_le_of_lt hc ?_
  rw [shl_pow]
  have hl2 := of_decide_eq_true hl
  simp only [signed, shl_pow, Bool.false_eq_true, if_false] at hl2
  by_cases h1 : e ≤ 0
  · have : e.toNat = 0 := by omega
    rw [this, Nat.pow_zero]; omega
  · by_cases h2 : e ≤ 11
    · have hb : min e 11 = e := by omega
      rw [hb, Int.sub_self] at hl2
      have e1 : (0 : Int).toNat = 0 := rfl
      rw [e1, Nat.pow_zero, Nat.mul_one] at hl2
      have hl3 : m < 4503599627370496 * 2 ^ (11 - e).toNat := by omega
      have e2 : 4503599627370496 * 2 ^ (11 - e).toNat * 2 ^ e.toNat = 9223372036854775808 := by
        rw [Nat.mul_assoc, ← Nat.pow_add, show (11 - e).toNat + e.toNat = 11 by omega]
      rw [← e2]
      exact Nat.mul_lt_mul_of_pos_right hl3 (Nat.two_pow_pos _)
    · have hb : min e 11 = 11 := by omega
      rw [hb, Int.sub_self] at hl2
      have e1 : (0 : Int).toNat = 0 := rfl
      rw [e1, Nat.pow_zero, Nat.mul_one] at hl2
      have hl3 : m * 2 ^ (e - 11).toNat < 4503599627370496 := by omega
      have e2 : m * 2 ^ e.toNat = m * 2 ^ (e - 11).toNat * 2 ^ 11 := by
        rw [Nat.mul_assoc, ← Nat.pow_add, show (e - 11).toNat + 11 = e.toNat by omega]
      rw [e2]
      omega
theorem toIntVal_abs (hl : lt63 m e = true) : floatToIntVal .f64 (fAbs x) .i64 = some (Toward.zero.cut false (m <<< e.toNat) (-e).toNat : Nat) := by
  have hc := cut_num h hl false
  unfold floatToIntVal FloatKind.decode
  rw [h.a]
  simp only [Datum.toInt, Datum.integral, signed, shl_pow, Nat.pow_zero, Nat.mul_one, Bool.false_eq_true, if_false]
  rw [shl_pow] at hc
  exact if_pos ⟨by simp [IntKind.min, IntKind.signed, IntKind.bits] <;> omega, by simp [IntKind.max, IntKind.signed, IntKind.bits] <;> omega⟩
theorem toIntVal_num (hl : lt63 m e = true) : floatToIntVal .f64 x .i64 = some (if s = true then -((Toward.zero.cut false (m <<< e.toNat) (-e).toNat : Nat) : Int) else ((Toward.zero.cut false (m <<< e.toNat) (-e).toNat : Nat) : Int)) := by
  have hc := cut_num h hl false
  have hz : ∀ n d, Toward.zero.cut s n d = Toward.zero.cut false n d := fun _ _ => rfl
  unfold floatToIntVal FloatKind.decode
  rw [h.r]
  simp only [Datum.toInt, Datum.integral, signed, shl_pow, Nat.pow_zero, Nat.mul_one, hz]
  rw [shl_pow] at hc
  refine if_pos ⟨?_, ?_⟩
  · cases s <;> simp [IntKind.min, IntKind.signed, IntKind.bits] <;> omega
  · cases s <;> simp [IntKind.max, IntKind.signed, IntKind.bits] <;> omega
theorem fInt_abs (hl : lt63 m e = true) : fInt (fAbs x) = (Toward.zero.cut false (m <<< e.toNat) (-e).toNat : Nat) := by
  unfold fInt; rw [toIntVal_abs h hl]; rfl

/-- A number that is not whole parts from every small whole number. -/
theorem not_int (hm : m ≠ 0) (he : e < 0) (hr : m % 2 ^ (-e).toNat ≠ 0) (K : Nat) (hK : K < 2 ^ 53) : (FloatKind.f64.format.order x (FloatKind.f64.encode (.number s K 0)) == some .eq) = false := by
  unfold Format.order FloatKind.encode
  rw [h.r]
  show (Datum.order (.number s m e) (double.read (double.write (.number s K 0))) == some .eq) = false
  by_cases hK0 : K = 0
  · subst hK0
    rw [read_write_zero, order_num, cmp_eq, decide_eq_false_iff_not, signed_zero, signed_eq_zero]
    exact hm
  · have hL := log2_lt_of hK0 hK
    rw [read_write_int s K hK0 hK, order_num, cmp_eq, decide_eq_false_iff_not, signed_inj]
    intro hq
    apply hr
    -- both sides at the lower of the two places
    have hb : min e ((K.log2 : Int) - 52) ≤ e := by omega
    have hb2 : min e ((K.log2 : Int) - 52) ≤ (K.log2 : Int) - 52 := by omega
    rw [Nat.mul_assoc, ← Nat.pow_add, show (52 - K.log2) + ((K.log2 : Int) - 52 - min e ((K.log2 : Int) - 52)).toNat = (e - min e ((K.log2 : Int) - 52)).toNat + (-e).toNat by omega, Nat.pow_add,
      ← Nat.mul_assoc, Nat.mul_right_comm] at hq
    have hp : 0 < 2 ^ (e - min e ((K.log2 : Int) - 52)).toNat := Nat.two_pow_pos _
    have := Nat.eq_of_mul_eq_mul_right hp hq
    rw [this]
    exact Nat.mul_mod_left _ _

/-- Down or towards zero: a number is its own whole part by both, or by none. -/
theorem floor_trunc (hm : m ≠ 0) : (FloatKind.f64.format.order x (fFloor x) == some .eq) = (FloatKind.f64.format.order x (fTrunc x) == some .eq) := by
  have h53 := h.m1
  unfold fFloor fTrunc FloatKind.decode
  rw [h.r]
  simp only [Datum.integral]
  by_cases he : 0 ≤ e
  · have hd : (-e).toNat = 0 := by omega
    have hk : 1 ≤ m <<< e.toNat := by rw [shl_pow]; exact Nat.mul_pos (Nat.pos_of_ne_zero hm) (Nat.two_pow_pos _)
    have c1 := cut_exact .down s (m <<< e.toNat) 0 hk
    have c2 := cut_exact .zero s (m <<< e.toNat) 0 hk
    rw [Nat.pow_zero, Nat.mul_one] at c1 c2
    rw [hd, c1, c2]
  · have hen : e.toNat = 0 := by omega
    rw [hen, shl_pow, Nat.pow_zero, Nat.mul_one]
    cases s with
    | false => rfl
    | true =>
      by_cases hr : m % 2 ^ (-e).toNat = 0
      · have hk : m = m / 2 ^ (-e).toNat * 2 ^ (-e).toNat := (Nat.div_mul_cancel (Nat.dvd_of_mod_eq_zero hr)).symm
        have hk1 : 1 ≤ m / 2 ^ (-e).toNat := by
          rcases Nat.eq_zero_or_pos (m / 2 ^ (-e).toNat) with h0 | h0
          · rw [h0, Nat.zero_mul] at hk; exact absurd hk hm
          · exact h0
        have c1 := cut_exact .down true (m / 2 ^ (-e).toNat) (-e).toNat hk1
        have c2 := cut_exact .zero true (m / 2 ^ (-e).toNat) (-e).toNat hk1
        rw [← hk] at c1 c2
        rw [c1, c2]
      · have b : ∀ way : Toward, way.cut true m (-e).toNat < 2 ^ 53 := by
          intro way
          have h1 := nat_cut_le way true m (-e).toNat
          have h2 : 1 ≤ min (-e).toNat (m.log2 + 2) := by omega
          have h3 : 2 ^ 1 ≤ 2 ^ min (-e).toNat (m.log2 + 2) := Nat.pow_le_pow_right (by omega) h2
          have h4 : m / 2 ^ min (-e).toNat (m.log2 + 2) ≤ m / 2 ^ 1 := Nat.div_le_div_left h3 (by omega)
          omega
        rw [not_int h hm (by omega) hr _ (b .down), not_int h hm (by omega) hr _ (b .zero)]

theorem whole_num (most : Int) (h0 : 0 ≤ most) : wholeP x most = (!isInfF x && wholeR x most) := by
  unfold wholeP wholeR
  rw [inf_num h, eq0_num h, lt_num h, ge_num h, h.sg]
  by_cases hm : m = 0
  · subst hm
    have hl : lt63 0 e = true := by
      refine decide_eq_true ?_
      rw [signed_zero]
      simp only [signed, shl_pow, Bool.false_eq_true, if_false]
      have : 0 < 2 ^ (11 - min e 11).toNat := Nat.two_pow_pos _
      omega
    have hf : (FloatKind.f64.format.order x (fFloor x) == some .eq) = true := by
      unfold fFloor FloatKind.decode
      rw [h.r]
      have hc : Toward.down.cut s (0 <<< e.toNat) (-e).toNat = 0 := by
        unfold Toward.cut
        simp
      simp only [Datum.integral, hc]
      unfold Format.order FloatKind.encode
      rw [h.r]
      show (Datum.order (.number s 0 e) (double.read (double.write (.number s 0 0))) == some .eq) = true
      rw [read_write_zero, order_num, cmp_eq, signed_zero, signed_zero]
      rfl
    have hi : fInt (fAbs x) = 0 := by
      rw [fInt_abs h hl]
      unfold Toward.cut
      simp
    rw [hl, if_pos rfl, if_pos hf, hi, if_pos h0, if_pos (decide_eq_true rfl), h.z rfl]
    cases s <;> rfl
  · rw [floor_trunc h hm]
    cases lt63 m e <;> cases hq : (FloatKind.f64.format.order x (fTrunc x) == some .eq) <;> simp [hm, hq, bne]
    all_goals (split <;> simp_all)
end

/-- what stands behind the program's first test -/
theorem below_num {x : Nat} (hx : x < 2 ^ 64) (h : (FloatKind.f64.format.order (fAbs x) 4890909195324358656 == some .lt) = true) : ∃ s m e, Num x s m e ∧ lt63 m e = true := by
  rcases num_cases x hx with ⟨s, m, e, hn⟩ | ⟨s, h1, h2⟩ | ⟨s, t, u, h1, h2⟩
  · exact ⟨s, m, e, hn, by rw [← lt_num hn]; exact h⟩
  · unfold Format.order at h
    rw [h2, read63] at h; cases h
  · unfold Format.order at h
    rw [h2] at h; cases h
theorem below_facts {x : Nat} (hx : x < 2 ^ 64) (h : (FloatKind.f64.format.order (fAbs x) 4890909195324358656 == some .lt) = true) :
    (FloatKind.f64.decode x).isNaN = false ∧ floatToIntVal .f64 (fAbs x) .i64 = some (fInt (fAbs x)) := by
  obtain ⟨s, m, e, hn, hl⟩ := below_num hx h
  refine ⟨?_, ?_⟩
  · unfold FloatKind.decode; rw [hn.r]; rfl
  · rw [fInt_abs hn hl]; exact toIntVal_abs hn hl
/-- A whole float's whole number. -/
theorem whole_int {x : Nat} (hx : x < 2 ^ 64) {most : Int} (h : wholeP x most = true) : floatToIntVal .f64 x .i64 = some (fInt x) ∧ -most ≤ fInt x ∧ fInt x ≤ most := by
  unfold wholeP at h
  split at h
  · rename_i h1
    split at h
    · split at h
      · rename_i h3
        obtain ⟨s, m, e, hn, hl⟩ := below_num hx h1
        have h4 := toIntVal_num hn hl
        rw [fInt_abs hn hl] at h3
        have h5 : fInt x = (if s = true then -((Toward.zero.cut false (m <<< e.toNat) (-e).toNat : Nat) : Int) else ((Toward.zero.cut false (m <<< e.toNat) (-e).toNat : Nat) : Int)) := by unfold fInt; rw [h4]; rfl
        refine ⟨by rw [h5]; exact h4, ?_, ?_⟩ <;> rw [h5] <;> split <;> omega
      · cases h
    · cases h
  · cases h
theorem ref_finite {x : Nat} (hx : x < 2 ^ 64) (h : (FloatKind.f64.format.order x (fTrunc x) != some .eq || (FloatKind.f64.format.order (fAbs x) 4890909195324358656 == some .gt || FloatKind.f64.format.order (fAbs x) 4890909195324358656 == some .eq)) = false) : floatToIntVal .f64 (fAbs x) .i64 = some (fInt (fAbs x)) := by
  rw [Bool.or_eq_false_iff] at h
  obtain ⟨ha, hb⟩ := h
  rcases num_cases x hx with ⟨s, m, e, hn⟩ | ⟨s, h1, h2⟩ | ⟨s, t, u, h1, h2⟩
  · rw [ge_num hn] at hb
    have hl : lt63 m e = true := by simpa using hb
    rw [fInt_abs hn hl]; exact toIntVal_abs hn hl
  · unfold Format.order at hb
    rw [h2, read63] at hb; cases hb
  · unfold Format.order at ha
    rw [h1] at ha; cases ha

theorem whole_eq (x : Nat) (hx : x < 2 ^ 64) (most : Int) (h0 : 0 ≤ most) : wholeP x most = (!isInfF x && wholeR x most) := by
  rcases num_cases x hx with ⟨s, m, e, h⟩ | ⟨s, h1, h2⟩ | ⟨s, t, u, h1, h2⟩
  · exact whole_num h most h0
  · have hi : isInfF x = true := by
      unfold isInfF Format.order
      rw [h2, readMax]; rfl
    have hl : (FloatKind.f64.format.order (fAbs x) 4890909195324358656 == some .lt) = false := by
      unfold Format.order
      rw [h2, read63]; rfl
    unfold wholeP
    rw [hi, hl]; rfl
  · have hl : (FloatKind.f64.format.order (fAbs x) 4890909195324358656 == some .lt) = false := by
      unfold Format.order
      rw [h2]; rfl
    have ha : ∀ y, FloatKind.f64.format.order x y = none := fun y => by
      unfold Format.order
      rw [h1]; rfl
    unfold wholeP wholeR
    rw [hl]
    simp [ha]
end Go.Proofs.Ytomildjihlbbmaa.Flt
