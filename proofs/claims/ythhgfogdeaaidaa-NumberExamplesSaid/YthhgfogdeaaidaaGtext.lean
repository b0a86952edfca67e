/- Plain: decimal texts: what Text and Parse answer, the program's and the reference's. -/
import Derived.Test.YthhgfogdeaaidaaR0
import Derived.Test.YthhgfogdeaaidaaR7
import Derived.Test.YthhgfogdeaaidaaR9
import Derived.Test.YthhgfogdeaaidaaR10
import Derived.Test.YthhgfogdeaaidaaR12
import Derived.Test.YthhgfogdeaaidaaGapi
namespace Go.Proofs.Ythhgfogdeaaidaa.R
open Go.RowKit Go.Proofs.YthhgfogdeaaidaaW.PrintWords Go.Proofs.YthhgfogdeaaidaaW.PrintLast Go.Proofs.YthhgfogdeaaidaaW.PrintMore
set_option linter.unusedVariables false
set_option linter.unusedSimpArgs false
/-! ### the decimal digits of a number, the lowest first, as bytes -/
def decF : Nat → Nat → List Int
  | 0, _ => []
  | f + 1, x => ((48 + x % 10 : Nat) : Int) :: (if x / 10 = 0 then [] else decF f (x / 10))
def dec (x : Nat) : List Int := decF (x + 1) x
theorem decF_more : ∀ (f g x : Nat), x < f → x < g → decF f x = decF g x
  | 0, g, x, hf, _ => by omega
  | f + 1, 0, x, _, hg => by omega
  | f + 1, g + 1, x, hf, hg => by
    simp only [decF]
    split
    · rfl
    · rw [decF_more f g (x / 10) (by omega) (by omega)]
theorem dec_eq (x : Nat) : dec x = ((48 + x % 10 : Nat) : Int) :: (if x / 10 = 0 then [] else dec (x / 10)) := by
  show decF (x + 1) x = _
  rw [decF]
  split
  · rfl
  · rw [decF_more x (x / 10 + 1) (x / 10) (by omega) (by omega)]
    rfl
theorem dec_len : ∀ (n x : Nat), x < 10 ^ n → (dec x).length ≤ n + 1
  | 0, x, h => by
    obtain rfl : x = 0 := by simpa using h
    decide
  | n + 1, x, h => by
    rw [dec_eq]
    split
    · simp
    · have := dec_len n (x / 10) (by rw [Nat.pow_succ] at h; omega)
      simpa using this
/-! ### reversed -/
theorem rev_l0 (l : List Int) (hl : l.length < 4611686018427387904) : ∀ (d i k : Nat) (u : List Int), l.length - i = d → d < k → u.length = l.length → 2 * i ≤ l.length + 1 →
    (∀ m : Nat, m < l.length → u[m]? = if m < i ∨ l.length - 1 - i < m then l[l.length - 1 - m]? else l[m]?) →
    slices_Reverse_byte_byte.l0 k u (i : Int) ((l.length : Int) - 1 - (i : Int)) = some l.reverse
  | d, i, k, u, hd, hk, hu, hi, h => by
    obtain ⟨k, rfl⟩ : ∃ m, k = m + 1 := ⟨k - 1, by omega⟩
    simp only [slices_Reverse_byte_byte.l0]
    by_cases hlt : (i : Int) < (l.length : Int) - 1 - (i : Int)
    · obtain ⟨j, hj⟩ : ∃ j : Nat, l.length - 1 - i = j := ⟨_, rfl⟩
      have ej : (l.length : Int) - 1 - (i : Int) = (j : Int) := by omega
      rw [ej] at hlt ⊢
      rw [if_pos hlt, if_pos (show (0 : Int) ≤ (j : Int) by omega), if_pos (show (j : Int) < (u.length : Int) by omega), if_pos (show (0 : Int) ≤ (i : Int) by omega), if_pos (show (i : Int) < (u.length : Int) by omega), w64n i (by omega), w64 ((j : Int) - 1) (by omega) (by omega), show (j : Int) - 1 = (l.length : Int) - 1 - ((i + 1 : Nat) : Int) by omega, Int.toNat_natCast, Int.toNat_natCast]
      have hui : rd u (i : Int) = rd l (i : Int) := by
        have := h i (by omega)
        rw [if_neg (by omega)] at this
        unfold rd
        rw [Int.toNat_natCast, List.getD_eq_getElem?_getD, List.getD_eq_getElem?_getD, this]
      have huj : rd u (j : Int) = rd l (j : Int) := by
        have := h j (by omega)
        rw [if_neg (by omega)] at this
        unfold rd
        rw [Int.toNat_natCast, List.getD_eq_getElem?_getD, List.getD_eq_getElem?_getD, this]
      refine rev_l0 l hl (d - 1) (i + 1) k _ (by omega) (by omega) (by simp [hu]) (by omega) (fun m hm => ?_)
      rw [hui, huj, rd_nat l i (by omega), rd_nat l j (by omega)]
      by_cases h1 : m = j
      · subst h1
        rw [List.getElem?_set_self (by simp; omega), if_pos (by omega), show l.length - 1 - m = i by omega, List.getElem?_eq_getElem (by omega)]
      · rw [List.getElem?_set_ne (by omega)]
        by_cases h2 : m = i
        · subst h2
          rw [List.getElem?_set_self (by omega), if_pos (by omega), show l.length - 1 - m = j by omega, List.getElem?_eq_getElem (by omega)]
        · rw [List.getElem?_set_ne (by omega), h m hm]
          by_cases h3 : m < i ∨ l.length - 1 - i < m
          · rw [if_pos h3, if_pos (by omega)]
          · rw [if_neg h3, if_neg (by omega)]
    · rw [if_neg hlt]
      congr 1
      apply List.ext_getElem?
      intro m
      by_cases hm : m < l.length
      · rw [h m hm, List.getElem?_reverse hm]
        by_cases h3 : m < i ∨ l.length - 1 - i < m
        · rw [if_pos h3]
        · rw [if_neg h3, show l.length - 1 - m = m by omega]
      · rw [List.getElem?_eq_none (by omega), List.getElem?_eq_none (by simp; omega)]
  termination_by d => d
  decreasing_by omega
theorem rev_f (l : List Int) (k : Nat) (hl : l.length < 4611686018427387904) (hk : l.length < k) : slices_Reverse_byte_byte.f k l = some l.reverse := by
  unfold slices_Reverse_byte_byte.f
  rw [w64 _ (by omega) (by omega)]
  have := rev_l0 l hl l.length 0 k l rfl hk rfl (by omega) (fun m hm => by rw [if_neg (by omega)])
  simpa using this
/-! ### Text -/
def txt (x : Nat) : ByteArray := strOfNums (dec x).reverse
def textS (a : List Int) : ByteArray × Int := if numOk a = true then (txt (val a), 0) else (⟨#[]⟩, 8)
theorem ten_digs : ([10] : List Int) = digs 10 := by decide
theorem small_digit (x : Nat) (h : x < 4294967296) : rd (digs x) 0 = (x : Int) := by
  have := rd_val (Dig.digs x) 0
  rw [val_digs, Nat.pow_zero, Nat.div_one, Nat.mod_eq_of_lt h] at this
  exact this
theorem digs_len_zero (x : Nat) : ((digs x).length : Int) = 0 ↔ x = 0 := by
  constructor
  · intro e
    exact digs_nil.1 (List.length_eq_zero_iff.1 (by omega))
  · intro e
    rw [e]
    rfl
theorem Text_l0 : ∀ (f x k : Nat) (acc : List Int), x < f → (digs x).length ≤ 16 → acc.length + (dec x).length < 1000 → x + 1100 < k → number_Text.l0 k (digs x) acc = some (strOfNums (acc ++ dec x).reverse, 0)
  | 0, x, k, acc, hf, hx, hl, hk => by omega
  | f + 1, x, k, acc, hf, hx, hl, hk => by
    obtain ⟨k, rfl⟩ : ∃ m, k = m + 1 := ⟨k - 1, by omega⟩
    have hd := dec_eq x
    have h10 : (digs 10).length ≤ 1 := by decide
    simp only [number_Text.l0]
    rw [ten_digs, parted_f x 10 (by decide) (by omega) (by omega), Option.bind_some, show (0 : Int) = ((0 : Nat) : Int) from rfl, digit_f (Dig.digs _) _ (by omega), Option.bind_some, if_pos (by omega), Option.bind_some]
    rw [show ((0 : Nat) : Int) = 0 from rfl, small_digit _ (by omega), show ((48 : Int) + ((x % 10 : Nat) : Int)) % 256 = ((48 + x % 10 : Nat) : Int) by omega]
    by_cases h0 : x / 10 = 0
    · rw [if_pos h0] at hd
      rw [if_pos ((digs_len_zero _).2 h0), hd, rev_f _ _ (by rw [hd] at hl; simp at hl ⊢; omega) (by rw [hd] at hl; simp at hl ⊢; omega), Option.bind_some]
    · rw [if_neg h0] at hd
      rw [hd] at hl
      rw [if_neg (fun e => h0 ((digs_len_zero _).1 e)), Text_l0 f (x / 10) k _ (by omega) (Nat.le_trans (digs_length_mono (Nat.div_le_self _ _)) hx) (by simp at hl ⊢; omega) (by omega), hd, List.append_assoc, List.singleton_append]
theorem val_lt16 {a : List Int} (ha : Dig a) (h : numOk a = true) : val a < 10 ^ 155 := by
  have h1 := val_lt_pow ha (numOk_len h)
  have h2 : 4294967296 ^ 16 ≤ 10 ^ 155 := by decide
  exact Nat.lt_of_lt_of_le h1 h2
theorem number_Text_f {a : List Int} (ha : Dig a) (k : Nat) (hk : val a + 1100 < k) : number_Text.f k a = some (textS a) := by
  unfold number_Text.f textS
  rw [valid1_f, Option.bind_some]
  by_cases h : numOk a = true
  · rw [if_pos h, if_pos h]
    have hl := dec_len 155 (val a) (val_lt16 ha h)
    have := Text_l0 (val a + 1) (val a) k [] (by omega) (by rw [← numOk_as ha h]; exact numOk_len h) (by simp; omega) hk
    rw [← numOk_as ha h, List.nil_append] at this
    exact this
  · rw [if_neg h, if_neg h]
/-! ### Parse -/
/-- the value of the first i bytes as decimal digits -/
def pv (s : ByteArray) : Nat → Nat
  | 0 => 0
  | i + 1 => pv s i * 10 + (bt s (i : Int) - 48).toNat
theorem pv_mono (s : ByteArray) (i : Nat) : ∀ d, pv s i ≤ pv s (i + d)
  | 0 => Nat.le_refl _
  | d + 1 => by
    have := pv_mono s i d
    show pv s i ≤ pv s (i + d) * 10 + _
    omega
/-- only decimal digits -/
def allDig (s : ByteArray) : Prop := ∀ i : Nat, i < s.size → 48 ≤ bt s (i : Int) ∧ bt s (i : Int) ≤ 57
instance (s : ByteArray) : Decidable (allDig s) := Nat.decidableBallLT _ _
def lead (s : ByteArray) : Prop := s.size = 0 ∨ (1 < s.size ∧ bt s 0 = 48)
instance (s : ByteArray) : Decidable (lead s) := inferInstanceAs (Decidable (_ ∨ _))
def parseS (s : ByteArray) : List Int × Int := if lead s ∨ ¬ allDig s then ([], 12) else limN (digs (pv s s.size))
theorem limN_big {x y : Nat} (h : x ≤ y) (hx : 16 < (digs x).length) : limN (digs y) = ([], 4) := by
  have := digs_length_mono h
  unfold limN
  rw [if_neg (by omega)]
theorem parse_digit {s : ByteArray} {i : Nat} (hs : allDig s) (hi : i < s.size) : ∃ c : Nat, (bt s (i : Int) - 48) % 256 = (c : Int) ∧ c < 10 ∧ (bt s (i : Int) - 48).toNat = c := by
  have := hs i hi
  exact ⟨(bt s (i : Int) - 48).toNat, by omega, by omega, rfl⟩
theorem Parse_l1 (s : ByteArray) (hs : allDig s) (hb : s.size < 4611686018427387904) : ∀ (d i k : Nat), s.size - i = d → i ≤ s.size → d + 200 < k → (digs (pv s i)).length ≤ 16 → number_Parse.l1 k s (digs (pv s i)) (s.size : Int) (i : Int) = some (limN (digs (pv s s.size)))
  | 0, i, k, hd, hi, hk, hl => by
    obtain ⟨k, rfl⟩ : ∃ m, k = m + 1 := ⟨k - 1, by omega⟩
    obtain rfl : i = s.size := by omega
    simp only [number_Parse.l1]
    rw [if_neg (by omega), limited_f, Option.bind_some]
  | d + 1, i, k, hd, hi, hk, hl => by
    obtain ⟨k, rfl⟩ : ∃ m, k = m + 1 := ⟨k - 1, by omega⟩
    obtain ⟨c, e1, hc, e2⟩ := parse_digit hs (show i < s.size by omega)
    have h10 : (digs 10).length ≤ 1 := by decide
    have hpr : (digs (pv s i)).length * ((digs 10).length + 2) ≤ 16 * 3 := Nat.mul_le_mul hl (by omega)
    have hlp : (digs (pv s i * 10)).length ≤ 17 := by
      apply digs_length_le
      have h1 := val_lt_pow (Dig.digs (pv s i)) hl
      rw [val_digs] at h1
      rw [Nat.pow_succ]
      omega
    have hlc : (digs c).length ≤ 1 := digs_length_le _ _ (by omega)
    have hpv : pv s (i + 1) = pv s i * 10 + c := by rw [← e2]; rfl
    simp only [number_Parse.l1]
    rw [if_pos (show (i : Int) < (s.size : Int) by omega), ten_digs, times_f (Dig.digs _) (Dig.digs _) k (by omega) (by omega) (by omega), Option.bind_some, if_pos (show (0 : Int) ≤ (i : Int) by omega), if_pos (show (i : Int) < (s.size : Int) by omega), e1, number_Of_f c k (by omega) (by omega), Option.bind_some, val_digs, val_digs, plus_f (Dig.digs _) (Dig.digs _) k (by omega) (by omega) (by omega), Option.bind_some, val_digs, val_digs, ← hpv, w64n i (by omega)]
    by_cases h : 16 < (digs (pv s (i + 1))).length
    · rw [if_pos (by omega), limited_f, Option.bind_some, limN_big (Nat.le_refl _) h]
      obtain ⟨m, hm⟩ : ∃ m, s.size = i + 1 + m := ⟨s.size - (i + 1), by omega⟩
      have := pv_mono s (i + 1) m
      rw [← hm] at this
      rw [limN_big this h]
    · rw [if_neg (by omega)]
      exact Parse_l1 s hs hb d (i + 1) k (by omega) (by omega) (by omega) (by omega)
theorem Parse_l0 (s : ByteArray) (hb : s.size < 4611686018427387904) : ∀ (d i k : Nat), s.size - i = d → i ≤ s.size → s.size + d + 300 < k → (∀ j : Nat, j < i → 48 ≤ bt s (j : Int) ∧ bt s (j : Int) ≤ 57) →
    number_Parse.l0 k s (s.size : Int) (i : Int) = some (if allDig s then limN (digs (pv s s.size)) else ([], 12))
  | 0, i, k, hd, hi, hk, h => by
    obtain ⟨k, rfl⟩ : ∃ m, k = m + 1 := ⟨k - 1, by omega⟩
    obtain rfl : i = s.size := by omega
    have hs : allDig s := h
    simp only [number_Parse.l0]
    rw [if_neg (by omega), if_pos hs]
    exact Parse_l1 s hs hb s.size 0 k rfl (by omega) (by omega) (by show (digs 0).length ≤ 16; decide)
  | d + 1, i, k, hd, hi, hk, h => by
    obtain ⟨k, rfl⟩ : ∃ m, k = m + 1 := ⟨k - 1, by omega⟩
    simp only [number_Parse.l0]
    rw [if_pos (show (i : Int) < (s.size : Int) by omega), if_pos (show (0 : Int) ≤ (i : Int) by omega), if_pos (show (i : Int) < (s.size : Int) by omega), w64n i (by omega)]
    by_cases h1 : bt s (i : Int) < 48
    · rw [if_pos h1, if_neg (fun hs => by have := hs i (by omega); omega)]
    · by_cases h2 : bt s (i : Int) > 57
      · rw [if_neg h1, if_pos h2, if_neg (fun hs => by have := hs i (by omega); omega)]
      · rw [if_neg h1, if_neg h2]
        exact Parse_l0 s hb d (i + 1) k (by omega) (by omega) (by omega) (fun j hj => by
          by_cases e : j = i
          · subst e; omega
          · exact h j (by omega))
theorem ite_out {p q : Prop} [Decidable p] [Decidable q] {α : Type} {a b : α} (h : ¬ p) : (if p ∨ ¬ q then a else b) = if q then b else a := by
  by_cases hq : q
  · rw [if_neg (fun e => e.elim h (fun e => e hq)), if_pos hq]
  · rw [if_pos (.inr hq), if_neg hq]
theorem size_list (s : ByteArray) : s.toList = [] ↔ s.size = 0 := by
  constructor
  · intro h
    have := congrArg List.length h
    rw [ByteArray.toList_eq] at this
    simpa using this
  · intro h
    have : s.data.size = 0 := h
    rw [ByteArray.toList_eq]
    exact List.length_eq_zero_iff.1 (by simpa using this)
theorem number_Parse_f (s : ByteArray) (hb : s.size < 4611686018427387904) (k : Nat) (hk : 2 * s.size + 400 < k) : number_Parse.f k s = some (parseS s) := by
  obtain ⟨k, rfl⟩ : ∃ m, k = m + 1 := ⟨k - 1, by omega⟩
  have h0 := Parse_l0 s hb s.size 0 k rfl (by omega) (by omega) (fun j hj => by omega)
  unfold number_Parse.f parseS
  simp only [number_Parse.j0]
  by_cases h : s.size = 0
  · rw [if_pos ((size_list s).2 h), if_pos trivial, if_pos (.inl (.inl h))]
  · rw [if_neg (fun e => h ((size_list s).1 e))]
    by_cases h1 : 1 < s.size
    · rw [if_pos (show (s.size : Int) > 1 by omega), if_pos (show (0 : Int) < (s.size : Int) by omega)]
      by_cases h2 : bt s 0 = 48
      · rw [if_pos (by rw [h2]; rfl), if_pos (.inl (.inr ⟨h1, h2⟩))]
      · rw [if_neg (by simpa using h2), ite_out (fun e => e.elim h (fun e => h2 e.2))]
        exact h0
    · rw [if_neg (show ¬ (s.size : Int) > 1 by omega), if_neg (by decide), ite_out (fun e => e.elim h (fun e => h1 e.1))]
      exact h0
end Go.Proofs.Ythhgfogdeaaidaa.R

