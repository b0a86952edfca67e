/- NumberTextBack, the plain law: Text and Parse are inverse. -/
import Derived.Test.YthhgfogdeaaidaaR25
import Derived.Test.YthhgfogdeaaidaaGval
namespace Go.Proofs.Ythhgfogdeaaidaa.Pure
open Go.RowKit Go.Proofs.Ythhgfogdeaaidaa.R Go.Proofs.YthhgfogdeaaidaaW.PrintWords Go.Proofs.YthhgfogdeaaidaaW.PrintLast
theorem bytes_str (l : List Int) (h : ∀ c ∈ l, (0 : Int) ≤ c ∧ c < 256) : bytesOf (strOfNums l) = l := by
  unfold bytesOf strOfNums
  simp only [List.map_map]
  conv => rhs; rw [← List.map_id l]
  apply List.map_congr_left
  intro c hc
  have := h c hc
  simp
  omega
theorem str_bytes (s : ByteArray) : strOfNums (bytesOf s) = s := by
  cases s with
  | mk d =>
    have h : ∀ l : List UInt8, l.map ((fun n : Int => UInt8.ofNat n.toNat) ∘ fun x : UInt8 => (x.toNat : Int)) = l := by
      intro l
      induction l with
      | nil => rfl
      | cons x r ih => simp [ih]
    simp [strOfNums, bytesOf, h]
theorem bt_str (l : List Int) (h : ∀ c ∈ l, (0 : Int) ≤ c ∧ c < 256) (i : Nat) : bt (strOfNums l) (i : Int) = rd l (i : Int) := by
  rw [← rd_bytesOf, bytes_str l h]
def pvL (l : List Int) : Nat := l.foldl (fun v c => v * 10 + (c - 48).toNat) 0
theorem pvL_snoc (l : List Int) (c : Int) : pvL (l ++ [c]) = pvL l * 10 + (c - 48).toNat := by simp [pvL]
theorem pv_list (s : ByteArray) : ∀ i, i ≤ s.size → pv s i = pvL ((bytesOf s).take i)
  | 0, _ => rfl
  | i + 1, h => by
    have hl : i < (bytesOf s).length := by rw [bytesOf_length]; omega
    rw [pv, pv_list s i (by omega), List.take_succ_eq_append_getElem hl, pvL_snoc, ← rd_bytesOf, rd_nat _ _ hl]
theorem pv_all (s : ByteArray) : pv s s.size = pvL (bytesOf s) := by
  rw [pv_list s s.size (Nat.le_refl _), List.take_of_length_le (by rw [bytesOf_length]; omega)]
theorem dec_rev (x : Nat) : (dec x).reverse = (if x / 10 = 0 then [] else (dec (x / 10)).reverse) ++ [((48 + x % 10 : Nat) : Int)] := by
  rw [dec_eq]
  split <;> simp
theorem pvL_dec (x : Nat) : pvL (dec x).reverse = x := by
  induction x using Nat.strongRecOn with
  | _ x ih =>
    rw [dec_rev, pvL_snoc]
    split
    · show 0 * 10 + _ = x
      omega
    · rw [ih (x / 10) (by omega)]
      omega
theorem dec_pos (x : Nat) : 0 < (dec x).length := by rw [dec_eq]; simp
theorem rd_zero_append (a b : List Int) (h : 0 < a.length) : rd (a ++ b) 0 = rd a 0 := by
  unfold rd
  simp [List.getElem?_append_left h]
theorem dec_first (x : Nat) (hx : 0 < x) : rd (dec x).reverse 0 ≠ 48 := by
  induction x using Nat.strongRecOn with
  | _ x ih =>
    rw [dec_rev]
    split
    · show ((48 + x % 10 : Nat) : Int) ≠ 48
      omega
    · rw [rd_zero_append _ _ (by rw [List.length_reverse]; exact dec_pos _)]
      exact ih (x / 10) (by omega) (by omega)
theorem txt_range (x : Nat) : ∀ c ∈ (dec x).reverse, (48 : Int) ≤ c ∧ c ≤ 57 := fun c hc => dec_range x c (by simpa using hc)
theorem txt_range' (x : Nat) : ∀ c ∈ (dec x).reverse, (0 : Int) ≤ c ∧ c < 256 := fun c hc => by have := txt_range x c hc; omega
theorem txt_size (x : Nat) : (txt x).size = (dec x).length := by unfold txt; rw [strOfNums_size, List.length_reverse]
theorem parse_txt (x : Nat) : parseS (txt x) = limN (digs x) := by
  have hs := txt_size x
  unfold parseS
  rw [if_neg, pv_all, show bytesOf (txt x) = (dec x).reverse from bytes_str _ (txt_range' x), pvL_dec]
  rintro (h | h)
  · rcases h with h | ⟨h1, h2⟩
    · have := dec_pos x
      omega
    · rw [show (0 : Int) = ((0 : Nat) : Int) from rfl, show bt (txt x) ((0 : Nat) : Int) = rd (dec x).reverse ((0 : Nat) : Int) from bt_str _ (txt_range' x) 0] at h2
      have hx : 0 < x := by
        rcases Nat.eq_zero_or_pos x with e | e
        · subst e
          rw [hs] at h1
          exact absurd h1 (by decide)
        · exact e
      exact dec_first x hx h2
  · apply h
    intro i hi
    rw [show bt (txt x) (i : Int) = rd (dec x).reverse (i : Int) from bt_str _ (txt_range' x) i]
    have hi2 : i < (dec x).reverse.length := by rw [List.length_reverse]; omega
    rw [rd_nat _ _ hi2]
    exact txt_range x _ (List.getElem_mem hi2)
theorem dec_back : ∀ (n : Nat) (l : List Int), l.length = n + 1 → (∀ c ∈ l, (48 : Int) ≤ c ∧ c ≤ 57) → (1 < l.length → rd l 0 ≠ 48) → (dec (pvL l)).reverse = l
  | 0, l, hl, hr, h0 => by
    match l, hl with
    | [c], _ =>
      have := hr c (by simp)
      have e : pvL [c] = (c - 48).toNat := by simp [pvL]
      rw [dec_rev, e, if_pos (by omega)]
      simp
      omega
  | n + 1, l, hl, hr, h0 => by
    obtain ⟨a, c, rfl⟩ : ∃ a c, l = a ++ [c] := ⟨l.dropLast, l.getLast (by intro e; rw [e] at hl; simp at hl), (List.dropLast_concat_getLast _).symm⟩
    have hla : a.length = n + 1 := by simpa using hl
    have hc := hr c (by simp)
    have h1 : rd a 0 ≠ 48 := by
      have := h0 (by omega)
      rwa [rd_zero_append _ _ (by omega)] at this
    have ih := dec_back n a hla (fun x hx => hr x (by simp [hx])) (fun _ => h1)
    have hp : pvL a ≠ 0 := by
      intro e
      rw [e] at ih
      rw [← ih] at h1
      exact h1 (by decide)
    have e10 : (pvL a * 10 + (c - 48).toNat) / 10 = pvL a := by omega
    have e11 : (pvL a * 10 + (c - 48).toNat) % 10 = (c - 48).toNat := by omega
    rw [pvL_snoc, dec_rev, e10, e11, if_neg hp, ih]
    congr 2
    omega
theorem txt_back (s : ByteArray) (h1 : ¬ lead s) (h2 : allDig s) : txt (pv s s.size) = s := by
  have hn : s.size ≠ 0 := fun e => h1 (.inl e)
  have hr : ∀ c ∈ bytesOf s, (48 : Int) ≤ c ∧ c ≤ 57 := by
    intro c hc
    obtain ⟨i, hi, rfl⟩ := List.getElem_of_mem hc
    rw [bytesOf_length] at hi
    have := h2 i hi
    rw [← rd_bytesOf, rd_nat _ _ (by rw [bytesOf_length]; exact hi)] at this
    exact this
  unfold txt
  rw [pv_all, dec_back (s.size - 1) (bytesOf s) (by rw [bytesOf_length]; omega) hr (fun hl e => h1 (.inr ⟨by rw [bytesOf_length] at hl; exact hl, by rw [← rd_bytesOf]; exact e⟩)), str_bytes]
theorem NumberTextBack : headendlaw01_NumberTextBack.Pure := by
  intro a s _ hla hwa hs
  have ha := Dig.of_wf hwa
  obtain ⟨K, hK⟩ : ∃ K, val a + 4294967296 ^ 16 + 2 * s.size + 2 * (txt (val a)).size + 3000 = K := ⟨_, rfl⟩
  refine ⟨K + 1, ?_⟩
  have hj : headendlaw01_NumberTextBack.j0 (K + 1) s true = some true := by
    rw [headendlaw01_NumberTextBack.j0]
    by_cases h7 : (s.size : Int) > 700
    · rw [if_pos h7]
    rw [if_neg h7, number_Parse_f s (by omega) _ (by omega), Option.bind_some]
    by_cases hb : lead s ∨ ¬ allDig s
    · have e : parseS s = ([], 12) := by unfold parseS; rw [if_pos hb]
      rw [e, if_neg (by decide), if_pos rfl, if_pos rfl]
      rfl
    · have e : parseS s = limN (digs (pv s s.size)) := by unfold parseS; rw [if_neg hb]
      rw [e]
      by_cases hf : pv s s.size < 4294967296 ^ 16
      · rw [limN_fit hf, if_pos rfl]
        dsimp only
        rw [number_Text_f (Dig.digs _) _ (by rw [val_digs]; omega), Option.bind_some]
        have et : textS (digs (pv s s.size)) = (s, 0) := by
          unfold textS
          rw [if_pos (ok_digs hf), val_digs, txt_back s (fun h => hb (.inl h)) (Decidable.byContradiction fun h => hb (.inr h))]
        rw [et, if_pos rfl, if_pos rfl, if_pos rfl, number_Check_f, Option.bind_some]
        unfold checkS
        rw [if_pos (ok_digs hf)]
        rfl
      · rw [limN_over hf, if_neg (by decide), if_pos rfl, if_neg (by decide), if_pos rfl]
        rfl
  unfold headendlaw01_NumberTextBack.f
  rw [show headendlaw01_alive.f = some true from rfl, Option.bind_some, valid_f, Option.bind_some]
  by_cases h1 : numOk a = true
  case neg => rw [if_neg h1, hj]
  obtain ⟨x, rfl, hx⟩ := valid_as ha h1
  rw [val_digs] at hK
  have hl := dec_len 155 x (by have := val_lt16 ha h1; rwa [val_digs] at this)
  have ets : textS (digs x) = (txt x, 0) := by
    unfold textS
    rw [if_pos h1, val_digs]
  rw [if_pos h1, number_Text_f ha _ (by rw [val_digs]; omega), Option.bind_some, ets]
  dsimp only
  rw [number_Parse_f (txt x) (by rw [txt_size]; omega) _ (by omega), Option.bind_some, parse_txt, limN_fit hx, if_pos rfl, if_pos rfl]
  dsimp only
  have hl16 := digs_len16 hx
  rw [Same_refl _ _ (by omega) (by omega), Option.bind_some, if_pos rfl, hj]
end Go.Proofs.Ythhgfogdeaaidaa.Pure

