/- Plain: lists of digits to the base 2^32 as natural numbers, and the digits of a number. -/
import Derived.Test.YthhgfogdeaaidaaGrtrim
namespace Go.Proofs.Ythhgfogdeaaidaa.R
open Go.Proofs.YthhgfogdeaaidaaW.PrintWords
set_option linter.unusedVariables false
def val : List Int → Nat
  | [] => 0
  | x :: xs => x.toNat + 4294967296 * val xs
def Dig (l : List Int) : Prop := ∀ x ∈ l, 0 ≤ x ∧ x < 4294967296
theorem Dig.nil : Dig [] := fun x h => by cases h
theorem Dig.cons {x : Int} {xs : List Int} (h0 : 0 ≤ x) (h1 : x < 4294967296) (h : Dig xs) : Dig (x :: xs) := fun y hy => by
  rcases List.mem_cons.1 hy with rfl | hy
  · exact ⟨h0, h1⟩
  · exact h y hy
theorem Dig.head {x : Int} {xs : List Int} (h : Dig (x :: xs)) : 0 ≤ x ∧ x < 4294967296 := h x (List.mem_cons_self ..)
theorem Dig.tail {x : Int} {xs : List Int} (h : Dig (x :: xs)) : Dig xs := fun y hy => h y (List.mem_cons_of_mem _ hy)
theorem Dig.append {a b : List Int} (ha : Dig a) (hb : Dig b) : Dig (a ++ b) := fun x hx => (List.mem_append.1 hx).elim (ha x) (hb x)
theorem Dig.take {l : List Int} (h : Dig l) (n : Nat) : Dig (l.take n) := fun x hx => h x (List.mem_of_mem_take hx)
theorem Dig.drop {l : List Int} (h : Dig l) (n : Nat) : Dig (l.drop n) := fun x hx => h x (List.mem_of_mem_drop hx)
theorem Dig.set {l : List Int} (h : Dig l) (i : Nat) {x : Int} (h0 : 0 ≤ x) (h1 : x < 4294967296) : Dig (l.set i x) := fun y hy => by
  rcases List.mem_or_eq_of_mem_set hy with hy | rfl
  · exact h y hy
  · exact ⟨h0, h1⟩
theorem Dig.replicate (n : Nat) : Dig (List.replicate n 0) := fun x hx => by
  rw [List.eq_of_mem_replicate hx]; omega
theorem Dig.rdok {l : List Int} (h : Dig l) (i : Int) : 0 ≤ rd l i ∧ rd l i < 4294967296 := by
  unfold rd
  rw [List.getD_eq_getElem?_getD]
  cases e : l[i.toNat]? with
  | none => simp
  | some x => exact h x (List.mem_of_getElem? e)
theorem rd_nat (l : List Int) (i : Nat) (h : i < l.length) : rd l (i : Int) = l[i] := by
  unfold rd; simp [List.getElem?_eq_getElem h]
theorem rd_beyond (l : List Int) (i : Int) (h : (l.length : Int) ≤ i) : rd l i = 0 := by
  unfold rd
  rw [List.getD_eq_getElem?_getD, List.getElem?_eq_none (by omega)]; rfl
theorem val_append (a b : List Int) : val (a ++ b) = val a + 4294967296 ^ a.length * val b := by
  induction a with
  | nil => simp [val]
  | cons x xs ih =>
    simp only [List.cons_append, val, ih, List.length_cons, Nat.pow_succ, Nat.mul_add]
    rw [Nat.mul_comm (4294967296 ^ xs.length) 4294967296, Nat.mul_assoc]; omega
theorem val_lt {l : List Int} (h : Dig l) : val l < 4294967296 ^ l.length := by
  induction l with
  | nil => simp [val]
  | cons x xs ih =>
    have h1 := h.head
    have h2 := ih h.tail
    simp only [val, List.length_cons, Nat.pow_succ]
    have : x.toNat < 4294967296 := by omega
    omega
theorem val_replicate (n : Nat) : val (List.replicate n 0) = 0 := by
  induction n with
  | zero => rfl
  | succ n ih => simp [List.replicate_succ, val, ih]
theorem val_take_succ (l : List Int) (i : Nat) (h : i < l.length) : val (l.take (i + 1)) = val (l.take i) + 4294967296 ^ i * (rd l (i : Int)).toNat := by
  rw [List.take_succ_eq_append_getElem h, val_append, rd_nat l i h, List.length_take, Nat.min_eq_left (by omega)]
  simp [val]
theorem val_set (l : List Int) (i : Nat) (x : Int) (h : i < l.length) : val (l.set i x) + 4294967296 ^ i * (rd l (i : Int)).toNat = val l + 4294967296 ^ i * x.toNat := by
  induction l generalizing i with
  | nil => simp at h
  | cons y ys ih =>
    cases i with
    | zero => simp [val, rd]; omega
    | succ i =>
      have := ih i (by simpa using h)
      have e : rd (y :: ys) ((i + 1 : Nat) : Int) = rd ys (i : Int) := by simp [rd]
      rw [e]
      simp only [List.set_cons_succ, val, Nat.pow_succ]
      rw [Nat.mul_comm (4294967296 ^ i) 4294967296, Nat.mul_assoc, Nat.mul_assoc]
      omega
theorem val_take_drop (l : List Int) (i : Nat) (h : i ≤ l.length) : val l = val (l.take i) + 4294967296 ^ i * val (l.drop i) := by
  conv => lhs; rw [← List.take_append_drop i l]
  rw [val_append, List.length_take, Nat.min_eq_left h]
theorem val_drop (l : List Int) (i : Nat) (h : i < l.length) : val (l.drop i) = (rd l (i : Int)).toNat + 4294967296 * val (l.drop (i + 1)) := by
  rw [List.drop_eq_getElem_cons h, rd_nat l i h]; rfl
theorem val_trimL (l : List Int) : val (trimL l) = val l := by
  induction l with
  | nil => rfl
  | cons x xs ih =>
    simp only [trimL]
    split
    · rename_i h
      have : val xs = 0 := by rw [← ih, h]; rfl
      split
      · rename_i h2; simp [val, h2, this]
      · simp [val, this]
    · simp [val, ih]
theorem Dig.trimL {l : List Int} (h : Dig l) : Dig (trimL l) := by
  induction l with
  | nil => exact h
  | cons x xs ih =>
    simp only [R.trimL]
    split
    · split
      · exact Dig.nil
      · exact Dig.cons h.head.1 h.head.2 Dig.nil
    · exact Dig.cons h.head.1 h.head.2 (ih h.tail)
theorem trimL_length (l : List Int) : (trimL l).length ≤ l.length := by
  induction l with
  | nil => exact Nat.le_refl _
  | cons x xs ih =>
    simp only [trimL]
    split
    · split <;> simp
    · simp; exact ih
theorem trimL_zero {l : List Int} (h : Dig l) (hv : val l = 0) : trimL l = [] := by
  induction l with
  | nil => rfl
  | cons x xs ih =>
    simp only [val] at hv
    have h1 := h.head
    simp only [trimL]
    rw [if_pos (ih h.tail (by omega)), if_pos (by omega)]
theorem trimL_eq {a b : List Int} (ha : Dig a) (hb : Dig b) (h : val a = val b) : trimL a = trimL b := by
  induction a generalizing b with
  | nil => rw [trimL_zero hb (by rw [← h]; rfl)]; rfl
  | cons x xs ih =>
    cases b with
    | nil => rw [trimL_zero ha h]; rfl
    | cons y ys =>
      simp only [val] at h
      have h1 := ha.head
      have h2 := hb.head
      have hx : x = y := by omega
      have := ih ha.tail hb.tail (by omega)
      simp only [trimL, this, hx]
theorem trimL_last (l : List Int) (h : l ≠ []) (hz : rd l ((l.length : Int) - 1) ≠ 0) : trimL l = l := by
  obtain ⟨m, hm⟩ : ∃ m, l.length = m + 1 := ⟨l.length - 1, by have := List.length_pos_iff.2 h; omega⟩
  have := trimL_take l m (by omega) (by rwa [hm, show ((m + 1 : Nat) : Int) - 1 = (m : Int) by omega] at hz)
  rwa [← hm, List.take_length] at this
theorem last_of_trimL {l : List Int} (h : l ≠ []) (ht : trimL l = l) : rd l ((l.length : Int) - 1) ≠ 0 := by
  obtain ⟨m, hm⟩ : ∃ m, l.length = m + 1 := ⟨l.length - 1, by have := List.length_pos_iff.2 h; omega⟩
  intro hz
  have h2 := trimL_take_zero l m (by omega) (by rwa [hm, show ((m + 1 : Nat) : Int) - 1 = (m : Int) by omega] at hz)
  rw [← hm, List.take_length, ht] at h2
  have := congrArg List.length h2
  have h3 := trimL_length (l.take m)
  rw [List.length_take] at h3
  omega
def digsF : Nat → Nat → List Int
  | 0, _ => []
  | f + 1, n => if n = 0 then [] else ((n % 4294967296 : Nat) : Int) :: digsF f (n / 4294967296)
def digs (n : Nat) : List Int := digsF n n
theorem digsF_more : ∀ (f g n : Nat), n ≤ f → n ≤ g → digsF f n = digsF g n
  | 0, g, n, hf, _ => by
    obtain rfl : n = 0 := by omega
    cases g <;> simp [digsF]
  | f + 1, 0, n, _, hg => by
    obtain rfl : n = 0 := by omega
    simp [digsF]
  | f + 1, g + 1, n, hf, hg => by
    simp only [digsF]
    split
    · rfl
    · rw [digsF_more f g (n / 4294967296) (by omega) (by omega)]
theorem digs_zero : digs 0 = [] := rfl
theorem digs_pos (n : Nat) (h : n ≠ 0) : digs n = ((n % 4294967296 : Nat) : Int) :: digs (n / 4294967296) := by
  obtain ⟨m, rfl⟩ : ∃ m, n = m + 1 := ⟨n - 1, by omega⟩
  unfold digs
  conv => lhs; simp only [digsF]
  rw [if_neg h, digsF_more m ((m + 1) / 4294967296) _ (by omega) (by omega)]
theorem val_digs (n : Nat) : val (digs n) = n := by
  induction n using Nat.strongRecOn with
  | ind n ih =>
    by_cases h : n = 0
    · subst h; rfl
    · rw [digs_pos n h]
      simp only [val]
      rw [ih (n / 4294967296) (by omega)]
      omega
theorem Dig.digs (n : Nat) : Dig (digs n) := by
  induction n using Nat.strongRecOn with
  | ind n ih =>
    by_cases h : n = 0
    · subst h; exact Dig.nil
    · rw [digs_pos n h]
      exact Dig.cons (by omega) (by omega) (ih _ (by omega))
theorem trimL_digs (n : Nat) : trimL (digs n) = digs n := by
  induction n using Nat.strongRecOn with
  | ind n ih =>
    by_cases h : n = 0
    · subst h; rfl
    · rw [digs_pos n h]
      simp only [trimL]
      rw [ih _ (by omega)]
      split
      · rename_i h2
        have h3 : n / 4294967296 = 0 := by
          have := val_digs (n / 4294967296)
          rw [h2] at this
          exact this.symm
        rw [if_neg (by omega), h2]
      · rfl
theorem digs_val {l : List Int} (h : Dig l) : digs (val l) = trimL l := by
  rw [← trimL_digs]
  exact trimL_eq (Dig.digs _) h (val_digs _)
theorem digs_val_of {l : List Int} (h : Dig l) (ht : trimL l = l) : digs (val l) = l := (digs_val h).trans ht
theorem digs_inj {m n : Nat} (h : digs m = digs n) : m = n := by rw [← val_digs m, h, val_digs]
theorem digs_nil {n : Nat} : digs n = [] ↔ n = 0 := ⟨fun h => by rw [← val_digs n, h]; rfl, fun h => by rw [h]; rfl⟩
theorem digs_length_le (n k : Nat) (h : n < 4294967296 ^ k) : (digs n).length ≤ k := by
  induction k generalizing n with
  | zero =>
    obtain rfl : n = 0 := by simpa using h
    simp [digs_zero]
  | succ k ih =>
    by_cases h0 : n = 0
    · subst h0; simp [digs_zero]
    · rw [digs_pos n h0, List.length_cons]
      have := ih (n / 4294967296) (by rw [Nat.pow_succ] at h; exact Nat.div_lt_of_lt_mul (by rw [Nat.mul_comm]; exact h))
      omega
theorem digs_length_gt (n k : Nat) (h : 4294967296 ^ k ≤ n) : k < (digs n).length := by
  rcases Nat.lt_or_ge k (digs n).length with h2 | h2
  · exact h2
  · exfalso
    have := val_lt (Dig.digs n)
    rw [val_digs] at this
    have h3 : 4294967296 ^ (digs n).length ≤ 4294967296 ^ k := Nat.pow_le_pow_right (by omega) h2
    omega
end Go.Proofs.Ythhgfogdeaaidaa.R
