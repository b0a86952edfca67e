/- Plain: the division by one digit, from the highest digit down. -/
import Derived.Test.YthhgfogdeaaidaaR0
import Derived.Test.YthhgfogdeaaidaaGback
import Derived.Test.YthhgfogdeaaidaaGorder
import Derived.Test.YthhgfogdeaaidaaGnum
namespace Go.Proofs.Ythhgfogdeaaidaa.R
open Go.Proofs.YthhgfogdeaaidaaW.PrintWords
set_option linter.unusedVariables false
def stepOne (a : List Int) (b : Int) (s : List Int × Int) (i : Nat) : List Int × Int := (s.1.set i ((s.2 * 4294967296 + rd a (i : Int)) / b), (s.2 * 4294967296 + rd a (i : Int)) % b)
def foldOne (a : List Int) (b : Int) {n : Nat} (pre : List (Fin n)) : List Int × Int := pre.foldl (fun s i => stepOne a b s i.1) (List.replicate n 0, 0)
theorem foldOne_nil (a : List Int) (b : Int) {n : Nat} : foldOne a b (n := n) [] = (List.replicate n 0, 0) := rfl
theorem foldOne_snoc (a : List Int) (b : Int) {n : Nat} (pre : List (Fin n)) (x : Fin n) : foldOne a b (pre ++ [x]) = stepOne a b (foldOne a b pre) x.1 := by simp [foldOne]
theorem foldOne_length (a : List Int) (b : Int) {n : Nat} (pre : List (Fin n)) : (foldOne a b pre).1.length = n := by
  have : ∀ (pre : List (Fin n)) (s : List Int × Int), (pre.foldl (fun s i => stepOne a b s i.1) s).1.length = s.1.length := by
    intro pre
    induction pre with
    | nil => intro s; rfl
    | cons x xs ih => intro s; rw [List.foldl_cons, ih]; simp [stepOne]
  rw [foldOne, this]; simp
theorem foldOne_rest (a : List Int) (b : Int) (hb : 0 < b) {n : Nat} (pre : List (Fin n)) : 0 ≤ (foldOne a b pre).2 ∧ (foldOne a b pre).2 < b := by
  have : ∀ (pre : List (Fin n)) (s : List Int × Int), 0 ≤ s.2 ∧ s.2 < b → 0 ≤ (pre.foldl (fun s i => stepOne a b s i.1) s).2 ∧ (pre.foldl (fun s i => stepOne a b s i.1) s).2 < b := by
    intro pre
    induction pre with
    | nil => intro s h; exact h
    | cons x xs ih => intro s h; rw [List.foldl_cons]; exact ih _ ⟨Int.emod_nonneg _ (by omega), Int.emod_lt_of_pos _ hb⟩
  exact this pre _ ⟨Int.le_refl 0, hb⟩
def OneLaw (a : List Int) (b n k : Nat) (q : List Int) (s : Int) : Prop :=
  q.length = n ∧ Dig q ∧ (∀ i : Nat, i < n - k → rd q (i : Int) = 0) ∧ 0 ≤ s ∧ s < (b : Int) ∧ val q * b + 4294967296 ^ (n - k) * s.toNat + val (a.take (n - k)) = val a
theorem one_law_step {a : List Int} {b n k : Nat} {q : List Int} {s : Int} (ha : Dig a) (hn : n = a.length) (hb : 0 < b) (hB : b < 4294967296) (hk : k < n) (h : OneLaw a b n k q s) :
    OneLaw a b n (k + 1) (q.set (n - 1 - k) ((s * 4294967296 + rd a ((n - 1 - k : Nat) : Int)) / b)) ((s * 4294967296 + rd a ((n - 1 - k : Nat) : Int)) % b) := by
  obtain ⟨i, hi⟩ : ∃ i, i = n - 1 - k := ⟨_, rfl⟩
  rw [← hi]
  have e1 : n - k = i + 1 := by omega
  have e2 : n - (k + 1) = i := by omega
  have hil : i < a.length := by omega
  have hin : i < n := by omega
  obtain ⟨h1, h2, h3, h4, h5, h6⟩ := h
  rw [e1] at h3 h6
  have hs0 := fun D : Int => val_set q i D (h1 ▸ hin)
  have ht := val_take_succ a i hil
  have e3 : (4294967296 : Nat) ^ (i + 1) = 4294967296 ^ i * 4294967296 := Nat.pow_succ ..
  rw [e3] at h6
  unfold OneLaw
  rw [e2]
  clear e3 e1
  generalize (4294967296 : Nat) ^ i = R at *
  have hx := ha.rdok (i : Int)
  obtain ⟨S, rfl⟩ := Int.eq_ofNat_of_zero_le h4
  obtain ⟨X, hX⟩ := Int.eq_ofNat_of_zero_le hx.1
  rw [hX] at hx ⊢
  have c1 : ((S : Int) * 4294967296 + (X : Int)) / (b : Int) = (((S * 4294967296 + X) / b : Nat) : Int) := by rw [Int.natCast_ediv, Int.natCast_add, Int.natCast_mul]; rfl
  have c2 : ((S : Int) * 4294967296 + (X : Int)) % (b : Int) = (((S * 4294967296 + X) % b : Nat) : Int) := by rw [Int.natCast_emod, Int.natCast_add, Int.natCast_mul]; rfl
  rw [c1, c2]
  have hd := Nat.div_add_mod (S * 4294967296 + X) b
  have hm := Nat.mod_lt (S * 4294967296 + X) hb
  have hS : S < b := by omega
  have hq : (S * 4294967296 + X) / b < 4294967296 := by
    rw [Nat.div_lt_iff_lt_mul hb]
    have : (S + 1) * 4294967296 ≤ b * 4294967296 := Nat.mul_le_mul_right _ hS
    rw [Nat.mul_comm 4294967296 b]
    omega
  generalize (S * 4294967296 + X) / b = D at *
  generalize (S * 4294967296 + X) % b = M at *
  refine ⟨by rw [List.length_set]; exact h1, h2.set i (by omega) (by omega), ?_, by omega, by omega, ?_⟩
  · intro j hj
    have := h3 j (by omega)
    rw [rd_nat _ _ (by rw [List.length_set]; omega), List.getElem_set_ne (by omega)]
    rwa [rd_nat _ _ (by omega)] at this
  · have hs := hs0 (D : Int)
    rw [h3 i (by omega)] at hs
    rw [hX] at ht
    rw [Int.toNat_natCast, show (0 : Int).toNat = 0 from rfl, Nat.mul_zero, Nat.add_zero] at hs
    rw [Int.toNat_natCast] at ht h6 ⊢
    rw [hs, ← h6, ht]
    have e4 : R * 4294967296 * S + R * X = R * (S * 4294967296 + X) := by rw [Nat.mul_add, Nat.mul_assoc, Nat.mul_comm 4294967296 S]
    have e5 : (val q + R * D) * b + R * M = val q * b + R * (b * D + M) := by rw [Nat.add_mul, Nat.mul_add, Nat.mul_assoc, Nat.mul_comm D b]; omega
    rw [← hd] at e4
    generalize val q * b = A at *
    generalize (val q + R * D) * b = A' at *
    generalize R * (b * D + M) = A'' at *
    generalize R * 4294967296 * S = A3 at *
    generalize R * X = RX at *
    generalize R * M = RM at *
    generalize val (a.take i) = T
    have fin : ∀ A2 A0 : Nat, A2 + RM = A0 + A'' → A3 + RX = A'' → A2 + RM + T = A0 + A3 + (T + RX) := fun A2 A0 x y => by rw [x, ← y]; ac_rfl
    exact fin _ _ e5 e4
theorem one_law {a : List Int} {b n : Nat} (ha : Dig a) (hn : n = a.length) (hb : 0 < b) (hB : b < 4294967296) : ∀ (k : Nat) (pre : List (Fin n)), Down n k pre → OneLaw a b n k (foldOne a (b : Int) pre).1 (foldOne a (b : Int) pre).2
  | 0, pre, h => by
    have : pre = [] := List.eq_nil_of_length_eq_zero h.length
    subst this
    refine ⟨by simp [foldOne_nil], Dig.replicate _, fun i _ => by rw [foldOne_nil]; simp [rd, List.getElem?_replicate]; split <;> rfl, Int.le_refl 0, by simp [foldOne_nil]; omega, ?_⟩
    simp [foldOne_nil, val_replicate, hn]
  | k + 1, pre, h => by
    have hne : pre ≠ [] := fun e => by have := h.length; rw [e] at this; simp at this
    obtain ⟨ini, last, rfl⟩ : ∃ ini last, pre = ini ++ [last] := ⟨_, _, (List.dropLast_concat_getLast hne).symm⟩
    obtain ⟨m, hm, hd, hl⟩ := h.snoc
    obtain rfl : k = m := by omega
    rw [foldOne_snoc, stepOne, hl]
    exact one_law_step ha hn hb hB (by have := h.1; omega) (one_law ha hn hb hB k ini hd)
theorem one_done {a : List Int} {b : Nat} {ys : List (Fin a.length)} (ha : Dig a) (hb : 0 < b) (hB : b < 4294967296) (h : Down a.length a.length ys) :
    trimL (foldOne a (b : Int) ys).1 = digs (val a / b) ∧ trimL [(foldOne a (b : Int) ys).2] = digs (val a % b) := by
  obtain ⟨h1, h2, h3, h4, h5, h6⟩ := one_law ha rfl hb hB _ _ h
  generalize foldOne a (b : Int) ys = qs at *
  obtain ⟨q, s⟩ := qs
  dsimp only at *
  obtain ⟨S, rfl⟩ := Int.eq_ofNat_of_zero_le h4
  simp only [Nat.sub_self, Nat.pow_zero, Nat.one_mul, Int.toNat_natCast, List.take_zero] at h6
  have hS : S < b := by omega
  have h0 : val ([] : List Int) = 0 := rfl
  rw [h0, Nat.add_zero] at h6
  have e1 : val a / b = val q := by rw [← h6, Nat.add_comm, Nat.add_mul_div_right _ _ hb, Nat.div_eq_of_lt hS, Nat.zero_add]
  have e2 : val a % b = S := by rw [← h6, Nat.add_comm, Nat.add_mul_mod_self_right, Nat.mod_eq_of_lt hS]
  have hd : Dig [(S : Int)] := Dig.cons (by omega) (by omega) Dig.nil
  rw [e1, e2, digs_val h2]
  refine ⟨rfl, ?_⟩
  rw [← digs_val hd]
  simp [val]
end Go.Proofs.Ythhgfogdeaaidaa.R
