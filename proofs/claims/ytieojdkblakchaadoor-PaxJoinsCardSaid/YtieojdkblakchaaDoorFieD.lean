/-
  fields, in plain words: octal and decimal numbers, texts with noughts behind, a sector's sum. No program is spoken of.
-/
import Derived.Test.YtieojdkblakchaaDoorKc
import Derived.Lib.ItoaNum
import Derived.Lib.Bytealg
namespace Go.Proofs.YtieojdkblakchaaDoor.Fld
open Go.Proofs.YtieojdkblakchaaDoor
set_option linter.unusedSimpArgs false
set_option linter.unusedVariables false

def most : Nat := 9007199254740992
/-! ### Reading -/
def oct (c : UInt8) : Bool := decide (48 ≤ c.toNat) && decide (c.toNat ≤ 55)
def dig (c : UInt8) : Bool := decide (48 ≤ c.toNat) && decide (c.toNat ≤ 57)
def one (a b : Nat) (c : UInt8) : Bool := decide (c.toNat = a) || decide (c.toNat = b)
def fold (base : Nat) : Nat → List UInt8 → Nat
  | n, [] => n
  | n, c :: l => fold base (if n ≤ 9007199254740992 then base * n + (c.toNat - 48) else n) l
theorem fold_append (base : Nat) : ∀ (l m : List UInt8) (n : Nat), fold base n (l ++ m) = fold base (fold base n l) m
  | [], _, _ => rfl
  | c :: l, m, n => by simp only [List.cons_append, fold]; exact fold_append base l m _
theorem fold_snoc (base : Nat) (l : List UInt8) (c : UInt8) (n : Nat) : fold base n (l ++ [c]) = if fold base n l ≤ 9007199254740992 then base * fold base n l + (c.toNat - 48) else fold base n l := by
  rw [fold_append]; rfl
theorem fold_le (base : Nat) (hb : base ≤ 10) : ∀ (l : List UInt8) (n : Nat), n ≤ 90071992547409920 + 255 → fold base n l ≤ 90071992547409920 + 255
  | [], n, h => h
  | c :: l, n, h => by
    refine fold_le base hb l _ ?_
    have hc : c.toNat < 256 := c.toNat_lt
    split
    · rename_i hn
      have : base * n ≤ 10 * n := Nat.mul_le_mul_right _ hb
      omega
    · exact h
theorem fold_big (base : Nat) : ∀ (l : List UInt8) (n : Nat), 9007199254740992 < n → fold base n l = n
  | [], _, _ => rfl
  | c :: l, n, h => by
    simp only [fold]
    rw [if_neg (by omega)]
    exact fold_big base l n h
def num (s : List UInt8) : Nat × Nat :=
  let s1 := s.dropWhile (one 32 32)
  if (s1.dropWhile oct).dropWhile (one 32 0) ≠ [] then (0, 150)
  else if 9007199254740992 < fold 8 0 (s1.takeWhile oct) then (0, 3) else (fold 8 0 (s1.takeWhile oct), 0)
def dec (s : List UInt8) : Nat × Nat :=
  if s = [] ∨ (s.head? = some 48 ∧ s ≠ [48]) then (0, 150)
  else if s.all dig then (if 9007199254740992 < fold 10 0 s then (0, 3) else (fold 10 0 s, 0)) else (0, 150)
/-! ### Laying -/
def dgt (d : Nat) : UInt8 := UInt8.ofNat (48 + d)
/-- k digits to the base 8, the lowest last -/
def octs (n : Nat) : Nat → List UInt8
  | 0 => []
  | k + 1 => octs (n / 8) k ++ [dgt (n % 8)]
theorem octs_length : ∀ (k n : Nat), (octs n k).length = k
  | 0, _ => rfl
  | k + 1, n => by simp [octs, octs_length k]
def octal (n width : Int) : List UInt8 × Nat :=
  if width < 2 ∨ 20 < width then ([], 2)
  else if n < 0 ∨ n / 8 ^ (width.toNat - 1) ≠ 0 then ([], 150)
  else (octs n.toNat (width.toNat - 1) ++ [0], 0)
/-- the first digit apart -/
theorem octs_cons : ∀ (k n : Nat), octs n (k + 1) = dgt (n / 8 ^ k % 8) :: octs n k
  | 0, n => by simp [octs]
  | k + 1, n => by
    rw [octs, octs_cons k (n / 8)]
    simp only [octs, List.cons_append, List.cons.injEq, and_true]
    rw [Nat.div_div_eq_div_mul, Nat.pow_succ, Nat.mul_comm 8]
theorem octs_get : ∀ (k n i : Nat) (h : i < (octs n k).length), (octs n k)[i] = dgt (n / 8 ^ (k - 1 - i) % 8)
  | 0, n, i, h => by simp [octs] at h
  | k + 1, n, i, h => by
    simp only [octs_length] at h
    simp only [octs]
    rw [List.getElem_append]
    split
    · rename_i h'
      rw [octs_get k (n / 8) i h']
      simp only [octs_length] at h'
      rw [Nat.div_div_eq_div_mul, Nat.mul_comm 8, ← Nat.pow_succ, show (k - 1 - i).succ = k + 1 - 1 - i by omega]
    · rename_i h'
      simp only [octs_length] at h'
      simp [show k - i = 0 by omega]
theorem div_pow_step (n : Int) (i : Nat) : n / 8 ^ i / 8 = n / 8 ^ (i + 1) := by
  rw [Int.ediv_ediv_of_nonneg (by exact_mod_cast Nat.zero_le _), Int.pow_succ]
def nul (n : Nat) : List UInt8 := List.replicate n 0
def cut (s : List UInt8) : List UInt8 := s.takeWhile (· != 0)
def text (s : List UInt8) (width : Int) : List UInt8 × Nat :=
  if width < 0 ∨ 512 < width then ([], 2)
  else if width < s.length ∨ cut s ≠ s then ([], 150)
  else (s ++ nul (width.toNat - s.length), 0)
theorem indexByte_lt : ∀ (s : List UInt8) (c : UInt8), Lib.indexByte s c = -1 ∧ c ∉ s ∨ ∃ i : Nat, Lib.indexByte s c = i ∧ i < s.length ∧ s.takeWhile (· != c) = s.take i ∧ c ∈ s
  | [], c => .inl ⟨rfl, by simp⟩
  | b :: s, c => by
    unfold Lib.indexByte
    by_cases h : b = c
    · subst h
      refine .inr ⟨0, by simp, by simp, by simp, by simp⟩
    · rcases indexByte_lt s c with ⟨h1, h2⟩ | ⟨i, h1, h2, h3, h4⟩
      · left; simp [h, h1, h2, Ne.symm h]
      · right
        refine ⟨i + 1, ?_, by simp; omega, by simp [h, h3], by simp [h4]⟩
        rw [h1]
        have : ((i : Int) == -1) = false := by simp
        simp [h, this]
theorem cut_eq_iff (s : List UInt8) : cut s = s ↔ (0 : UInt8) ∉ s := by
  unfold cut
  induction s with
  | nil => simp
  | cons b s ih =>
    by_cases h : b = 0
    · subst h; simp
    · simp [h, ih, Ne.symm h]
theorem cut_le (s : List UInt8) : (cut s).length ≤ s.length := by
  unfold cut
  exact (List.takeWhile_prefix _).length_le
theorem cut_none {s : List UInt8} (h : (0 : UInt8) ∉ s) : cut s = s := (cut_eq_iff s).2 h
/-! ### A sum -/
def sumTo (s : List UInt8) : Nat → Nat
  | 0 => 0
  | i + 1 => sumTo s i + if 148 ≤ i ∧ i < 156 then 32 else (s.getD i 0).toNat
def sumOut (s : List UInt8) : Nat → Nat
  | 0 => 256
  | i + 1 => sumOut s i + if 148 ≤ i ∧ i < 156 then 0 else (s.getD i 0).toNat
theorem sumTo_out (s : List UInt8) : ∀ i, sumTo s i + 256 = sumOut s i + 32 * (min i 156 - min i 148)
  | 0 => by simp [sumTo, sumOut]
  | i + 1 => by
    have := sumTo_out s i
    simp only [sumTo, sumOut]
    split <;> omega
theorem sumTo_le (s : List UInt8) : ∀ i, sumTo s i ≤ 255 * i
  | 0 => by simp [sumTo]
  | i + 1 => by
    have := sumTo_le s i
    have hc : (s.getD i 0).toNat < 256 := (s.getD i 0).toNat_lt
    simp only [sumTo]
    split <;> omega
theorem sumOut_le (s : List UInt8) : ∀ i, sumOut s i ≤ 256 + 255 * i
  | 0 => by simp [sumOut]
  | i + 1 => by
    have := sumOut_le s i
    have hc : (s.getD i 0).toNat < 256 := (s.getD i 0).toNat_lt
    simp only [sumOut]
    split <;> omega
def sum (s : List UInt8) : Nat × Nat := if s.length ≠ 512 then (0, 2) else (sumTo s 512, 0)
theorem sumOut_eq (s : List UInt8) : sumOut s 512 = sumTo s 512 := by have := sumTo_out s 512; omega
/-! ### Digits -/
theorem dec_step {x : Nat} (h : ¬ x < 10) : Lib.decDigits x = Lib.decDigits (x / 10) ++ [dgt (x % 10)] := by
  rw [Lib.decDigits, dif_neg h]
  rfl
theorem dec_small {x : Nat} (h : x < 10) : Lib.decDigits x = [dgt x] := by rw [Lib.decDigits, dif_pos h]; rfl
def digits (n : Int) : List UInt8 := if n < 0 then [] else Lib.decDigits n.toNat
theorem take_snoc' (s : List UInt8) (k : Nat) (h : k < s.length) : s.take (k + 1) = s.take k ++ [s[k]] := by
  rw [List.take_add_one, List.getElem?_eq_getElem h]; rfl
theorem drop_cons (s : List UInt8) (k : Nat) (h : k < s.length) : s.drop k = s[k] :: s.drop (k + 1) := List.drop_eq_getElem_cons h
end Go.Proofs.YtieojdkblakchaaDoor.Fld
