/-
  record, in plain words: numbers as bytes, records, members. No program is spoken of.
-/
import Derived.Test.YtfjaiokhpbddlaaCrcM
import Derived.Test.YtfjaiokhpbddlaaPthD
namespace Go.Proofs.Ytfjaiokhpbddlaa.Rec
open Go.Proofs.Ytfjaiokhpbddlaa
set_option linter.unusedSimpArgs false
set_option linter.unusedVariables false
/-- a number in so many bytes, the greatest first -/
def be : Nat → Nat → List UInt8
  | 0, _ => []
  | w + 1, n => be w (n / 256) ++ [UInt8.ofNat (n % 256)]
theorem be_length : ∀ w n, (be w n).length = w
  | 0, _ => rfl
  | w + 1, n => by simp [be, be_length w]
def nb (s : List UInt8) : Nat := s.foldl (fun v c => v * 256 + c.toNat) 0
theorem nb_snoc (s : List UInt8) (c : UInt8) : nb (s ++ [c]) = nb s * 256 + c.toNat := by simp [nb]
theorem nb_lt : ∀ (k : Nat) (s : List UInt8), s.length = k → nb s < 256 ^ k
  | 0, s, h => by rw [List.eq_nil_of_length_eq_zero h]; decide
  | k + 1, s, h => by
    have hne : s ≠ [] := by intro e; subst e; simp at h
    rw [← List.dropLast_concat_getLast hne, nb_snoc]
    have ih := nb_lt k s.dropLast (by simp [h])
    have hc := (s.getLast hne).toNat_lt
    rw [Nat.pow_succ]
    omega
theorem nb_be : ∀ w n, n < 256 ^ w → nb (be w n) = n
  | 0, n, h => by simp at h; subst h; rfl
  | w + 1, n, h => by
    simp only [be, nb_snoc]
    rw [nb_be w (n / 256) (by rw [Nat.pow_succ] at h; omega)]
    have : (UInt8.ofNat (n % 256)).toNat = n % 256 := by simp
    rw [this]
    omega
theorem be_nb : ∀ (k : Nat) (s : List UInt8), s.length = k → be k (nb s) = s
  | 0, s, h => by rw [List.eq_nil_of_length_eq_zero h]; rfl
  | k + 1, s, h => by
    have hne : s ≠ [] := by intro e; subst e; simp at h
    have hc := (s.getLast hne).toNat_lt
    have e : nb s = nb s.dropLast * 256 + (s.getLast hne).toNat := by rw [← nb_snoc, List.dropLast_concat_getLast hne]
    simp only [be]
    rw [show nb s / 256 = nb s.dropLast by omega, be_nb k s.dropLast (by simp [h]), show nb s % 256 = (s.getLast hne).toNat by omega]
    rw [UInt8.ofNat_toNat, List.dropLast_concat_getLast hne]
/-- the first bytes -/
theorem be_pre : ∀ (w i n : Nat), i ≤ w → (be w n).take i = be i (n / 256 ^ (w - i))
  | 0, i, n, h => by
    obtain rfl : i = 0 := by omega
    simp [be]
  | w + 1, i, n, h => by
    by_cases e : i = w + 1
    · subst e
      rw [List.take_of_length_le (by rw [be_length]; exact Nat.le_refl _)]
      simp
    · simp only [be]
      rw [List.take_append_of_le_length (by rw [be_length]; omega), be_pre w i _ (by omega), show w + 1 - i = (w - i) + 1 by omega, Nat.pow_succ, Nat.mul_comm, Nat.div_div_eq_div_mul]
theorem be_cons : ∀ (w n : Nat), be (w + 1) n = UInt8.ofNat (n / 256 ^ w % 256) :: be w n
  | 0, n => by simp [be]
  | w + 1, n => by
    rw [show be (w + 1 + 1) n = be (w + 1) (n / 256) ++ [UInt8.ofNat (n % 256)] from rfl, be_cons w (n / 256)]
    simp only [be, List.cons_append]
    rw [Nat.div_div_eq_div_mul, Nat.pow_succ, Nat.mul_comm 256]
def body (kind gen index : Nat) (data : List UInt8) : List UInt8 := [75, 73, 83, 84] ++ [UInt8.ofNat kind] ++ be 8 gen ++ be 4 index ++ be 2 data.length ++ (data ++ List.replicate (489 - data.length) 0)
theorem body_length (kind gen index : Nat) (data : List UInt8) (h : data.length ≤ 486) : (body kind gen index data).length = 508 := by
  simp [body, be_length]; omega
def text (kind gen index : Nat) (data : List UInt8) : List UInt8 := body kind gen index data ++ be 4 (cieee (body kind gen index data))
theorem text_length (kind gen index : Nat) (data : List UInt8) (h : data.length ≤ 486) : (text kind gen index data).length = 512 := by
  unfold text; rw [List.length_append, body_length _ _ _ _ h, be_length]
def bad (kind : Nat) (gen index : Int) (data : List UInt8) : Prop := kind = 0 ∨ gen < 0 ∨ 4611686018427387904 < gen ∨ index < 0 ∨ 2147483647 < index ∨ 486 < data.length
instance (kind : Nat) (gen index : Int) (data : List UInt8) : Decidable (bad kind gen index data) := by unfold bad; infer_instance
def encodeR (kind : Nat) (gen index : Int) (data : List UInt8) : List UInt8 × Nat := if bad kind gen index data then ([], 200) else (text kind gen.toNat index.toNat data, 0)
structure R where
  kind : Nat
  gen : Int
  index : Int
  data : List UInt8
  deriving DecidableEq
def R0 : R := ⟨0, 0, 0, []⟩
/-- what bytes say as a number with a sign -/
def numI (s : List UInt8) : Int := if nb s < 9223372036854775808 then nb s else (nb s : Int) - 18446744073709551616
def decR (s : List UInt8) : R := ⟨(s.getD 4 0).toNat, numI ((s.drop 5).take 8), numI ((s.drop 13).take 4), (s.drop 19).take (nb ((s.drop 17).take 2))⟩
def decodeR (s : List UInt8) : R × Nat :=
  if s.length = 512 ∧ nb ((s.drop 17).take 2) ≤ 486 ∧ encodeR (decR s).kind (decR s).gen (decR s).index (decR s).data = (s, 0) then (decR s, 0) else (R0, 200)
end Go.Proofs.Ytfjaiokhpbddlaa.Rec
