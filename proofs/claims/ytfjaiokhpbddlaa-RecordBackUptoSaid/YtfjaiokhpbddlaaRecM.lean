/-
  record, in plain words: what is read of what was laid; members. No program is spoken of.
-/
import Derived.Test.YtfjaiokhpbddlaaRecD
namespace Go.Proofs.Ytfjaiokhpbddlaa.Rec
open Go.Proofs.Ytfjaiokhpbddlaa Pth
set_option linter.unusedSimpArgs false
set_option linter.unusedVariables false
section
variable (k g i : Nat) (d : List UInt8)
def tl (k g i : Nat) (d : List UInt8) : List UInt8 := List.replicate (489 - d.length) 0 ++ be 4 (cieee (body k g i d))
theorem text_eq : text k g i d = [75, 73, 83, 84] ++ ([UInt8.ofNat k] ++ (be 8 g ++ (be 4 i ++ (be 2 d.length ++ (d ++ tl k g i d))))) := by
  unfold text tl
  rw [show body k g i d = [75, 73, 83, 84] ++ [UInt8.ofNat k] ++ be 8 g ++ be 4 i ++ be 2 d.length ++ (d ++ List.replicate (489 - d.length) 0) from rfl]
  simp only [List.append_assoc]
theorem text_drop5 : (text k g i d).drop 5 = be 8 g ++ (be 4 i ++ (be 2 d.length ++ (d ++ tl k g i d))) := by rw [text_eq]; rfl
theorem drop_more {a b : List UInt8} {s : List UInt8} {n m j : Nat} (h : s.drop n = a ++ b) (ha : a.length = m) (hj : n + m = j) : s.drop j = b := by
  rw [← hj, ← List.drop_drop, h, List.drop_left' ha]
theorem text_drop13 : (text k g i d).drop 13 = be 4 i ++ (be 2 d.length ++ (d ++ tl k g i d)) := drop_more (text_drop5 k g i d) (be_length 8 g) rfl
theorem text_drop17 : (text k g i d).drop 17 = be 2 d.length ++ (d ++ tl k g i d) := drop_more (text_drop13 k g i d) (be_length 4 i) rfl
theorem text_drop19 : (text k g i d).drop 19 = d ++ tl k g i d := drop_more (text_drop17 k g i d) (be_length 2 _) rfl
theorem text_k : (text k g i d).getD 4 0 = UInt8.ofNat k := by rw [text_eq]; rfl
end
theorem numI_be {w n : Nat} (h : n < 256 ^ w) (h2 : n < 9223372036854775808) : numI (be w n) = n := by
  unfold numI
  rw [nb_be w n h, if_pos h2]
theorem not_bad {k : Nat} {g i : Int} {d : List UInt8} (h : ¬ bad k g i d) : k ≠ 0 ∧ 0 ≤ g ∧ g ≤ 4611686018427387904 ∧ 0 ≤ i ∧ i ≤ 2147483647 ∧ d.length ≤ 486 := by
  unfold bad at h
  refine ⟨fun e => h (.inl e), ?_, ?_, ?_, ?_, ?_⟩ <;> omega
theorem decR_text {k : Nat} {g i : Int} {d : List UInt8} (hk : k ≤ 255) (h : ¬ bad k g i d) : decR (text k g.toNat i.toNat d) = ⟨k, g, i, d⟩ ∧ nb (((text k g.toNat i.toNat d).drop 17).take 2) = d.length := by
  obtain ⟨_, h1, h2, h3, h4, h5⟩ := not_bad h
  have e0 : ((text k g.toNat i.toNat d).getD 4 0).toNat = k := by rw [text_k]; simp; omega
  have e1 : numI (((text k g.toNat i.toNat d).drop 5).take 8) = g := by
    rw [text_drop5, List.take_left' (be_length _ _), numI_be (by simp only [Nat.reducePow]; omega) (by omega)]
    omega
  have e2 : numI (((text k g.toNat i.toNat d).drop 13).take 4) = i := by
    rw [text_drop13, List.take_left' (be_length _ _), numI_be (by simp only [Nat.reducePow]; omega) (by omega)]
    omega
  have e3 : nb (((text k g.toNat i.toNat d).drop 17).take 2) = d.length := by
    rw [text_drop17, List.take_left' (be_length _ _), nb_be _ _ (by simp only [Nat.reducePow]; omega)]
  refine ⟨?_, e3⟩
  unfold decR
  rw [e0, e1, e2, e3, text_drop19, List.take_left' rfl]
/-- a record is read as it was laid -/
theorem dec_enc {k : Nat} {g i : Int} {d t : List UInt8} (hk : k ≤ 255) (h : encodeR k g i d = (t, 0)) : decodeR t = (⟨k, g, i, d⟩, 0) := by
  unfold encodeR at h
  split at h
  · simp at h
  · rename_i hb
    simp only [Prod.mk.injEq, and_true] at h
    subst h
    obtain ⟨e1, e2⟩ := decR_text hk hb
    have h5 := (not_bad hb).2.2.2.2.2
    unfold decodeR
    rw [e1, e2, if_pos]
    refine ⟨text_length _ _ _ _ h5, h5, ?_⟩
    unfold encodeR
    rw [if_neg hb]
structure M where
  path : List UInt8
  start : Int
  sectors : Int
  size : Int
  sum : Nat
  deriving DecidableEq
def mayM (m : M) : Prop := checkP m.path = 0 ∧ 30 ≤ m.start ∧ 1 ≤ m.sectors ∧ m.sectors ≤ 4096 ∧ m.start + m.sectors ≤ 4096 ∧ 0 ≤ m.size ∧ m.size ≤ 8192
instance (m : M) : Decidable (mayM m) := by unfold mayM; infer_instance
def checkM (m : M) : Nat := if mayM m then 0 else 200
def memberT (m : M) : List UInt8 := be 1 m.path.length ++ m.path ++ be 2 m.start.toNat ++ be 2 m.sectors.toNat ++ be 2 m.size.toNat ++ be 4 m.sum
def memberM (m : M) : List UInt8 × Nat := if mayM m then (memberT m, 0) else ([], 200)
theorem may_path {m : M} (h : mayM m) : m.path.length ≤ 120 ∧ m.path ≠ [] := by
  have h1 := h.1
  unfold checkP at h1
  split at h1
  · rename_i e
    unfold cleanP at e
    split at e
    · rename_i h2
      simp only [Prod.mk.injEq, and_true] at e
      rw [e] at h2
      exact ⟨h2.2.2.2, h2.2.2.1⟩
    · simp at e
  · simp at h1
theorem be_one (n : Nat) (h : n ≤ 255) : be 1 n = [UInt8.ofNat n] := by
  simp only [be, List.nil_append]
  rw [Nat.mod_eq_of_lt (by omega)]
end Go.Proofs.Ytfjaiokhpbddlaa.Rec
