/-
  paths, in plain words: how paths are compared, parted, and lie within each other. No program is spoken of.
-/
import Derived.Test.YtifnlmpnkjhlnaaDoorPthD
import Derived.Lib.Bytealg
import Derived.Lib.Split
import Derived.Lib.SplitLaws
import Derived.Lib.IndexBytes
import Derived.Lib.IndexLaws
import Derived.Lib.CountLaws
namespace Go.Proofs.YtifnlmpnkjhlnaaDoor.Pth
set_option linter.unusedSimpArgs false
set_option linter.unusedVariables false
open Go.Lib
theorem split_parts : ∀ (k : Nat) (s : List UInt8), count s [47] = k → splitK [47] 0 k s = parts s
  | 0, s, hk => by
    have hn : ∀ c ∈ s, c ≠ 47 := by
      intro c hc e
      subst e
      have hi := index_one s 47
      rcases Int.lt_or_le (index s [47]) 0 with h | h
      · have := index_ge s [47]
        have h1 : indexByte s 47 = -1 := by rw [← hi]; omega
        obtain ⟨j, hj⟩ := List.getElem?_of_mem hc
        exact indexByte_none h1 j hj
      · obtain ⟨i, hi'⟩ := Int.eq_ofNat_of_zero_le h
        have := count_hit (s := s) (sub := [47]) (by simp) hi'
        omega
    rw [splitK, parts_whole s hn]
  | k + 1, s, hk => by
    have hne : ¬ index s [47] = -1 := fun h => by rw [count_miss h] at hk; omega
    have hge := index_ge s [47]
    obtain ⟨i, hi⟩ := Int.eq_ofNat_of_zero_le (show 0 ≤ index s [47] by omega)
    have hc := count_hit (s := s) (sub := [47]) (by simp) hi
    have hb : indexByte s 47 = i := by rw [← index_one]; exact hi
    obtain ⟨h1, h2⟩ := indexByte_some hb
    have hlt : i < s.length := (List.getElem?_eq_some_iff.1 h1).1
    have hs : s = s.take i ++ 47 :: s.drop (i + 1) := by
      have e := List.take_append_drop i s
      rw [List.drop_eq_getElem_cons hlt] at e
      have e2 : s[i] = 47 := by
        have := List.getElem?_eq_getElem hlt
        rw [this] at h1
        exact Option.some.inj h1
      rw [e2] at e
      exact e.symm
    have hn : ∀ c ∈ s.take i, c ≠ 47 := by
      intro c hc' e
      subst e
      obtain ⟨j, hj⟩ := List.getElem?_of_mem hc'
      have hji : j < i := by
        have := (List.getElem?_eq_some_iff.1 hj).1
        rw [List.length_take] at this
        omega
      rw [List.getElem?_take_of_lt hji] at hj
      exact h2 j hji hj
    have hbe : ¬ (index s [47] == -1) = true := fun e => hne (beq_iff_eq.1 e)
    rw [splitK, if_neg hbe, show (index s [47]).toNat = i by omega, Nat.add_zero]
    have ih := split_parts k (s.drop (i + 1)) (by simp only [List.length_singleton] at hc; omega)
    rw [show i + [(47 : UInt8)].length = i + 1 from rfl, ih]
    conv => rhs; rw [hs]
    rw [parts_slash _ _ hn]
/-! ### In one order -/
def cmpL : Txts → Txts → Int
  | [], [] => 0
  | [], _ :: _ => -1
  | _ :: _, [] => 1
  | x :: xs, y :: ys => if x = y then cmpL xs ys else compareBytes x y
def cmpP (a b : List UInt8) : Int := cmpL (parts a) (parts b)
theorem cb_eq : ∀ x y : List UInt8, compareBytes x y = 0 ↔ x = y
  | [], [] => by simp [compareBytes]
  | [], _ :: _ => by simp [compareBytes]
  | _ :: _, [] => by simp [compareBytes]
  | a :: x, b :: y => by
    have ih := cb_eq x y
    unfold compareBytes
    split
    · rename_i h
      have : a ≠ b := fun e => by subst e; exact absurd h (by simp)
      simp [this]
    · split
      · rename_i h
        have : a ≠ b := fun e => by subst e; exact absurd h (by simp)
        simp [this]
      · rename_i h1 h2
        have : a = b := by
          have h1' : ¬ a.toNat < b.toNat := h1
          have h2' : ¬ b.toNat < a.toNat := h2
          exact UInt8.toNat_inj.1 (by omega)
        subst this
        rw [ih]
        simp
theorem cb_val : ∀ x y : List UInt8, compareBytes x y = -1 ∨ compareBytes x y = 0 ∨ compareBytes x y = 1
  | [], [] => by simp [compareBytes]
  | [], _ :: _ => by simp [compareBytes]
  | _ :: _, [] => by simp [compareBytes]
  | a :: x, b :: y => by
    unfold compareBytes
    split
    · simp
    · split
      · simp
      · exact cb_val x y
theorem cb_neg : ∀ x y : List UInt8, compareBytes y x = - compareBytes x y
  | [], [] => by simp [compareBytes]
  | [], _ :: _ => by simp [compareBytes]
  | _ :: _, [] => by simp [compareBytes]
  | a :: x, b :: y => by
    have ih := cb_neg x y
    unfold compareBytes
    by_cases h1 : a < b
    · have h1' : a.toNat < b.toNat := h1
      have h2 : ¬ b < a := fun h => by have h' : b.toNat < a.toNat := h; omega
      simp [h1, h2]
    · by_cases h2 : b < a
      · simp [h1, h2]
      · simp [h1, h2, ih]
theorem cb_trans : ∀ x y z : List UInt8, compareBytes x y ≤ 0 → compareBytes y z ≤ 0 → compareBytes x z ≤ 0
  | [], y, [], _, _ => by simp [compareBytes]
  | [], y, _ :: _, _, _ => by simp [compareBytes]
  | a :: x, [], z, h, _ => by simp [compareBytes] at h
  | a :: x, b :: y, [], _, h => by simp [compareBytes] at h
  | a :: x, b :: y, c :: z, h1, h2 => by
    have ih := cb_trans x y z
    unfold compareBytes at h1 h2 ⊢
    have lt : ∀ p q : UInt8, (p < q) = (p.toNat < q.toNat) := fun _ _ => rfl
    simp only [lt] at h1 h2 ⊢
    split at h1
    · split at h2
      · rw [if_pos (by omega)]; decide
      · split at h2
        · omega
        · rw [if_pos (by omega)]; decide
    · split at h1
      · omega
      · split at h2
        · rw [if_pos (by omega)]; decide
        · split at h2
          · omega
          · rw [if_neg (by omega), if_neg (by omega)]
            exact ih h1 h2
theorem cmpL_val : ∀ x y : Txts, cmpL x y = -1 ∨ cmpL x y = 0 ∨ cmpL x y = 1
  | [], [] => by simp [cmpL]
  | [], _ :: _ => by simp [cmpL]
  | _ :: _, [] => by simp [cmpL]
  | a :: x, b :: y => by
    unfold cmpL
    split
    · exact cmpL_val x y
    · exact cb_val a b
theorem cmpL_eq : ∀ x y : Txts, cmpL x y = 0 ↔ x = y
  | [], [] => by simp [cmpL]
  | [], _ :: _ => by simp [cmpL]
  | _ :: _, [] => by simp [cmpL]
  | a :: x, b :: y => by
    unfold cmpL
    split
    · rename_i h; rw [cmpL_eq x y]; simp [h]
    · rename_i h
      rw [cb_eq]
      simp [h]
theorem cmpL_neg : ∀ x y : Txts, cmpL y x = - cmpL x y
  | [], [] => by simp [cmpL]
  | [], _ :: _ => by simp [cmpL]
  | _ :: _, [] => by simp [cmpL]
  | a :: x, b :: y => by
    unfold cmpL
    by_cases h : a = b
    · rw [if_pos h.symm, if_pos h]; exact cmpL_neg x y
    · rw [if_neg (fun e => h e.symm), if_neg h]; exact cb_neg a b
theorem cmpL_trans : ∀ x y z : Txts, cmpL x y ≤ 0 → cmpL y z ≤ 0 → cmpL x z ≤ 0
  | [], y, [], _, _ => by simp [cmpL]
  | [], y, _ :: _, _, _ => by simp [cmpL]
  | a :: x, [], z, h, _ => by simp [cmpL] at h
  | a :: x, b :: y, [], _, h => by simp [cmpL] at h
  | a :: x, b :: y, c :: z, h1, h2 => by
    have ih := cmpL_trans x y z
    unfold cmpL at h1 h2 ⊢
    by_cases e1 : a = b
    · subst e1
      rw [if_pos rfl] at h1
      by_cases e2 : a = c
      · rw [if_pos e2] at h2 ⊢
        exact ih h1 h2
      · rw [if_neg e2] at h2 ⊢
        exact h2
    · rw [if_neg e1] at h1
      by_cases e2 : b = c
      · subst e2
        rw [if_neg e1]
        exact h1
      · rw [if_neg e2] at h2
        have h3 := cb_trans a b c h1 h2
        by_cases e3 : a = c
        · subst e3
          have h4 := cb_neg a b
          have h5 : compareBytes a b = 0 := by omega
          exact absurd ((cb_eq a b).1 h5) e1
        · rw [if_neg e3]
          exact h3
/-- texts from their parts -/
def glue : Txts → List UInt8
  | [] => []
  | [x] => x
  | x :: y :: l => x ++ 47 :: glue (y :: l)
theorem glue_parts : ∀ s, glue (parts s) = s
  | [] => rfl
  | c :: s => by
    have ih := glue_parts s
    rw [parts_cons]
    split
    · rename_i h
      subst h
      rcases hp : parts s with _ | ⟨p, r⟩
      · exact absurd hp (parts_ne s)
      · rw [hp] at ih
        simp [glue, ih]
    · rcases hp : parts s with _ | ⟨p, r⟩
      · exact absurd hp (parts_ne s)
      · rw [hp] at ih
        cases r with
        | nil => simp [glue] at ih ⊢; exact ih
        | cons q r => simp [glue] at ih ⊢; exact ih
theorem cmpP_eq (a b : List UInt8) : cmpP a b = 0 ↔ a = b := by
  unfold cmpP
  rw [cmpL_eq]
  constructor
  · intro h
    rw [← glue_parts a, ← glue_parts b, h]
  · rintro rfl; rfl
def underB (dir p : List UInt8) : Bool := decide (dir.length < p.length ∧ p.take dir.length = dir ∧ p[dir.length]? = some 47)
theorem under_iff (dir p : List UInt8) : underB dir p = true ↔ ∃ r, p = dir ++ 47 :: r := by
  unfold underB
  rw [decide_eq_true_eq]
  constructor
  · rintro ⟨h1, h2, h3⟩
    refine ⟨p.drop (dir.length + 1), ?_⟩
    have e := List.take_append_drop dir.length p
    rw [h2, List.drop_eq_getElem_cons h1] at e
    rw [List.getElem?_eq_getElem h1] at h3
    rw [Option.some.inj h3] at e
    exact e.symm
  · rintro ⟨r, rfl⟩
    refine ⟨by simp, by simp, by simp⟩
theorem parts_app : ∀ (a b : List UInt8), parts (a ++ 47 :: b) = parts a ++ parts b
  | [], b => by simp [parts]
  | c :: a, b => by
    rw [List.cons_append, parts_cons, parts_cons, parts_app a b]
    split
    · rfl
    · rcases hp : parts a with _ | ⟨p, r⟩
      · exact absurd hp (parts_ne a)
      · rfl
theorem cmpL_pre : ∀ (x r : Txts), r ≠ [] → cmpL x (x ++ r) = -1
  | [], [], h => absurd rfl h
  | [], _ :: _, _ => rfl
  | a :: x, r, h => by
    rw [List.cons_append, cmpL, if_pos rfl]
    exact cmpL_pre x r h
/-- what stands behind x, and does not begin with it, stands behind all that begins with x -/
theorem cmpL_between : ∀ (x r z : Txts), cmpL x z = -1 → ¬ (∃ t, z = x ++ t) → cmpL (x ++ r) z = -1
  | [], r, z, _, h => absurd ⟨z, rfl⟩ h
  | a :: x, r, [], h, _ => by simp [cmpL] at h
  | a :: x, r, c :: z, h, hn => by
    rw [List.cons_append]
    unfold cmpL at h ⊢
    by_cases e : a = c
    · rw [if_pos e] at h ⊢
      refine cmpL_between x r z h fun ⟨t, ht⟩ => hn ⟨t, by rw [ht, e]; rfl⟩
    · rw [if_neg e] at h ⊢
      exact h
/-- texts whose parts begin with another's -/
theorem glue_app : ∀ (x t : Txts), x ≠ [] → t ≠ [] → glue (x ++ t) = glue x ++ 47 :: glue t
  | [a], t, _, ht => by
    cases t with
    | nil => exact absurd rfl ht
    | cons b t => rfl
  | a :: b :: x, t, _, ht => by
    have ih := glue_app (b :: x) t (by simp) ht
    simp only [List.cons_append, glue] at ih ⊢
    rw [ih]
    simp
end Go.Proofs.YtifnlmpnkjhlnaaDoor.Pth
