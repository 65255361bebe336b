/-
  pax, in plain words: records. No program is spoken of.
-/
import Derived.Test.YtieojdkblakchaaDoorFieF
import Derived.Lib.IndexMore
namespace Go.Proofs.YtieojdkblakchaaDoor.Pax
open Fld
set_option linter.unusedSimpArgs false
set_option linter.unusedVariables false
abbrev By := List UInt8
structure Pr where
  key : By
  val : By
  deriving DecidableEq
/-! ### Where a text is cut -/
def cutAt (s : By) (c : UInt8) : By × By × Bool := if c ∈ s then (s.takeWhile (· != c), (s.dropWhile (· != c)).drop 1, true) else (s, [], false)
theorem cutAt_app {s : By} {c : UInt8} (h : c ∈ s) (t : By) : (cutAt (s ++ t) c).1 = (cutAt s c).1 ∧ (cutAt (s ++ t) c).2.2 = true := by
  have h2 : c ∈ s ++ t := List.mem_append_left _ h
  unfold cutAt
  rw [if_pos h, if_pos h2]
  refine ⟨?_, rfl⟩
  simp only
  induction s with
  | nil => simp at h
  | cons a s ih =>
    by_cases e : a = c
    · subst e; simp
    · have h3 : c ∈ s := by
        rcases List.mem_cons.1 h with h | h
        · exact absurd h.symm e
        · exact h
      simp [e, ih h3 (List.mem_append_left _ h3)]
theorem cutAt_len (s : By) (c : UInt8) : (cutAt s c).1.length ≤ s.length := by
  unfold cutAt
  split
  · exact (List.takeWhile_prefix _).length_le
  · exact Nat.le_refl _
theorem cutAt_lt {s : By} {c : UInt8} (h : (cutAt s c).2.2 = true) : (cutAt s c).1.length + (cutAt s c).2.1.length + 1 = s.length := by
  unfold cutAt at h ⊢
  split at h
  · rename_i hc
    rw [if_pos hc]
    have e := congrArg List.length (List.takeWhile_append_dropWhile (p := (· != c)) (l := s))
    rw [List.length_append] at e
    have hne : s.dropWhile (· != c) ≠ [] := by
      intro h0
      have e2 := List.takeWhile_append_dropWhile (p := (· != c)) (l := s)
      rw [h0, List.append_nil] at e2
      have e3 : (s.takeWhile (· != c)).all (· != c) = true := List.all_takeWhile
      rw [e2, List.all_eq_true] at e3
      simpa using e3 c hc
    have hp := List.length_pos_iff.2 hne
    simp only [List.length_drop]
    omega
  · cases h
/-! ### Reading -/
/-- one record: its pair, and how many bytes it has -/
def dstep (s : By) : Option (Pr × Nat) :=
  let d := cutAt s 32
  let n := (dec d.1).1
  if d.2.2 = true ∧ (dec d.1).2 = 0 ∧ n ≤ s.length ∧ d.1.length + 2 ≤ n ∧ s.getD (n - 1) 0 = 10 then
    let e := cutAt ((s.drop (d.1.length + 1)).take (n - 1 - (d.1.length + 1))) 61
    if e.2.2 = true ∧ e.1 ≠ [] then some (⟨e.1, e.2.1⟩, n) else none
  else none
def decL : Nat → By → List Pr → List Pr × Nat
  | 0, _, _ => ([], 170)
  | f + 1, s, out => if s = [] then (out, 0) else match dstep s with
    | some (p, n) => decL f (s.drop n) (out ++ [p])
    | none => ([], 170)
def decP (s : By) : List Pr × Nat := if 262144 < s.length then ([], 3) else decL (s.length + 1) s []
theorem dstep_pos {s : By} {p : Pr} {n : Nat} (h : dstep s = some (p, n)) : 2 ≤ n ∧ n ≤ s.length := by
  unfold dstep at h
  simp only at h
  split at h
  · rename_i hc
    split at h
    · cases h
      exact ⟨by omega, hc.2.2.1⟩
    · cases h
  · cases h
theorem dstep_app {s : By} {p : Pr} {n : Nat} (h : dstep s = some (p, n)) (t : By) : dstep (s ++ t) = some (p, n) := by
  unfold dstep at h ⊢
  simp only at h ⊢
  split at h
  · rename_i hc
    obtain ⟨h1, h2, h3, h4, h5⟩ := hc
    have hm : (32 : UInt8) ∈ s := by
      unfold cutAt at h1
      split at h1
      · assumption
      · cases h1
    obtain ⟨e1, e2⟩ := cutAt_app hm t
    rw [e1, e2]
    generalize (cutAt s 32).1 = d at *
    generalize (dec d).1 = m at *
    have hlt : m - 1 < s.length := by omega
    have g1 : (s ++ t).getD (m - 1) 0 = s.getD (m - 1) 0 := by
      simp only [List.getD_eq_getElem?_getD]
      rw [List.getElem?_append_left hlt]
    have g2 : ((s ++ t).drop (d.length + 1)).take (m - 1 - (d.length + 1)) = (s.drop (d.length + 1)).take (m - 1 - (d.length + 1)) := by
      rw [List.drop_append_of_le_length (by omega), List.take_append_of_le_length (by rw [List.length_drop]; omega)]
    rw [if_pos ⟨rfl, h2, by rw [List.length_append]; omega, h4, by rw [g1]; exact h5⟩, g2]
    exact h
  · cases h
/-- more fuel does not hurt -/
theorem decL_out : ∀ (f : Nat) (s : By) (out : List Pr), s.length < f → decL f s out = ((if (decL f s []).2 = 0 then out ++ (decL f s []).1 else []), (decL f s []).2) ∧ ∀ f', s.length < f' → decL f' s out = decL f s out
  | 0, s, out, h => by omega
  | f + 1, s, out, h => by
    by_cases hs : s = []
    · subst hs
      refine ⟨by simp [decL], fun f' h' => ?_⟩
      obtain ⟨g, rfl⟩ : ∃ g, f' = g + 1 := ⟨f' - 1, by simp at h'; omega⟩
      simp [decL]
    · rcases hd : dstep s with _ | ⟨p, n⟩
      · refine ⟨by simp [decL, hs, hd], fun f' h' => ?_⟩
        obtain ⟨g, rfl⟩ : ∃ g, f' = g + 1 := ⟨f' - 1, by omega⟩
        simp [decL, hs, hd]
      · obtain ⟨n2, nl⟩ := dstep_pos hd
        have hl : (s.drop n).length < f := by rw [List.length_drop]; omega
        obtain ⟨i1, _⟩ := decL_out f (s.drop n) (out ++ [p]) hl
        obtain ⟨i2, _⟩ := decL_out f (s.drop n) ([] ++ [p]) hl
        refine ⟨?_, fun f' h' => ?_⟩
        · rw [decL, if_neg hs, hd, decL, if_neg hs, hd]
          simp only
          rw [i1, i2]
          simp only
          split <;> simp_all
        · obtain ⟨g, rfl⟩ : ∃ g, f' = g + 1 := ⟨f' - 1, by omega⟩
          rw [decL, if_neg hs, hd, decL, if_neg hs, hd]
          exact (decL_out f (s.drop n) (out ++ [p]) hl).2 g (by rw [List.length_drop]; omega)
theorem decL_join : ∀ (f : Nat) (s t : By) (a : List Pr), s.length < f → decL f s [] = (a, 0) → ∀ out, decL ((s ++ t).length + 1) (s ++ t) out = decL (t.length + 1) t (out ++ a)
  | 0, s, t, a, h, _, _ => by omega
  | f + 1, s, t, a, h, he, out => by
    rw [decL] at he
    by_cases hs : s = []
    · subst hs
      simp at he
      subst he
      simp
    · rw [if_neg hs] at he
      rcases hd : dstep s with _ | ⟨p, n⟩
      · rw [hd] at he
        cases he
      · rw [hd] at he
        simp only at he
        obtain ⟨n2, nl⟩ := dstep_pos hd
        have hl : (s.drop n).length < f := by rw [List.length_drop]; omega
        have hne : s ++ t ≠ [] := by simp [hs]
        have e1 : (s ++ t).drop n = s.drop n ++ t := List.drop_append_of_le_length nl
        obtain ⟨i1, _⟩ := decL_out f (s.drop n) ([] ++ [p]) hl
        rw [i1] at he
        have h2 : (decL f (s.drop n) []).2 = 0 := congrArg Prod.snd he
        have h1 := congrArg Prod.fst he
        simp only [h2, if_true] at h1
        have ih := decL_join f (s.drop n) t (decL f (s.drop n) []).1 hl (by rw [← h2]) (out ++ [p])
        rw [decL, if_neg hne, dstep_app hd t]
        simp only
        rw [e1]
        obtain ⟨_, k1⟩ := decL_out ((s.drop n ++ t).length + 1) (s.drop n ++ t) (out ++ [p]) (by omega)
        rw [k1 _ (by simp only [List.length_append, List.length_drop]; omega), ih, ← h1]
        simp
theorem decP_join {s t : By} {a b : List Pr} (hl : s.length + t.length ≤ 20000) (ha : decP s = (a, 0)) (hb : decP t = (b, 0)) : decP (s ++ t) = (a ++ b, 0) := by
  unfold decP at ha hb ⊢
  rw [if_neg (by omega)] at ha hb
  rw [if_neg (by rw [List.length_append]; omega), decL_join _ s t a (by omega) ha]
  obtain ⟨i1, _⟩ := decL_out (t.length + 1) t ([] ++ a) (by omega)
  rw [i1, hb]
  simp
/-! ### The last one -/
def lastP (l : List Pr) (key : By) : By × Bool := match l.reverse.find? (fun p => decide (p.key = key)) with
  | some p => (p.val, true)
  | none => ([], false)
theorem lastP_app (a b : List Pr) (key : By) : lastP (a ++ b) key = if (lastP b key).2 = true then lastP b key else lastP a key := by
  unfold lastP
  rw [List.reverse_append, List.find?_append]
  generalize List.find? (fun p => decide (p.key = key)) b.reverse = o
  generalize List.find? (fun p => decide (p.key = key)) a.reverse = o'
  cases o with
  | none => cases o' <;> rfl
  | some p => rfl
theorem lastP_snoc (l : List Pr) (p : Pr) (key : By) : lastP (l ++ [p]) key = if p.key = key then (p.val, true) else lastP l key := by
  rw [lastP_app]
  unfold lastP
  by_cases h : p.key = key <;> simp [h]
/-! ### Laying -/
def dl (n : Nat) : Nat := (Lib.decDigits n).length
def dOf (r : Nat) : Nat := ((List.range 40).find? (fun d => decide (1 ≤ d ∧ dl (d + r) = d))).getD 0
def IsD (r d : Nat) : Prop := 1 ≤ d ∧ d < 40 ∧ dl (d + r) = d ∧ ∀ d', 1 ≤ d' → d' < d → dl (d' + r) ≠ d'
theorem isD_val {r d : Nat} (h : IsD r d) : d = dOf r := by
  obtain ⟨h1, h2, h3, h4⟩ := h
  unfold dOf
  have : (List.range 40).find? (fun d => decide (1 ≤ d ∧ dl (d + r) = d)) = some d := by
    rw [List.find?_range_eq_some]
    refine ⟨by simp [h1, h3], by simpa using h2, fun j hj => ?_⟩
    simp only [Bool.not_eq_true', decide_eq_false_iff_not, not_and]
    exact fun hj1 => h4 j hj1 hj
  rw [this]
  rfl
def rest (p : Pr) : Nat := p.key.length + p.val.length + 3
def sizeP (p : Pr) : Nat := dOf (rest p) + rest p
def recT (p : Pr) : By := Lib.decDigits (sizeP p) ++ [32] ++ p.key ++ [61] ++ p.val ++ [10]
def okK (k : By) : Bool := decide (k ≠ [] ∧ (61 : UInt8) ∉ k)
/-- the texts' total, the bytes written -/
def encL : List Pr → Nat → By → By × Nat
  | [], _, out => (out, 0)
  | p :: l, n, out => if 262144 < n + sizeP p then ([], 3) else encL l (n + sizeP p) (out ++ recT p)
def encP (l : List Pr) : By × Nat := if l.all (fun p => okK p.key) then encL l 0 [] else ([], 170)
theorem dl_mono : ∀ (n m : Nat), n ≤ m → dl n ≤ dl m := by
  intro n
  induction n using Nat.strongRecOn with
  | ind n ih =>
    intro m h
    unfold dl
    by_cases hm : m < 10
    · rw [dec_small hm, dec_small (by omega : n < 10)]
      exact Nat.le_refl _
    · rw [dec_step hm]
      by_cases hn : n < 10
      · rw [dec_small hn]
        simp
      · rw [dec_step hn]
        have := ih (n / 10) (by omega) (m / 10) (by omega)
        unfold dl at this
        simp only [List.length_append, List.length_singleton]
        omega
theorem dl_pos (n : Nat) : 1 ≤ dl n := List.length_pos_iff.2 (dec_ne n)
theorem dl_le : ∀ (k n : Nat), n < 10 ^ k → 1 ≤ k → dl n ≤ k
  | 0, n, _, h => by omega
  | 1, n, h, _ => by
    unfold dl
    rw [dec_small (by simpa using h)]
    exact Nat.le_refl _
  | k + 2, n, h, _ => by
    by_cases hn : n < 10
    · unfold dl
      rw [dec_small hn]
      simp
    · have := dl_le (k + 1) (n / 10) (by rw [Nat.pow_succ] at h; omega) (by omega)
      unfold dl at this ⊢
      rw [dec_step hn]
      simp only [List.length_append, List.length_singleton]
      omega
end Go.Proofs.YtieojdkblakchaaDoor.Pax
