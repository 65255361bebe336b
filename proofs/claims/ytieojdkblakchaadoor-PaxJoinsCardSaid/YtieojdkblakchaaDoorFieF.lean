/-
  fields, in plain words: what is read is what was laid. No program is spoken of.
-/
import Derived.Test.YtieojdkblakchaaDoorFieD
namespace Go.Proofs.YtieojdkblakchaaDoor.Fld
open Go.Proofs.YtieojdkblakchaaDoor
set_option linter.unusedSimpArgs false
set_option linter.unusedVariables false

theorem dgtN {d : Nat} (h : d < 10) : (dgt d).toNat = 48 + d := by simp [dgt]; omega
theorem octs_all : ∀ (k n : Nat) (c : UInt8), c ∈ octs n k → oct c = true
  | 0, n, c, h => by simp [octs] at h
  | k + 1, n, c, h => by
    simp only [octs, List.mem_append, List.mem_singleton] at h
    rcases h with h | rfl
    · exact octs_all k _ c h
    · simp only [oct, Bool.and_eq_true, decide_eq_true_eq]
      rw [dgtN (by omega)]
      omega
theorem fold_octs : ∀ (k n : Nat), n / 8 ^ k = 0 → n ≤ 9007199254740992 → fold 8 0 (octs n k) = n
  | 0, n, h, hn => by simp at h; simp [octs, fold, h]
  | k + 1, n, h, hn => by
    have ih := fold_octs k (n / 8) (by rw [Nat.div_div_eq_div_mul, Nat.mul_comm, ← Nat.pow_succ]; exact h) (by omega)
    rw [octs, fold_snoc, ih, if_pos (by omega), dgtN (by omega)]
    omega
theorem num_octs {k n : Nat} (hk : 1 ≤ k) (h : n / 8 ^ k = 0) (hn : n ≤ 9007199254740992) : num (octs n k ++ [0]) = (n, 0) := by
  obtain ⟨j, rfl⟩ : ∃ j, k = j + 1 := ⟨k - 1, by omega⟩
  have e1 : (octs n (j + 1) ++ [0]).dropWhile (one 32 32) = octs n (j + 1) ++ [0] := by
    rw [octs_cons, List.cons_append, List.dropWhile_cons_of_neg]
    simp only [one, Bool.or_eq_true, decide_eq_true_eq]
    rw [dgtN (by omega)]
    omega
  have e2 : (octs n (j + 1) ++ [0]).takeWhile oct = octs n (j + 1) := by
    rw [List.takeWhile_append_of_pos (fun a ha => octs_all _ _ a ha)]
    simp [oct]
  have e3 : (octs n (j + 1) ++ [0]).dropWhile oct = [0] := by
    rw [List.dropWhile_append_of_pos (fun a ha => octs_all _ _ a ha)]
    decide
  unfold num
  simp only [e1, e2, e3, fold_octs _ _ h hn]
  rw [if_neg (by decide), if_neg (by omega)]
theorem head_app {l m : List UInt8} (h : l ≠ []) : (l ++ m).head? = l.head? := by
  cases l with
  | nil => exact absurd rfl h
  | cons a l => rfl
/-! ### Decimals -/
theorem dec_ne (n : Nat) : Lib.decDigits n ≠ [] := by
  by_cases h : n < 10
  · rw [dec_small h]; simp
  · rw [dec_step h]; simp
theorem dec_all (n : Nat) : ∀ c ∈ Lib.decDigits n, dig c = true := by
  induction n using Nat.strongRecOn with
  | ind n ih =>
    intro c hc
    have hd : ∀ d, d < 10 → dig (dgt d) = true := fun d hd => by
      simp only [dig, Bool.and_eq_true, decide_eq_true_eq]
      rw [dgtN hd]
      omega
    by_cases h : n < 10
    · rw [dec_small h, List.mem_singleton] at hc
      rw [hc]; exact hd n h
    · rw [dec_step h, List.mem_append, List.mem_singleton] at hc
      rcases hc with hc | rfl
      · exact ih _ (by omega) c hc
      · exact hd _ (by omega)
theorem dec_head (n : Nat) (hn : 0 < n) : (Lib.decDigits n).head? ≠ some 48 := by
  induction n using Nat.strongRecOn with
  | ind n ih =>
    by_cases h : n < 10
    · rw [dec_small h]
      simp only [List.head?_cons, ne_eq, Option.some.injEq]
      intro e
      have := dgtN h
      rw [e] at this
      have h48 : (48 : UInt8).toNat = 48 := rfl
      omega
    · rw [dec_step h]
      have hne := dec_ne (n / 10)
      rw [head_app hne]
      exact ih _ (by omega) (by omega)
theorem fold_dec (n : Nat) (hn : n ≤ 9007199254740992) : fold 10 0 (Lib.decDigits n) = n := by
  induction n using Nat.strongRecOn with
  | ind n ih =>
    by_cases h : n < 10
    · rw [dec_small h]
      simp only [fold]
      rw [if_pos (by omega), dgtN h]
      omega
    · rw [dec_step h, fold_snoc, ih _ (by omega) (by omega), if_pos (by omega), dgtN (by omega)]
      omega
theorem dec_dec (n : Nat) (hn : n ≤ 9007199254740992) : dec (Lib.decDigits n) = (n, 0) := by
  unfold dec
  rw [if_neg, if_pos (List.all_eq_true.2 (dec_all n)), fold_dec n hn, if_neg (by omega)]
  rintro (h | ⟨h1, h2⟩)
  · exact dec_ne n h
  · rcases Nat.eq_zero_or_pos n with rfl | hp
    · exact h2 (by rw [dec_small (by decide)]; rfl)
    · exact dec_head n hp h1
theorem dgt_of {c : UInt8} (h : dig c = true) : dgt (c.toNat - 48) = c := by
  simp only [dig, Bool.and_eq_true, decide_eq_true_eq] at h
  apply UInt8.toNat_inj.1
  rw [dgtN (by omega)]
  omega
theorem dec_canon : ∀ (n : Nat) (s : List UInt8), s.length = n → s.all dig = true → ¬ (s = [] ∨ (s.head? = some 48 ∧ s ≠ [48])) → fold 10 0 s ≤ 9007199254740992 → Lib.decDigits (fold 10 0 s) = s
  | 0, s, hl, _, hg, _ => absurd (.inl (List.eq_nil_of_length_eq_zero hl)) hg
  | n + 1, s, hl, ha, hg, hf => by
    have hne : s ≠ [] := fun h => hg (.inl h)
    obtain ⟨l, c, rfl⟩ : ∃ l c, s = l ++ [c] := ⟨s.dropLast, s.getLast hne, (List.dropLast_concat_getLast hne).symm⟩
    rw [List.all_append, Bool.and_eq_true] at ha
    have hc : dig c = true := by simpa using ha.2
    have hcd := hc
    simp only [dig, Bool.and_eq_true, decide_eq_true_eq] at hcd
    rw [fold_snoc] at hf ⊢
    by_cases hl0 : l = []
    · subst hl0
      have hz : (if fold 10 0 [] ≤ 9007199254740992 then 10 * fold 10 0 [] + (c.toNat - 48) else fold 10 0 []) = c.toNat - 48 := by
        rw [if_pos (by decide)]
        show 10 * 0 + _ = _
        omega
      rw [hz, dec_small (by omega), dgt_of hc]
      rfl
    · have hh : l.head? ≠ some 48 := by
        intro h
        refine hg (.inr ⟨by rw [head_app hl0]; exact h, fun e => ?_⟩)
        have := congrArg List.length e
        simp at this
        exact hl0 this
      by_cases hm : fold 10 0 l ≤ 9007199254740992
      · have ih := dec_canon n l (by simpa using hl) ha.1 (by rintro (h | ⟨h, _⟩); exact hl0 h; exact hh h) hm
        rw [if_pos hm] at hf ⊢
        have hpos : 0 < fold 10 0 l := by
          rcases Nat.eq_zero_or_pos (fold 10 0 l) with h | h
          · rw [h, dec_small (by decide)] at ih
            exact absurd (by rw [← ih]; rfl) hh
          · exact h
        rw [dec_step (by omega), show (10 * fold 10 0 l + (c.toNat - 48)) / 10 = fold 10 0 l by omega, show (10 * fold 10 0 l + (c.toNat - 48)) % 10 = c.toNat - 48 by omega, ih, dgt_of hc]
      · rw [if_neg hm] at hf
        omega
theorem digits_dec {s : List UInt8} (h : (dec s).2 = 0) : digits ((dec s).1 : Nat) = s := by
  unfold dec at h ⊢
  split at h
  · simp at h
  · rename_i hg
    rw [if_neg hg]
    split at h
    · rename_i ha
      rw [if_pos ha]
      split at h
      · simp at h
      · rename_i hf
        rw [if_neg hf]
        unfold digits
        rw [if_neg (by omega)]
        exact dec_canon _ s rfl ha hg (by omega)
    · simp at h
theorem cut_nul {s : List UInt8} (h : cut s = s) (k : Nat) : cut (s ++ nul k) = s := by
  have h0 := (cut_eq_iff s).1 h
  unfold cut nul
  rw [List.takeWhile_append_of_pos (by
    intro a ha
    simp only [bne_iff_ne, ne_eq]
    rintro rfl
    exact h0 ha)]
  cases k <;> simp [List.replicate_succ]
/-! ### Another byte -/
theorem sumTo_set (s : List UInt8) (k : Nat) (v : UInt8) (hk : k < s.length) : ∀ i, sumTo (s.set k v) i + (if k < i ∧ ¬ (148 ≤ k ∧ k < 156) then (s.getD k 0).toNat else 0) = sumTo s i + (if k < i ∧ ¬ (148 ≤ k ∧ k < 156) then v.toNat else 0)
  | 0 => by simp [sumTo]
  | i + 1 => by
    have ih := sumTo_set s k v hk i
    have hg : i ≠ k → (s.set k v).getD i 0 = s.getD i 0 := fun h => by
      simp only [List.getD_eq_getElem?_getD]
      rw [List.getElem?_set_ne (Ne.symm h)]
    have hg' : (s.set k v).getD k 0 = v := by simp [List.getD_eq_getElem?_getD, hk]
    simp only [sumTo]
    by_cases hik : i = k
    · subst hik
      rw [hg']
      by_cases h1 : 148 ≤ i ∧ i < 156
      · have e1 : ¬ (i < i + 1 ∧ ¬ (148 ≤ i ∧ i < 156)) := by omega
        have e2 : ¬ (i < i ∧ ¬ (148 ≤ i ∧ i < 156)) := by omega
        simp only [if_neg e2] at ih
        simp only [if_neg e1, if_pos h1]
        omega
      · rw [if_neg (by omega : ¬ (i < i ∧ ¬ (148 ≤ i ∧ i < 156))), if_neg (by omega : ¬ (i < i ∧ ¬ (148 ≤ i ∧ i < 156)))] at ih
        rw [if_neg h1, if_neg h1, if_pos ⟨by omega, h1⟩, if_pos ⟨by omega, h1⟩]
        omega
    · rw [hg hik]
      by_cases h1 : k < i
      · have e : (k < i + 1 ∧ ¬ (148 ≤ k ∧ k < 156)) ↔ (k < i ∧ ¬ (148 ≤ k ∧ k < 156)) := by omega
        simp only [e]
        omega
      · have e1 : ¬ (k < i + 1 ∧ ¬ (148 ≤ k ∧ k < 156)) := by omega
        have e2 : ¬ (k < i ∧ ¬ (148 ≤ k ∧ k < 156)) := by omega
        simp only [if_neg e1, if_neg e2] at ih ⊢
        omega
theorem sum_set {s : List UInt8} (h : s.length = 512) {k : Nat} (hk : k < 512) (v : UInt8) (hv : v.toNat ≠ (s.getD k 0).toNat) : (sumTo s 512 = sumTo (s.set k v) 512) ↔ (148 ≤ k ∧ k < 156) := by
  have := sumTo_set s k v (by omega) 512
  by_cases h1 : 148 ≤ k ∧ k < 156
  · have e : ¬ (k < 512 ∧ ¬ (148 ≤ k ∧ k < 156)) := by omega
    simp only [if_neg e] at this
    omega
  · have e : (k < 512 ∧ ¬ (148 ≤ k ∧ k < 156)) := ⟨hk, h1⟩
    simp only [if_pos e] at this
    omega
end Go.Proofs.YtieojdkblakchaaDoor.Fld
