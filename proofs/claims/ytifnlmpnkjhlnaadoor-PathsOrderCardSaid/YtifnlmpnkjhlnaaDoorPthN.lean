/-
  paths, in plain words: a clean path stays as it is. No program is spoken of.
-/
import Derived.Test.YtifnlmpnkjhlnaaDoorPthD
namespace Go.Proofs.YtifnlmpnkjhlnaaDoor.Pth
set_option linter.unusedSimpArgs false
set_option linter.unusedVariables false

theorem parts_no47 : ∀ (s x : List UInt8), x ∈ parts s → ∀ c ∈ x, c ≠ 47
  | [], x, h, c, hc => by
    simp [parts] at h
    subst h
    cases hc
  | d :: s, x, h, c, hc => by
    have ih := parts_no47 s
    rw [parts_cons] at h
    split at h
    · rcases List.mem_cons.1 h with rfl | h
      · cases hc
      · exact ih x h c hc
    · rename_i hd
      rcases hp : parts s with _ | ⟨p, r⟩
      · exact absurd hp (parts_ne s)
      · rw [hp] at h ih
        simp only at h
        rcases List.mem_cons.1 h with rfl | h
        · rcases List.mem_cons.1 hc with rfl | hc
          · exact hd
          · exact ih p (by simp) c hc
        · exact ih x (by simp [h]) c hc
theorem parts_joinS : ∀ l : Txts, l ≠ [] → (∀ x ∈ l, ∀ c ∈ x, c ≠ 47) → parts (joinS l) = l
  | [], h, _ => absurd rfl h
  | [x], _, h => parts_whole x (h x (by simp))
  | x :: y :: l, _, h => by
    rw [joinS, parts_slash x _ (h x (by simp)), parts_joinS (y :: l) (by simp) (fun z hz => h z (by simp [hz]))]
theorem fits_parts : ∀ s : List UInt8, fits s → ∀ x ∈ parts s, ∀ c ∈ x, 32 ≤ c.toNat ∧ c.toNat ≤ 126
  | [], _, x, h, c, hc => by
    simp [parts] at h
    subst h
    cases hc
  | d :: s, hf, x, h, c, hc => by
    have ih := fits_parts s (fun z hz => hf z (by simp [hz]))
    rw [parts_cons] at h
    split at h
    · rcases List.mem_cons.1 h with rfl | h
      · cases hc
      · exact ih x h c hc
    · rcases hp : parts s with _ | ⟨p, r⟩
      · exact absurd hp (parts_ne s)
      · rw [hp] at h ih
        simp only at h
        rcases List.mem_cons.1 h with rfl | h
        · rcases List.mem_cons.1 hc with rfl | hc
          · exact hf _ (by simp)
          · exact ih p (by simp) c hc
        · exact ih x (by simp [h]) c hc
theorem fits_joinS : ∀ l : Txts, (∀ x ∈ l, ∀ c ∈ x, 32 ≤ c.toNat ∧ c.toNat ≤ 126) → fits (joinS l)
  | [], _ => by intro c hc; cases hc
  | [x], h => h x (by simp)
  | x :: y :: l, h => by
    intro c hc
    rw [joinS] at hc
    rcases List.mem_append.1 hc with hc | hc
    · exact h x (by simp) c hc
    · rcases List.mem_cons.1 hc with rfl | hc
      · decide
      · exact fits_joinS (y :: l) (fun z hz => h z (by simp [hz])) c hc
theorem kept_kept (l : Txts) : kept (kept l) = kept l := by
  unfold kept
  rw [List.filter_filter]
  simp
/-- what a clean path is -/
structure CleanIs (p : List UInt8) (K : Txts) : Prop where
  parts : Pth.parts p = K
  join : joinS K = p
  ne : K ≠ []
  nop : p ≠ []
  kept : Pth.kept K = K
  fits : ∀ x ∈ K, ∀ c ∈ x, 32 ≤ c.toNat ∧ c.toNat ≤ 126
  no47 : ∀ x ∈ K, ∀ c ∈ x, c ≠ 47
  nodd : dd ∉ K
  short : p.length ≤ 120
theorem clean_is {s p : List UInt8} (h : cleanP s = (p, 0)) : CleanIs p (kept (parts s)) := by
  unfold cleanP at h
  split at h
  · rename_i hc
    obtain ⟨h1, h2, h3, h4⟩ := hc
    obtain rfl := (Prod.mk.inj h).1
    have hk : ∀ x ∈ kept (parts s), x ∈ parts s := fun x hx => (List.mem_filter.1 hx).1
    have hne : kept (parts s) ≠ [] := fun e => h3 (by rw [e]; rfl)
    exact ⟨parts_joinS _ hne (fun x hx => parts_no47 s x (hk x hx)), rfl, hne, h3, kept_kept _, fun x hx => fits_parts s h1 x (hk x hx), fun x hx => parts_no47 s x (hk x hx), fun hd => h2 (hk _ hd), h4⟩
  · exact absurd (congrArg Prod.snd h) (show ¬ (140 : Nat) = 0 by decide)
theorem clean_or (s : List UInt8) : (cleanP s).2 = 0 ∧ CleanIs (cleanP s).1 (kept (parts s)) ∨ cleanP s = ([], 140) := by
  by_cases h : (cleanP s).2 = 0
  · exact .inl ⟨h, clean_is (by rw [← h])⟩
  · refine .inr ?_
    unfold cleanP at h ⊢
    split
    · rename_i hc
      rw [if_pos hc] at h
      exact absurd rfl h
    · rfl
theorem clean_of {s p : List UInt8} {K : Txts} (h : CleanIs p K) (hf : fits s) (hd : dd ∉ parts s) (hk : kept (parts s) = K) : cleanP s = (p, 0) := by
  unfold cleanP
  rw [hk, h.join, if_pos ⟨hf, hd, h.nop, h.short⟩]
theorem CleanIs.twice {p : List UInt8} {K : Txts} (h : CleanIs p K) : cleanP p = (p, 0) := by
  refine clean_of h ?_ (by rw [h.parts]; exact h.nodd) (by rw [h.parts, h.kept])
  rw [← h.join]
  exact fits_joinS K h.fits
theorem CleanIs.check {p : List UInt8} {K : Txts} (h : CleanIs p K) : checkP p = 0 := by
  unfold checkP
  rw [if_pos h.twice]
/-- slashes and dots around each part -/
def wideS (l : Txts) : List UInt8 := 47 :: l.flatMap fun x => [46, 47] ++ x ++ [47, 47]
theorem parts_wide : ∀ l : Txts, (∀ x ∈ l, ∀ c ∈ x, c ≠ 47) → parts (l.flatMap fun x => [46, 47] ++ x ++ [47, 47]) = (l.flatMap fun x => [[46], x, []]) ++ [[]]
  | [], _ => rfl
  | x :: l, h => by
    have e : ((x :: l).flatMap fun x => [46, 47] ++ x ++ [47, 47]) = [46] ++ 47 :: (x ++ 47 :: ([] ++ 47 :: (l.flatMap fun x => [46, 47] ++ x ++ [47, 47]))) := by simp
    rw [e, parts_slash _ _ (by decide), parts_slash x _ (h x (by simp)), parts_slash [] _ (by simp), parts_wide l (fun z hz => h z (by simp [hz]))]
    simp
theorem CleanIs.wide {p : List UInt8} {K : Txts} (h : CleanIs p K) : cleanP (wideS K) = (p, 0) := by
  have hp : Pth.parts (wideS K) = [] :: ((K.flatMap fun x => [[46], x, []]) ++ [[]]) := by
    unfold wideS
    rw [show (47 :: K.flatMap fun x => [46, 47] ++ x ++ [47, 47]) = [] ++ 47 :: (K.flatMap fun x => [46, 47] ++ x ++ [47, 47]) from rfl, parts_slash [] _ (by simp), parts_wide K h.no47]
  refine clean_of h ?_ ?_ ?_
  · intro c hc
    unfold wideS at hc
    rcases List.mem_cons.1 hc with rfl | hc
    · decide
    · obtain ⟨x, hx, hc⟩ := List.mem_flatMap.1 hc
      simp only [List.mem_append, List.mem_cons, List.not_mem_nil, or_false] at hc
      rcases hc with ((rfl | rfl) | hc) | (rfl | rfl)
      · decide
      · decide
      · exact h.fits x hx c hc
      · decide
      · decide
  · rw [hp]
    intro hd
    simp only [List.mem_cons, List.mem_append, List.mem_flatMap, List.not_mem_nil, or_false] at hd
    rcases hd with hd | ⟨x, hx, hd | hd | hd⟩ | hd
    · cases hd
    · cases hd
    · exact h.nodd (hd ▸ hx)
    · cases hd
    · cases hd
  · rw [hp]
    have key : ∀ l : Txts, Pth.kept (l.flatMap fun x => [[46], x, []]) = Pth.kept l := by
      intro l
      induction l with
      | nil => rfl
      | cons x l ih =>
        unfold Pth.kept at ih ⊢
        rw [List.flatMap_cons, List.filter_append, ih, List.filter_cons]
        by_cases h1 : x = []
        · subst h1; simp [keepB, List.filter_cons]
        · by_cases h2 : x = [46]
          · subst h2; simp [keepB, List.filter_cons]
          · simp [keepB, List.filter_cons, h1, h2]
    have e1 := h.kept
    have e2 := key K
    unfold Pth.kept at e1 e2 ⊢
    rw [List.filter_cons, List.filter_append, e2, e1]
    simp [keepB]
theorem joinS_snocN (l : Txts) (x : List UInt8) : joinS (l ++ [x]) = (if 0 < l.length then joinS l ++ [47] else joinS l) ++ x := by
  cases l with
  | nil => rfl
  | cons y l => rw [joinS_snoc _ _ (by simp), if_pos (by simp)]; simp
theorem wideS_snoc (l : Txts) (x : List UInt8) : wideS (l ++ [x]) = wideS l ++ ([46, 47] ++ x ++ [47, 47]) := by
  simp [wideS]
theorem wideS_len (l : Txts) : (wideS l).length ≤ 1 + 4 * wt l := by
  induction l with
  | nil => simp [wideS]
  | cons x l ih =>
    simp [wideS, wt] at ih ⊢
    omega
end Go.Proofs.YtifnlmpnkjhlnaaDoor.Pth
