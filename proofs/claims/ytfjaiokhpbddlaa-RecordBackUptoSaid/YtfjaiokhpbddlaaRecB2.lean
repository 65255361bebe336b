/-
  record, in plain words: members are read as they were laid. No program is spoken of.
-/
import Derived.Test.YtfjaiokhpbddlaaRecK
namespace Go.Proofs.Ytfjaiokhpbddlaa
open Go.RowKit Rec
set_option linter.unusedVariables false
set_option linter.unusedSimpArgs false
def mays (l : List M) : List M := l.filter fun m => decide (mayM m)
theorem mays_snoc (l : List M) {i : Nat} (h : i < l.length) : mays (l.take (i + 1)) = if mayM l[i] then mays (l.take i) ++ [l[i]] else mays (l.take i) := by
  rw [List.take_add_one, List.getElem?_eq_getElem h]
  unfold mays
  rw [Option.toList_some, List.filter_append, List.filter_cons, List.filter_nil]
  by_cases hm : mayM l[i] <;> simp [hm]
def allT (l : List M) : List UInt8 := l.flatMap memberT
theorem allT_snoc (l : List M) (m : M) : allT (l ++ [m]) = allT l ++ memberT m := by simp [allT]
theorem memberT_length (m : M) : (memberT m).length = m.path.length + 11 := by
  unfold memberT
  simp only [List.length_append, be_length]
  omega
theorem memberT_read {m : M} (h : mayM m) (hs : m.sum ≤ 4294967295) (r : List UInt8) : memAt (memberT m ++ r) = m ∧ first (memberT m ++ r) = m.path.length ∧ (memberT m ++ r).drop (11 + m.path.length) = r := by
  obtain ⟨hp, _⟩ := may_path h
  obtain ⟨_, h1, h2, h3, h4, h5, h6⟩ := h
  have e : memberT m ++ r = [UInt8.ofNat m.path.length] ++ (m.path ++ (be 2 m.start.toNat ++ (be 2 m.sectors.toNat ++ (be 2 m.size.toNat ++ (be 4 m.sum ++ r))))) := by
    unfold memberT
    rw [be_one _ (by omega)]
    simp only [List.append_assoc]
  have hf : first (memberT m ++ r) = m.path.length := by
    rw [e]
    show (UInt8.ofNat m.path.length).toNat = _
    simp
    omega
  have d1 : (memberT m ++ r).drop 1 = m.path ++ (be 2 m.start.toNat ++ (be 2 m.sectors.toNat ++ (be 2 m.size.toNat ++ (be 4 m.sum ++ r)))) := by rw [e]; rfl
  have d2 := drop_more d1 rfl (j := 1 + m.path.length) rfl
  have d3 := drop_more d2 (be_length 2 _) (j := 3 + m.path.length) (by omega)
  have d4 := drop_more d3 (be_length 2 _) (j := 5 + m.path.length) (by omega)
  have d5 := drop_more d4 (be_length 2 _) (j := 7 + m.path.length) (by omega)
  have d6 := drop_more d5 (be_length 4 _) (j := 11 + m.path.length) (by omega)
  refine ⟨?_, hf, d6⟩
  obtain ⟨mp, ms, mse, msz, msu⟩ := m
  simp only at h1 h2 h3 h4 h5 h6 hs d1 d2 d3 d4 d5 hf
  unfold memAt
  rw [hf, d1, d2, d3, d4, d5, List.take_left' rfl, List.take_left' (be_length _ _), List.take_left' (be_length _ _), List.take_left' (be_length _ _), List.take_left' (be_length _ _),
    nb_be 2 _ (by simp only [Nat.reducePow]; omega), nb_be 2 _ (by simp only [Nat.reducePow]; omega), nb_be 2 _ (by simp only [Nat.reducePow]; omega), nb_be 4 _ (by simp only [Nat.reducePow]; omega)]
  simp only [M.mk.injEq, true_and, and_true]
  omega
theorem memL_back : ∀ (l : List M) (f : Nat) (out : List M), (∀ m ∈ l, mayM m ∧ m.sum ≤ 4294967295) → (allT l).length < f → memL f (allT l) out = (out ++ l, 0)
  | [], f, out, _, hf => by
    obtain ⟨g, rfl⟩ : ∃ g, f = g + 1 := ⟨f - 1, by omega⟩
    rw [memL, if_pos (show allT [] = [] from rfl), List.append_nil]
  | m :: l, f, out, hl, hf => by
    obtain ⟨g, rfl⟩ : ∃ g, f = g + 1 := ⟨f - 1, by omega⟩
    obtain ⟨h1, h2⟩ := hl m (by simp)
    have e : allT (m :: l) = memberT m ++ allT l := by simp [allT]
    obtain ⟨r1, r2, r3⟩ := memberT_read h1 h2 (allT l)
    rw [e] at hf ⊢
    rw [List.length_append, memberT_length] at hf
    have hlen : (memberT m ++ allT l).length = m.path.length + 11 + (allT l).length := by rw [List.length_append, memberT_length]
    rw [memL, if_neg (fun z => by rw [z] at hlen; simp only [List.length_nil] at hlen; omega), r2, if_neg (by omega), r1, if_pos h1, r3, memL_back l g _ (fun x hx => hl x (by simp [hx])) (by omega)]
    simp
theorem allT_len : ∀ l : List M, (∀ m ∈ l, mayM m) → (allT l).length ≤ l.length * 131
  | [], _ => by simp [allT]
  | m :: l, h => by
    have ih := allT_len l (fun x hx => h x (by simp [hx]))
    have h1 := (may_path (h m (by simp))).1
    have e : allT (m :: l) = memberT m ++ allT l := by simp [allT]
    rw [e, List.length_append, memberT_length, List.length_cons]
    omega
theorem mays_may (l : List M) : ∀ m ∈ mays l, mayM m := fun m hm => by simpa using (List.mem_filter.1 hm).2
end Go.Proofs.Ytfjaiokhpbddlaa
