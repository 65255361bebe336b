/-
  paths, in plain words: how a path is parted for a header. No program is spoken of.
-/
import Derived.Test.YtaoieiiggbpjeaaKc
namespace Go.Proofs.Ytaoieiiggbpjeaa
set_option linter.unusedSimpArgs false
set_option linter.unusedVariables false
def good (p : List UInt8) (i : Nat) : Prop := p[i]? = some 47 ∧ 1 ≤ i ∧ i ≤ 155 ∧ i + 2 ≤ p.length ∧ p.length ≤ i + 101
instance (p : List UInt8) (i : Nat) : Decidable (good p i) := by unfold good; infer_instance
def IsSplit (p : List UInt8) (r : List UInt8 × List UInt8 × Bool) : Prop :=
  (p.length ≤ 100 ∧ r = ([], p, true)) ∨ (100 < p.length ∧ ∃ i, good p i ∧ (∀ j, j < i → ¬ good p j) ∧ r = (p.take i, p.drop (i + 1), true)) ∨ (100 < p.length ∧ (∀ j, ¬ good p j) ∧ r = ([], [], false))
theorem split_one {p : List UInt8} {r r' : List UInt8 × List UInt8 × Bool} (h : IsSplit p r) (h' : IsSplit p r') : r = r' := by
  rcases h with ⟨h1, rfl⟩ | ⟨h1, i, h2, h3, rfl⟩ | ⟨h1, h2, rfl⟩
  · rcases h' with ⟨_, rfl⟩ | ⟨h1', _⟩ | ⟨h1', _⟩
    · rfl
    · omega
    · omega
  · rcases h' with ⟨h1', _⟩ | ⟨_, j, h2', h3', rfl⟩ | ⟨_, h2', _⟩
    · omega
    · have : i = j := by
        rcases Nat.lt_trichotomy i j with h | h | h
        · exact absurd h2 (h3' i h)
        · exact h
        · exact absurd h2' (h3 j h)
      rw [this]
    · exact absurd h2 (h2' i)
  · rcases h' with ⟨h1', _⟩ | ⟨_, j, h2', _⟩ | ⟨_, _, rfl⟩
    · omega
    · exact absurd h2' (h2 j)
    · rfl
theorem good_at {p : List UInt8} {i : Nat} (h : i < p.length) : good p i ↔ p[i].toNat = 47 ∧ 1 ≤ i ∧ i ≤ 155 ∧ i + 2 ≤ p.length ∧ p.length ≤ i + 101 := by
  unfold good
  rw [List.getElem?_eq_getElem h, Option.some.injEq]
  constructor
  · rintro ⟨h1, h2⟩
    exact ⟨by rw [h1]; rfl, h2⟩
  · rintro ⟨h1, h2⟩
    exact ⟨UInt8.toNat_inj.1 h1, h2⟩
def splitP (p : List UInt8) : List UInt8 × List UInt8 × Bool :=
  if p.length ≤ 100 then ([], p, true) else match (List.range p.length).find? (fun i => decide (good p i)) with
    | some i => (p.take i, p.drop (i + 1), true)
    | none => ([], [], false)
theorem splitP_is (p : List UInt8) : IsSplit p (splitP p) := by
  unfold splitP
  split
  · rename_i h
    exact .inl ⟨h, rfl⟩
  · rename_i h
    split
    · rename_i i hi
      refine .inr (.inl ⟨by omega, i, ?_, ?_, rfl⟩)
      · have := List.find?_some hi
        simpa using this
      · intro j hj hg
        rw [List.find?_range_eq_some] at hi
        have := hi.2.2 j hj
        simp [hg] at this
    · rename_i hn
      refine .inr (.inr ⟨by omega, ?_, rfl⟩)
      intro j hg
      rw [List.find?_range_eq_none] at hn
      have := hn j (by have := hg.2.2; omega)
      simp [hg] at this
theorem split_val {p : List UInt8} {r : List UInt8 × List UInt8 × Bool} (h : IsSplit p r) : r = splitP p := split_one h (splitP_is p)
/-- what a parted path's parts are -/
theorem splitP_ok {p : List UInt8} (h : (splitP p).2.2 = true) (hp : p ≠ []) :
    (splitP p).2.1.length ≤ 100 ∧ (splitP p).2.1 ≠ [] ∧ (splitP p).1.length ≤ 155 ∧ (∀ c ∈ (splitP p).1, c ∈ p) ∧ (∀ c ∈ (splitP p).2.1, c ∈ p) ∧ (if (splitP p).1 ≠ [] then (splitP p).1 ++ [47] ++ (splitP p).2.1 else (splitP p).2.1) = p ∧ p.length ≤ 256 := by
  rcases splitP_is p with ⟨h1, e⟩ | ⟨h1, i, h2, h3, e⟩ | ⟨h1, h2, e⟩
  · rw [e]
    exact ⟨h1, hp, by simp, by simp, fun c hc => hc, by simp, by omega⟩
  · rw [e]
    obtain ⟨g1, g2, g3, g4, g5⟩ := h2
    have hlt : i < p.length := by omega
    rw [List.getElem?_eq_getElem hlt, Option.some.injEq] at g1
    have hne : p.take i ≠ [] := fun h0 => by
      have := congrArg List.length h0
      rw [List.length_take, List.length_nil] at this
      omega
    refine ⟨by simp; omega, fun h0 => ?_, by simp; omega, fun c hc => List.mem_of_mem_take hc, fun c hc => List.mem_of_mem_drop hc, ?_, by omega⟩
    · have := congrArg List.length h0
      simp at this
      omega
    · simp only
      rw [if_pos hne]
      have := List.take_append_drop i p
      rw [List.drop_eq_getElem_cons hlt, g1] at this
      rw [List.append_assoc]
      exact this
  · rw [e] at h
    cases h
end Go.Proofs.Ytaoieiiggbpjeaa
