/-
  paths, in plain words: what stands between slashes, and a path's one form. No program is spoken of.
-/
import Derived.Test.YtifnlmpnkjhlnaaDoorKc
import Derived.Lib.Join
namespace Go.Proofs.YtifnlmpnkjhlnaaDoor.Pth
set_option linter.unusedSimpArgs false
set_option linter.unusedVariables false
abbrev Txts := List (List UInt8)
def parts : List UInt8 → Txts
  | [] => [[]]
  | c :: s => if c = 47 then [] :: parts s else match parts s with
    | p :: r => (c :: p) :: r
    | [] => [[c]]
theorem parts_cons (c : UInt8) (s : List UInt8) : parts (c :: s) = if c = 47 then [] :: parts s else match parts s with
    | p :: r => (c :: p) :: r
    | [] => [[c]] := rfl
theorem parts_ne : ∀ s, parts s ≠ []
  | [] => by simp [parts]
  | c :: s => by
    unfold parts
    split
    · simp
    · split <;> simp
theorem parts_slash : ∀ a b : List UInt8, (∀ c ∈ a, c ≠ 47) → parts (a ++ 47 :: b) = a :: parts b
  | [], b, _ => by simp [parts]
  | c :: a, b, h => by
    have hc : c ≠ 47 := h c (by simp)
    rw [List.cons_append, parts_cons, if_neg hc, parts_slash a b (fun x hx => h x (by simp [hx]))]
theorem parts_whole : ∀ a : List UInt8, (∀ c ∈ a, c ≠ 47) → parts a = [a]
  | [], _ => rfl
  | c :: a, h => by
    have hc : c ≠ 47 := h c (by simp)
    rw [parts_cons, if_neg hc, parts_whole a (fun x hx => h x (by simp [hx]))]
/-- what texts take when a byte stands behind each -/
def wt : Txts → Nat
  | [] => 0
  | x :: l => x.length + 1 + wt l
theorem wt_parts : ∀ s, wt (parts s) = s.length + 1
  | [] => rfl
  | c :: s => by
    have ih := wt_parts s
    unfold parts
    split
    · simp [wt, ih]; omega
    · split
      · rename_i p r e
        rw [e] at ih
        simp [wt] at ih ⊢
        omega
      · rename_i e
        exact absurd e (parts_ne s)
theorem wt_len : ∀ l : Txts, l.length ≤ wt l
  | [] => by simp [wt]
  | x :: l => by have := wt_len l; simp [wt]; omega
theorem wt_append : ∀ a b : Txts, wt (a ++ b) = wt a + wt b
  | [], b => by simp [wt]
  | x :: a, b => by simp [wt, wt_append a b]; omega
theorem wt_filter (q : List UInt8 → Bool) : ∀ l : Txts, wt (l.filter q) ≤ wt l
  | [] => by simp [wt]
  | x :: l => by
    have := wt_filter q l
    rw [List.filter_cons]
    split <;> simp [wt] <;> omega
theorem wt_mem : ∀ {l : Txts} {x : List UInt8}, x ∈ l → x.length < wt l
  | y :: l, x, h => by
    simp only [wt]
    rcases List.mem_cons.1 h with rfl | h
    · omega
    · have := wt_mem h; omega
def joinS : Txts → List UInt8
  | [] => []
  | [x] => x
  | x :: y :: l => x ++ 47 :: joinS (y :: l)
theorem joinS_eq : ∀ l : Txts, Go.Lib.join l [47] = joinS l
  | [] => rfl
  | [x] => by simp [Go.Lib.join, List.intercalate, joinS]
  | x :: y :: l => by
    have ih := joinS_eq (y :: l)
    simp only [Go.Lib.join, List.intercalate, joinS] at ih ⊢
    rw [← ih]
    simp [List.intersperse]
theorem joinS_wt : ∀ l : Txts, (joinS l).length ≤ wt l
  | [] => by simp [joinS]
  | [x] => by simp [joinS, wt]
  | x :: y :: l => by
    have := joinS_wt (y :: l)
    simp [joinS, wt] at this ⊢
    omega
theorem joinS_snoc : ∀ (l : Txts) (x : List UInt8), l ≠ [] → joinS (l ++ [x]) = joinS l ++ 47 :: x
  | [y], x, _ => by simp [joinS]
  | y :: z :: l, x, _ => by
    have ih := joinS_snoc (z :: l) x (by simp)
    simp only [List.cons_append, joinS] at ih ⊢
    rw [ih]
    simp
def keepB (x : List UInt8) : Bool := decide (x ≠ [] ∧ x ≠ [46])
def kept (l : Txts) : Txts := l.filter keepB
theorem kept_snoc (l : Txts) (x : List UInt8) : kept (l ++ [x]) = if keepB x = true then kept l ++ [x] else kept l := by
  unfold kept
  rw [List.filter_append, List.filter_cons]
  split <;> simp_all
theorem joinS_nil {l : Txts} (h : ∀ x ∈ l, x ≠ []) : joinS l = [] ↔ l = [] := by
  constructor
  · intro e
    match l, h, e with
    | [], _, _ => rfl
    | [x], h, e => exact absurd e (h x (by simp))
    | x :: y :: l, _, e => simp [joinS] at e
  · rintro rfl; rfl
theorem kept_ne (l : Txts) : ∀ x ∈ kept l, x ≠ [] := by
  intro x hx
  have := (List.mem_filter.1 hx).2
  simp [keepB] at this
  exact this.1
def dd : List UInt8 := [46, 46]
def fits (s : List UInt8) : Prop := ∀ c ∈ s, 32 ≤ c.toNat ∧ c.toNat ≤ 126
instance (s : List UInt8) : Decidable (fits s) := by unfold fits; infer_instance
/-- a path's one form -/
def cleanP (s : List UInt8) : List UInt8 × Nat :=
  if fits s ∧ dd ∉ parts s ∧ joinS (kept (parts s)) ≠ [] ∧ (joinS (kept (parts s))).length ≤ 120 then (joinS (kept (parts s)), 0) else ([], 140)
def checkP (s : List UInt8) : Nat := if cleanP s = (s, 0) then 0 else 140
end Go.Proofs.YtifnlmpnkjhlnaaDoor.Pth
