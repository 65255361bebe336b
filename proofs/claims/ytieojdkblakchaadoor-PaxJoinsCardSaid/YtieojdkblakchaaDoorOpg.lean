/-
  Slices that stand within a law's arguments, as the walks take them. No program is spoken of.
-/
import Derived.Test.YtieojdkblakchaaDoorOpn
namespace Go.Proofs.YtieojdkblakchaaDoor
open Go.ChangeShapes Go.WideShapes Go.ChangeAt Go.RowKit Go.Deep
set_option linter.unusedSimpArgs false
set_option linter.unusedVariables false
section
variable {H : Type} {enc : TypeId × Value → H} {P : Program} {W : World} {base : Nat} {t e : TypeId}
theorem nest_slG {α : Type} [Inhabited α] (cells : α → List Value) (ok : α → Prop) {c : Nat} (hcl : ∀ a, (cells a).length = c) (ht : P.underlying t = some (.slice e)) (hc : P.cellsOf e = c)
    (step : ∀ n cs x, DataW.trod enc P W base (fun _ => true) true n e cs = some x → (∀ m ∈ x.1.weights P e, m ≤ reachBytes) → ∃ a, cs = cells a ∧ ok a)
    {n0 : Nat} {cs0 : List Value} {x0 : DataW H × List MemPlace} (hf : DataW.trod enc P W base (fun _ => true) true n0 t cs0 = some x0) (hsz : ∀ m ∈ x0.1.weights P t, m ≤ reachBytes) :
    ∃ (l : List α) (A : Option Addr) (cap : Nat), cs0 = [.slice A l.length cap] ∧ (∀ a ∈ l, ok a) ∧ (A = none → l = []) ∧ l.length * P.bytesOf e ≤ reachBytes ∧ l.length ≤ cap ∧ Sl W W.heap.size A (l.flatMap cells) := by
  rcases open_slice ht hf with ⟨hcs, _⟩ | ⟨a, len, cap, m, n, D, Pl, rfl, _, hl, hm, hmm, hx, hel⟩
  · exact ⟨[], none, 0, hcs, by simp, fun _ => rfl, by simp, by simp, .inl rfl⟩
  · simp only [if_true] at hmm
    subst hmm
    subst hx
    obtain ⟨B, hB⟩ := choose_lt (α := α) (p := fun i b => W.cells? base (a.add (i * c)) c = some (cells b) ∧ ok b) (n := len) (fun i hi => by
      obtain ⟨cs', h1, h2⟩ := hel i (by omega)
      have hw : ∀ k ∈ (D i).weights P e, k ≤ reachBytes := fun k hk => by
        have hmem : D i ∈ (List.range len).map D := List.mem_map.2 ⟨i, List.mem_range.2 hi, rfl⟩
        refine hsz k ?_
        simp only [DataW.weights, ht, List.mem_cons, List.mem_append]
        exact .inr (.inl (weightsAll_mem hmem _ hk))
      obtain ⟨b, rfl, hb⟩ := step n cs' _ h2 hw
      rw [hc] at h1
      exact ⟨b, h1, hb⟩)
    have hln : ((List.range len).map B).length = len := by simp
    refine ⟨(List.range len).map B, some a, m, by rw [hln], ?_, fun q => (by cases q), ?_, by rw [hln]; exact hl, sl_of_cells fun i u hu => ?_⟩
    · intro b hb
      obtain ⟨i, hi, rfl⟩ := List.mem_map.1 hb
      exact (hB i (List.mem_range.1 hi)).2
    · rw [hln]
      have := hsz ((((List.range len).map D).length + ((List.range (m - len)).map fun j => D (len + j)).length) * P.bytesOf e) (by simp [DataW.weights, ht])
      simp only [List.length_map, List.length_range] at this
      exact Nat.le_trans (Nat.mul_le_mul_right _ (by omega)) this
    · obtain ⟨q, s, hq, hs, rfl, hu'⟩ := flatMap_at hcl _ _ _ hu
      have hq' : q < len := by simpa using hq
      have hg : ((List.range len).map B)[q] = B q := by simp
      rw [hg] at hu'
      rw [← add_add, (World.cells?_some (hB q hq').1).2.2 s hs]
      exact hu'
/-- a slice of bools within -/
theorem nest_slB (ht : P.underlying t = some (.slice e)) (he : P.underlying e = some .bool) (hc : P.cellsOf e = 1) (hb1 : P.bytesOf e = 1)
    {n0 : Nat} {cs0 : List Value} {x0 : DataW H × List MemPlace} (hf : DataW.trod enc P W base (fun _ => true) true n0 t cs0 = some x0) (hsz : ∀ m ∈ x0.1.weights P t, m ≤ reachBytes) :
    ∃ (l : List Bool) (A : Option Addr) (cap : Nat), cs0 = [.slice A l.length cap] ∧ (A = none → l = []) ∧ l.length ≤ 140737488351232 ∧ Sl W W.heap.size A (l.map fun b => .bool b) := by
  obtain ⟨l, A, cap, h1, _, h2, h3, _, h4⟩ := nest_slG (fun b : Bool => [Value.bool b]) (fun _ => True) (c := 1) (fun _ => rfl) ht hc (fun n cs x hx _ => by
    obtain ⟨b, rfl, _⟩ := DataW.trod_bool he hx
    exact ⟨b, rfl, trivial⟩) hf hsz
  refine ⟨l, A, cap, h1, h2, ?_, ?_⟩
  · rw [hb1, Nat.mul_one] at h3
    exact Nat.le_trans h3 (by decide)
  · have e : ∀ l : List Bool, (l.flatMap fun b => [Value.bool b]) = l.map fun b => .bool b := fun l => by
      induction l with
      | nil => rfl
      | cons b l ih => simp only [List.flatMap_cons, List.map_cons, ih]; rfl
    rwa [e] at h4
/-- an array of two within -/
theorem nest_arr2 (ht : P.underlying t = some (.array 2 e)) (hc : P.cellsOf e = 1) {n0 : Nat} {c0 c1 : Value} {x0 : DataW H × List MemPlace} (hf : DataW.trod enc P W base (fun _ => true) true n0 t [c0, c1] = some x0) (hsz : ∀ m ∈ x0.1.weights P t, m ≤ reachBytes) :
    ∃ (y0 y1 : DataW H × List MemPlace) (m : Nat), DataW.trod enc P W base (fun _ => true) true m e [c0] = some y0 ∧ DataW.trod enc P W base (fun _ => true) true m e [c1] = some y1 ∧ (∀ k ∈ y0.1.weights P e, k ≤ reachBytes) ∧ ∀ k ∈ y1.1.weights P e, k ≤ reachBytes := by
  obtain ⟨xs, m, rfl, rfl, hl, hlen, hx⟩ := DataW.trod_array ht hf
  have g : ∀ i, i < 2 → ∃ y, xs[i]? = some y := fun i hi => ⟨_, List.getElem?_eq_getElem (by rw [hlen]; exact hi)⟩
  obtain ⟨y0, e0⟩ := g 0 (by omega)
  obtain ⟨y1, e1⟩ := g 1 (by omega)
  have f0 := (hx 0 (by omega)).trans e0
  have f1 := (hx 1 (by omega)).trans e1
  rw [hc] at f0 f1
  simp only [Nat.zero_mul, Nat.one_mul, List.drop_zero, List.drop_succ_cons, List.take_succ_cons, List.take_zero] at f0 f1
  have hw : ∀ y, y ∈ xs → ∀ k ∈ y.1.weights P e, k ≤ reachBytes := fun y hy k hk => hsz k (by
    simp only [DataW.weights, ht]
    exact weightsAll_mem (List.mem_map_of_mem hy) _ hk)
  exact ⟨y0, y1, m, f0, f1, hw y0 (List.mem_of_getElem? e0), hw y1 (List.mem_of_getElem? e1)⟩
end
end Go.Proofs.YtieojdkblakchaaDoor
