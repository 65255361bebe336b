/-
  A law's arguments, as the walks take them. No program is spoken of.
-/
import Derived.Test.YtieojdkblakchaaDoorLaw
import Derived.SliceStrings
namespace Go.Proofs.YtieojdkblakchaaDoor
open Go.ChangeShapes Go.WideShapes Go.ChangeAt Go.RowKit
set_option linter.unusedSimpArgs false
set_option linter.unusedVariables false
/-- a listed variable's cells, as its initialiser lays them -/
def layCells (cs : List Value) : Obj → Obj
  | .cells _ t frozen => .cells cs.toArray t frozen
  | o => o
section
variable {H : Type} {enc : TypeId × Value → H} {P : Program} {W : World} {base : Nat} {t e : TypeId} {v : Value} {d : DataW H} {p : List MemPlace} {r : Reach} {b0 : Nat}
theorem wf_nat {k : IntKind} {n : Int} (hs : k.signed = false) (h : (Lit.int k n).wf = true) : ∃ m : Nat, n = m ∧ m ≤ maxN k := by
  cases k <;> simp [IntKind.signed] at hs <;> (simp [Lit.wf, IntKind.min, IntKind.max, IntKind.signed, IntKind.bits] at h; exact ⟨n.toNat, by omega, by simp [maxN]; omega⟩)
theorem wf_int {n : Int} (h : (Lit.int .i64 n).wf = true) : -9223372036854775808 ≤ n ∧ n ≤ 9223372036854775807 := by
  simp [Lit.wf, IntKind.min, IntKind.max, IntKind.signed, IntKind.bits] at h
  omega
theorem open_nat {k : IntKind} (ht : P.underlying t = some (.int k)) (hs : k.signed = false) (hval : Value.okWide P W r b0 t v) (hd : DataW.Trod enc P W base (fun _ => true) true t v d p) : ∃ m : Nat, v = .int k (m : Int) ∧ m ≤ maxN k := by
  obtain ⟨n, rfl, _, _, hw⟩ := open_int ht hval hd
  obtain ⟨m, rfl, hm⟩ := wf_nat hs hw
  exact ⟨m, rfl, hm⟩
theorem open_i64 (ht : P.underlying t = some (.int .i64)) (hval : Value.okWide P W r b0 t v) (hd : DataW.Trod enc P W base (fun _ => true) true t v d p) : ∃ n : Int, v = .int .i64 n ∧ -9223372036854775808 ≤ n ∧ n ≤ 9223372036854775807 := by
  obtain ⟨n, rfl, _, _, hw⟩ := open_int ht hval hd
  exact ⟨n, rfl, wf_int hw⟩
theorem open_str (ht : P.underlying t = some .string) (hval : Value.okWide P W r b0 t v) (hd : DataW.Trod enc P W base (fun _ => true) true t v d p) : ∃ s : List UInt8, v = str s ∧ d = .lit (.string s) := by
  obtain ⟨s, rfl, rfl, _, hs⟩ := ChangeMaps.open_string ht hval hd
  exact ⟨s.data.toList, rfl, rfl⟩
theorem reach_str {ts : List TypeId} {ds : List (DataW H)} (h : (DataW.weightsEach P ts ds).all (· ≤ reachBytes) = true) {j : Nat} {s : List UInt8} (ht : ts[j]? = some t) (hd : ds[j]? = some (.lit (.string s))) : s.length ≤ 140737488351232 :=
  Nat.le_trans (sized_string h ht hd) (by decide)
/-- a slice's cells, wherever they start -/
theorem sl_of_cells {a : Addr} {xs : List Value} (h : ∀ j u, xs[j]? = some u → W.cell? (a.add j) = some u) : Sl W W.heap.size (some a) xs := by
  by_cases hx : xs = []
  · exact .inl hx
  · have h0 : 0 < xs.length := List.length_pos_iff.2 hx
    have hc := h 0 xs[0] (List.getElem?_eq_getElem h0)
    have ha : a.add 0 = a := by unfold Addr.add; simp
    rw [ha] at hc
    obtain ⟨b, o, sp⟩ := a
    have hsp : sp = none := by
      unfold World.cell? at hc
      split at hc
      · cases sp with
        | none => rfl
        | some _ => simp at hc
      · simp at hc
    subst hsp
    refine .inr ⟨b, o, rfl, World.block_lt_of_cell? W _ hc, fun j u hu => ?_⟩
    have := h j u hu
    have hadd : (⟨b, o, none⟩ : Addr).add j = ⟨b, o + j, none⟩ := by unfold Addr.add; split <;> simp_all
    rwa [hadd] at this
theorem nats_of {k : IntKind} (hs : k.signed = false) : ∀ (zs : List Int), (∀ n ∈ zs, (Lit.int k n).wf = true) → ∃ ms : List Nat, zs = ms.map (fun (m : Nat) => (m : Int)) ∧ ∀ m ∈ ms, m ≤ maxN k
  | [], _ => ⟨[], rfl, by simp⟩
  | z :: zs, h => by
    obtain ⟨m, rfl, hm⟩ := wf_nat hs (h z (by simp))
    obtain ⟨ms, rfl, hms⟩ := nats_of hs zs (fun n hn => h n (by simp [hn]))
    exact ⟨m :: ms, rfl, by simpa using ⟨hm, hms⟩⟩
/-- a slice of unsigned numbers -/
theorem open_slN {k : IntKind} (ht : P.underlying t = some (.slice e)) (he : P.underlying e = some (.int k)) (hs : k.signed = false) (hc : P.cellsOf e = 1) (hval : Value.okWide P W r b0 t v) (hd : DataW.Trod enc P W base (fun _ => true) true t v d p) :
    ∃ (l : List Nat) (A : Option Addr) (c : Nat), v = .slice A l.length c ∧ (∀ x ∈ l, x ≤ maxN k) ∧ l.length ≤ 9223372036854775807 ∧ Sl W W.heap.size A (ints k l) := by
  obtain ⟨A, len, cap, rfl⟩ := okWide_slice ht hval
  obtain ⟨fuel, hf⟩ := hd
  rcases open_ints ht he hc hf with ⟨hcs, _⟩ | ⟨a, len', cap', zs, hcs, _, hl, hm, hz, _, hcell, hwz⟩
  · simp [Value.cells] at hcs
    obtain ⟨rfl, rfl, rfl⟩ := hcs
    exact ⟨[], none, 0, rfl, by simp, by simp, .inl rfl⟩
  · simp [Value.cells] at hcs
    obtain ⟨rfl, rfl, rfl⟩ := hcs
    simp only [if_true] at hz
    obtain ⟨ms, hms, hle⟩ := nats_of hs zs hwz
    have hmz : ms.length = zs.length := by rw [hms]; simp
    refine ⟨ms.take len, some a, cap, ?_, fun x hx => hle x (List.mem_of_mem_take hx), ?_, sl_of_cells fun j u hu => ?_⟩
    · rw [List.length_take, Nat.min_eq_left (by omega)]
    · rw [List.length_take]; simp only [maxLen] at hm; omega
    · have hjl : j < (ints k (ms.take len)).length := (List.getElem?_eq_some_iff.1 hu).1
      rw [ints_length, List.length_take] at hjl
      have hj : j < ms.length := by omega
      rw [hcell j (by omega), ← hu, hms]
      simp [ints, List.getElem?_take, show j < len by omega, hj, List.getD]
def strsV (l : List (List UInt8)) : List Value := l.map fun s => str s
theorem strsV_get {l : List (List UInt8)} {i : Nat} (h : i < l.length) : (strsV l)[i]? = some (str l[i]) := by simp [strsV, h]
theorem strsV_length (l : List (List UInt8)) : (strsV l).length = l.length := by simp [strsV]
theorem strsV_append (l m : List (List UInt8)) : strsV (l ++ m) = strsV l ++ strsV m := by simp [strsV]
theorem strsV_one {l : List (List UInt8)} : ∀ u ∈ strsV l, u.oneCell' = true := by
  intro u hu
  obtain ⟨_, _, rfl⟩ := List.mem_map.1 hu
  rfl
theorem weightsAll_mem : ∀ {l : List (DataW H)} {x : DataW H}, x ∈ l → ∀ n ∈ x.weights P e, n ∈ DataW.weightsAll P e l
  | y :: l, x, hx, n, hn => by
    simp only [DataW.weightsAll, List.mem_append]
    rcases List.mem_cons.1 hx with rfl | hx
    · exact .inl hn
    · exact .inr (weightsAll_mem hx n hn)
  | [], _, hx, _, _ => by simp at hx
/-- a slice of texts -/
theorem open_slS (ht : P.underlying t = some (.slice e)) (he : P.underlying e = some .string) (hc : P.cellsOf e = 1) (hval : Value.okWide P W r b0 t v) (hd : DataW.Trod enc P W base (fun _ => true) true t v d p)
    {ts : List TypeId} {ds : List (DataW H)} (hsz : (DataW.weightsEach P ts ds).all (· ≤ reachBytes) = true) {j : Nat} (hj : ts[j]? = some t) (hdj : ds[j]? = some d) :
    ∃ (l : List (List UInt8)) (A : Option Addr) (c : Nat), v = .slice A l.length c ∧ (∀ s ∈ l, s.length ≤ 140737488351232) ∧ l.length ≤ 9223372036854775807 ∧ Sl W W.heap.size A (strsV l) := by
  obtain ⟨A, len, cap, rfl⟩ := okWide_slice ht hval
  obtain ⟨fuel, hf⟩ := hd
  rcases open_strings ht he hc hf with ⟨hcs, _⟩ | ⟨a, len', cap', ss, hcs, _, hl, hm, hz, hx, hcell, hws⟩
  · simp [Value.cells] at hcs
    obtain ⟨rfl, rfl, rfl⟩ := hcs
    exact ⟨[], none, 0, rfl, by simp, by simp, .inl rfl⟩
  · simp [Value.cells] at hcs
    obtain ⟨rfl, rfl, rfl⟩ := hcs
    simp only [if_true] at hz
    simp only [Prod.mk.injEq] at hx
    obtain ⟨rfl, rfl⟩ := hx
    have hlen : (ss.take len).length = len := by rw [List.length_take]; omega
    refine ⟨(ss.take len).map fun s => s.data.toList, some a, cap, by simp [hlen]; omega, ?_, ?_, sl_of_cells fun i u hu => ?_⟩
    · intro s hs
      obtain ⟨s', hs', rfl⟩ := List.mem_map.1 hs
      have hmem : (DataW.lit (.string s'.data.toList) : DataW H) ∈ strs (ss.take len) := List.mem_map.2 ⟨s', hs', rfl⟩
      have h1 : s'.data.toList.length ∈ (DataW.slice (strs (ss.take len)) (strs (ss.drop len)) : DataW H).weights P t := by
        simp only [DataW.weights, ht, List.mem_cons, List.mem_append]
        exact .inr (.inl (weightsAll_mem hmem _ (by simp [DataW.weights])))
      have := List.all_eq_true.1 hsz _ (DataW.weights_mem_each hj hdj _ h1)
      simp only [decide_eq_true_eq] at this
      exact Nat.le_trans this (by decide)
    · rw [List.length_map, hlen]; simp only [maxLen] at hm; omega
    · have hjl : i < (strsV ((ss.take len).map fun s => s.data.toList)).length := (List.getElem?_eq_some_iff.1 hu).1
      rw [strsV_length, List.length_map, hlen] at hjl
      rw [hcell i (by omega), ← hu]
      simp [strsV, List.getElem?_take, hjl, show i < ss.length by omega, List.getD]
end
end Go.Proofs.YtieojdkblakchaaDoor
