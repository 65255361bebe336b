/-
  disk: a fall of the power among a law's arguments.
-/
import Derived.Test.YtdjcgffhnakeeaaDskR
import Derived.Test.YtdjcgffhnakeeaaOpg
namespace Go.Proofs.Ytdjcgffhnakeeaa
open Go.ChangeShapes Go.WideShapes Go.ChangeAt Go.RowKit Go.Deep Dsk
set_option linter.unusedVariables false
section
variable {H : Type} {enc : TypeId × Value → H} {W : World} {base : Nat} {v : Value} {d : DataW H} {p : List MemPlace} {r : Reach} {b0 : Nat}
theorem two {l : List Value} (h : l.length = 2) : ∃ a b, l = [a, b] := by
  match l, h with
  | [a, b], _ => exact ⟨a, b, rfl⟩
theorem fall_step (n : Nat) (cs : List Value) (x : DataW H × List MemPlace) (h : DataW.trod enc Try.prog W base (fun _ => true) true n 39 cs = some x) (hw : ∀ m ∈ x.1.weights Try.prog 39, m ≤ reachBytes) : ∃ a : Fl, cs = a.cells ∧ a.Ok W W.heap.size := by
  obtain ⟨xs, m, rfl, rfl, hl, hlen, hf⟩ := DataW.trod_struct Try.underlying39 h
  obtain ⟨c0, c1, rfl⟩ := two (hl.trans (by kernel_rfl))
  have g : ∀ i (hi : i < 2), ∃ y, xs[i]? = some y := fun i hi => ⟨_, List.getElem?_eq_getElem (by rw [hlen]; exact hi)⟩
  obtain ⟨y0, e0⟩ := g 0 (by omega)
  obtain ⟨y1, e1⟩ := g 1 (by omega)
  have f0 : DataW.trod enc Try.prog W base (fun _ => true) true m 3 ((([c0, c1] : List Value).drop 0).take (Try.prog.cellsOf 3)) = some y0 := (hf 0 _ rfl).trans e0
  have f1 : DataW.trod enc Try.prog W base (fun _ => true) true m 34 ((([c0, c1] : List Value).drop 1).take (Try.prog.cellsOf 34)) = some y1 := (hf 1 _ rfl).trans e1
  rw [show Try.prog.cellsOf 3 = 1 by kernel_rfl] at f0
  rw [show Try.prog.cellsOf 34 = 1 by kernel_rfl] at f1
  simp only [List.drop_zero, List.drop_succ_cons, List.take_succ_cons, List.take_zero] at f0 f1
  obtain ⟨n0, h0, _, w0⟩ := DataW.trod_int Try.underlying3 f0
  have hd1 : (xs.map (·.1))[1]? = some y1.1 := by rw [List.getElem?_map, e1]; rfl
  have hwe : ∀ k ∈ DataW.weightsEach Try.prog [3, 34] (xs.map (·.1)), k ≤ reachBytes := fun k hk => hw k (by
    simp only [DataW.weights, Try.underlying39]
    exact hk)
  obtain ⟨l, A, cap, h1, hA, hn, hs⟩ := nest_slB Try.underlying34 Try.underlying4 (by kernel_rfl) (by kernel_rfl) f1 (fun k hk => hwe k (DataW.weights_mem_each (j := 1) rfl hd1 _ hk))
  simp only [List.cons.injEq, and_true] at h0 h1
  subst h0 h1
  exact ⟨⟨n0, l, A, cap⟩, rfl, ⟨wf_int w0, fun h => by rw [hA h]; rfl, hn, hs⟩⟩
theorem open_Fall (hval : Value.okWide Try.prog W r b0 39 v) (hd : DataW.Trod enc Try.prog W base (fun _ => true) true 39 v d p)
    {ts : List TypeId} {ds : List (DataW H)} (hsz : (DataW.weightsEach Try.prog ts ds).all (· ≤ reachBytes) = true) {j : Nat} (hj : ts[j]? = some 39) (hdj : ds[j]? = some d) :
    ∃ a : Fl, v = .agg a.cells.toArray ∧ a.Ok W W.heap.size :=
  open_stG Fl.cells (fun a => a.Ok W W.heap.size) Try.underlying39 (fun n cs x hx hw => fall_step n cs x hx hw) hval hd hsz hj hdj
end
end Go.Proofs.Ytdjcgffhnakeeaa
