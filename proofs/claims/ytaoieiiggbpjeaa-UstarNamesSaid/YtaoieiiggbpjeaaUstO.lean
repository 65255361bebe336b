/-
  ustar: heads among a law's arguments.
-/
import Derived.Test.YtaoieiiggbpjeaaUstB
import Derived.Test.YtaoieiiggbpjeaaOpg
namespace Go.Proofs.Ytaoieiiggbpjeaa
open Go.ChangeShapes Go.WideShapes Go.ChangeAt Go.RowKit Go.Deep Ust
set_option linter.unusedVariables false
section
variable {H : Type} {enc : TypeId × Value → H} {W : World} {base : Nat} {v : Value} {d : DataW H} {p : List MemPlace} {r : Reach} {b0 : Nat}
theorem ten {l : List Value} (h : l.length = 10) : ∃ a b c d e f g i j k, l = [a, b, c, d, e, f, g, i, j, k] := by
  match l, h with
  | [a, b, c, d, e, f, g, i, j, k], _ => exact ⟨a, b, c, d, e, f, g, i, j, k, rfl⟩
theorem str_at {n : Nat} {c : Value} {y : DataW H × List MemPlace} (h : DataW.trod enc Try.prog W base (fun _ => true) true n 9 [c] = some y) (hw : ∀ k ∈ y.1.weights Try.prog 9, k ≤ reachBytes) : ∃ s : List UInt8, c = str s ∧ s.length ≤ 140737488351232 := by
  obtain ⟨s, h0, hy, w0⟩ := DataW.trod_string Try.underlying9 h
  simp only [List.cons.injEq, and_true] at h0
  subst h0
  refine ⟨s.data.toList, rfl, ?_⟩
  rw [hy] at hw
  exact Nat.le_trans (hw _ (by simp [DataW.weights])) (by decide)
theorem int_at {n : Nat} {c : Value} {y : DataW H × List MemPlace} (h : DataW.trod enc Try.prog W base (fun _ => true) true n 3 [c] = some y) : ∃ z : Int, c = .int .i64 z ∧ I64 z := by
  obtain ⟨z, h0, _, w0⟩ := DataW.trod_int Try.underlying3 h
  simp only [List.cons.injEq, and_true] at h0
  subst h0
  exact ⟨z, rfl, wf_int w0⟩
theorem head_step (n : Nat) (cs : List Value) (x : DataW H × List MemPlace) (h : DataW.trod enc Try.prog W base (fun _ => true) true n 25 cs = some x) (hw : ∀ m ∈ x.1.weights Try.prog 25, m ≤ reachBytes) : ∃ a : Hd, cs = a.cells ∧ a.Ok := by
  obtain ⟨xs, m, rfl, rfl, hl, hlen, hf⟩ := DataW.trod_struct Try.underlying25 h
  obtain ⟨c0, c1, c2, c3, c4, c5, c6, c7, c8, c9, rfl⟩ := ten (hl.trans (by kernel_rfl))
  have g : ∀ i (hi : i < 8), ∃ y, xs[i]? = some y := fun i hi => ⟨_, List.getElem?_eq_getElem (by rw [hlen]; exact hi)⟩
  obtain ⟨y0, e0⟩ := g 0 (by omega)
  obtain ⟨y1, e1⟩ := g 1 (by omega)
  obtain ⟨y2, e2⟩ := g 2 (by omega)
  obtain ⟨y3, e3⟩ := g 3 (by omega)
  obtain ⟨y4, e4⟩ := g 4 (by omega)
  obtain ⟨y5, e5⟩ := g 5 (by omega)
  obtain ⟨y6, e6⟩ := g 6 (by omega)
  obtain ⟨y7, e7⟩ := g 7 (by omega)
  have hwe : ∀ k ∈ DataW.weightsEach Try.prog [9, 3, 5, 3, 3, 9, 22, 23] (xs.map (·.1)), k ≤ reachBytes := fun k hk => hw k (by
    simp only [DataW.weights, Try.underlying25]
    exact hk)
  have f0 : DataW.trod enc Try.prog W base (fun _ => true) true m 9 ((([c0, c1, c2, c3, c4, c5, c6, c7, c8, c9] : List Value).drop 0).take (Try.prog.cellsOf 9)) = some y0 := (hf 0 _ rfl).trans e0
  have f1 : DataW.trod enc Try.prog W base (fun _ => true) true m 3 ((([c0, c1, c2, c3, c4, c5, c6, c7, c8, c9] : List Value).drop 1).take (Try.prog.cellsOf 3)) = some y1 := (hf 1 _ rfl).trans e1
  have f2 : DataW.trod enc Try.prog W base (fun _ => true) true m 5 ((([c0, c1, c2, c3, c4, c5, c6, c7, c8, c9] : List Value).drop 2).take (Try.prog.cellsOf 5)) = some y2 := (hf 2 _ rfl).trans e2
  have f3 : DataW.trod enc Try.prog W base (fun _ => true) true m 3 ((([c0, c1, c2, c3, c4, c5, c6, c7, c8, c9] : List Value).drop 3).take (Try.prog.cellsOf 3)) = some y3 := (hf 3 _ rfl).trans e3
  have f4 : DataW.trod enc Try.prog W base (fun _ => true) true m 3 ((([c0, c1, c2, c3, c4, c5, c6, c7, c8, c9] : List Value).drop 4).take (Try.prog.cellsOf 3)) = some y4 := (hf 4 _ rfl).trans e4
  have f5 : DataW.trod enc Try.prog W base (fun _ => true) true m 9 ((([c0, c1, c2, c3, c4, c5, c6, c7, c8, c9] : List Value).drop 5).take (Try.prog.cellsOf 9)) = some y5 := (hf 5 _ rfl).trans e5
  have f6 : DataW.trod enc Try.prog W base (fun _ => true) true m 22 ((([c0, c1, c2, c3, c4, c5, c6, c7, c8, c9] : List Value).drop 6).take (Try.prog.cellsOf 22)) = some y6 := (hf 6 _ rfl).trans e6
  have f7 : DataW.trod enc Try.prog W base (fun _ => true) true m 23 ((([c0, c1, c2, c3, c4, c5, c6, c7, c8, c9] : List Value).drop 8).take (Try.prog.cellsOf 23)) = some y7 := (hf 7 _ rfl).trans e7
  rw [show Try.prog.cellsOf 9 = 1 by kernel_rfl] at f0 f5
  rw [show Try.prog.cellsOf 3 = 1 by kernel_rfl] at f1 f3 f4
  rw [show Try.prog.cellsOf 5 = 1 by kernel_rfl] at f2
  rw [show Try.prog.cellsOf 22 = 2 by kernel_rfl] at f6
  rw [show Try.prog.cellsOf 23 = 2 by kernel_rfl] at f7
  simp only [List.drop_zero, List.drop_succ_cons, List.take_succ_cons, List.take_zero] at f0 f1 f2 f3 f4 f5 f6 f7
  have wt : ∀ (j : Nat) (t : TypeId) (y : DataW H × List MemPlace), ([9, 3, 5, 3, 3, 9, 22, 23] : List TypeId)[j]? = some t → xs[j]? = some y → ∀ k ∈ y.1.weights Try.prog t, k ≤ reachBytes := fun j t y ht hy k hk =>
    hwe k (DataW.weights_mem_each (j := j) ht (by rw [List.getElem?_map, hy]; rfl) _ hk)
  obtain ⟨s0, rfl, l0⟩ := str_at f0 (wt 0 _ _ rfl e0)
  obtain ⟨z1, rfl, i1⟩ := int_at f1
  obtain ⟨n2, h2, _, w2⟩ := DataW.trod_int Try.underlying5 f2
  simp only [List.cons.injEq, and_true] at h2
  obtain ⟨m2, rfl, hm2⟩ := wf_nat rfl w2
  subst h2
  obtain ⟨z3, rfl, i3⟩ := int_at f3
  obtain ⟨z4, rfl, i4⟩ := int_at f4
  obtain ⟨s5, rfl, l5⟩ := str_at f5 (wt 5 _ _ rfl e5)
  obtain ⟨a0, a1, m6, g0, g1, k0, k1⟩ := nest_arr2 Try.underlying22 (by kernel_rfl) f6 (wt 6 _ _ rfl e6)
  obtain ⟨s6, rfl, l6⟩ := str_at g0 k0
  obtain ⟨s7, rfl, l7⟩ := str_at g1 k1
  obtain ⟨b0', b1', m7, g2, g3, _, _⟩ := nest_arr2 Try.underlying23 (by kernel_rfl) f7 (wt 7 _ _ rfl e7)
  obtain ⟨z8, rfl, i8⟩ := int_at g2
  obtain ⟨z9, rfl, i9⟩ := int_at g3
  exact ⟨⟨s0, z1, m2, z3, z4, s5, s6, s7, z8, z9⟩, rfl, ⟨by simpa [maxN] using hm2, l0, l5, l6, l7, i1, i3, i4, i8, i9⟩⟩
theorem open_Head (hval : Value.okWide Try.prog W r b0 25 v) (hd : DataW.Trod enc Try.prog W base (fun _ => true) true 25 v d p)
    {ts : List TypeId} {ds : List (DataW H)} (hsz : (DataW.weightsEach Try.prog ts ds).all (· ≤ reachBytes) = true) {j : Nat} (hj : ts[j]? = some 25) (hdj : ds[j]? = some d) :
    ∃ a : Hd, v = .agg a.cells.toArray ∧ a.Ok :=
  open_stG Hd.cells Hd.Ok Try.underlying25 (fun n cs x hx hw => head_step n cs x hx hw) hval hd hsz hj hdj
end
end Go.Proofs.Ytaoieiiggbpjeaa
