/-
  disk: acts among a law's arguments.
-/
import Derived.Test.YtdjcgffhnakeeaaDskM
import Derived.Test.YtdjcgffhnakeeaaOpn
namespace Go.Proofs.Ytdjcgffhnakeeaa
open Go.ChangeShapes Go.WideShapes Go.ChangeAt Go.RowKit Go.Deep Dsk
set_option linter.unusedVariables false
instance : Inhabited Ac := ⟨⟨0, 0, 0, false, 0, .bool false⟩⟩
theorem actsV_flat : ∀ l : List Ac, actsV l = l.flatMap Ac.cells
  | [] => rfl
  | a :: l => by rw [List.flatMap_cons, ← actsV_flat l]; rfl
theorem six {l : List Value} (h : l.length = 6) : ∃ a b c d e f, l = [a, b, c, d, e, f] := by
  match l, h with
  | [a, b, c, d, e, f], _ => exact ⟨a, b, c, d, e, f, rfl⟩
section
variable {H : Type} {enc : TypeId × Value → H} {W : World} {base : Nat} {v : Value} {d : DataW H} {p : List MemPlace} {r : Reach} {b0 : Nat}
theorem act_step (n : Nat) (cs : List Value) (x : DataW H × List MemPlace) (h : DataW.trod enc Try.prog W base (fun _ => true) true n 44 cs = some x) : ∃ a : Ac, cs = a.cells ∧ a.Ok := by
  obtain ⟨xs, m, rfl, rfl, hl, hlen, hf⟩ := DataW.trod_struct Try.underlying44 h
  obtain ⟨c0, c1, c2, c3, c4, c5, rfl⟩ := six (hl.trans (by kernel_rfl))
  have g : ∀ i (hi : i < 5), ∃ y, xs[i]? = some y := fun i hi => ⟨_, List.getElem?_eq_getElem (by rw [hlen]; exact hi)⟩
  have one : ∀ t, t = 3 ∨ t = 5 ∨ t = 4 → Try.prog.cellsOf t = 1 := by
    rintro t (rfl | rfl | rfl) <;> kernel_rfl
  obtain ⟨y0, e0⟩ := g 0 (by omega)
  obtain ⟨y1, e1⟩ := g 1 (by omega)
  obtain ⟨y2, e2⟩ := g 2 (by omega)
  obtain ⟨y3, e3⟩ := g 3 (by omega)
  obtain ⟨y4, e4⟩ := g 4 (by omega)
  have f0 : DataW.trod enc Try.prog W base (fun _ => true) true m 3 ((([c0, c1, c2, c3, c4, c5] : List Value).drop 0).take (Try.prog.cellsOf 3)) = some y0 := (hf 0 _ rfl).trans e0
  have f1 : DataW.trod enc Try.prog W base (fun _ => true) true m 3 ((([c0, c1, c2, c3, c4, c5] : List Value).drop 1).take (Try.prog.cellsOf 3)) = some y1 := (hf 1 _ rfl).trans e1
  have f2 : DataW.trod enc Try.prog W base (fun _ => true) true m 5 ((([c0, c1, c2, c3, c4, c5] : List Value).drop 2).take (Try.prog.cellsOf 5)) = some y2 := (hf 2 _ rfl).trans e2
  have f3 : DataW.trod enc Try.prog W base (fun _ => true) true m 4 ((([c0, c1, c2, c3, c4, c5] : List Value).drop 3).take (Try.prog.cellsOf 4)) = some y3 := (hf 3 _ rfl).trans e3
  have f4 : DataW.trod enc Try.prog W base (fun _ => true) true m 39 ((([c0, c1, c2, c3, c4, c5] : List Value).drop 4).take (Try.prog.cellsOf 39)) = some y4 := (hf 4 _ rfl).trans e4
  rw [one _ (.inl rfl)] at f0 f1
  rw [one _ (.inr (.inl rfl))] at f2
  rw [one _ (.inr (.inr rfl))] at f3
  rw [show Try.prog.cellsOf 39 = 2 by kernel_rfl] at f4
  simp only [List.drop_zero, List.drop_succ_cons, List.take_succ_cons, List.take_zero] at f0 f1 f2 f3 f4
  obtain ⟨n0, h0, _, w0⟩ := DataW.trod_int Try.underlying3 f0
  obtain ⟨n1, h1, _, w1⟩ := DataW.trod_int Try.underlying3 f1
  obtain ⟨n2, h2, _, w2⟩ := DataW.trod_int Try.underlying5 f2
  obtain ⟨b3, h3, _⟩ := DataW.trod_bool Try.underlying4 f3
  obtain ⟨zs, k, rfl, _, _, hzl, hz⟩ := DataW.trod_struct Try.underlying39 f4
  obtain ⟨z0, q0⟩ : ∃ y, zs[0]? = some y := ⟨_, List.getElem?_eq_getElem (by rw [hzl]; decide)⟩
  have g0 : DataW.trod enc Try.prog W base (fun _ => true) true k 3 ((([c4, c5] : List Value).drop 0).take (Try.prog.cellsOf 3)) = some z0 := (hz 0 _ rfl).trans q0
  rw [one _ (.inl rfl)] at g0
  simp only [List.drop_zero, List.drop_succ_cons, List.take_succ_cons, List.take_zero] at g0
  obtain ⟨n4, h4, _, w4⟩ := DataW.trod_int Try.underlying3 g0
  obtain ⟨z1, q1⟩ : ∃ y, zs[1]? = some y := ⟨_, List.getElem?_eq_getElem (by rw [hzl]; decide)⟩
  have g1 : DataW.trod enc Try.prog W base (fun _ => true) true k 34 ((([c4, c5] : List Value).drop 1).take (Try.prog.cellsOf 34)) = some z1 := (hz 1 _ rfl).trans q1
  rw [show Try.prog.cellsOf 34 = 1 by kernel_rfl] at g1
  simp only [List.drop_zero, List.drop_succ_cons, List.take_succ_cons, List.take_zero] at g1
  have h5 : c5.oneCell' = true := by
    rcases open_slice Try.underlying34 g1 with ⟨hc, _⟩ | ⟨a, len, cap, m', n', D', Pl', hc, _⟩ <;> (simp only [List.cons.injEq, and_true] at hc; rw [hc]; rfl)
  simp only [List.cons.injEq, and_true] at h0 h1 h2 h3 h4
  obtain ⟨m2, rfl, hm2⟩ := wf_nat rfl w2
  subst h0 h1 h2 h3 h4
  exact ⟨⟨n0, n1, m2, b3, n4, c5⟩, rfl, ⟨wf_int w1, by simpa [maxN] using hm2, h5⟩⟩
theorem open_Act (hval : Value.okWide Try.prog W r b0 33 v) (hd : DataW.Trod enc Try.prog W base (fun _ => true) true 33 v d p)
    {ts : List TypeId} {ds : List (DataW H)} (hsz : (DataW.weightsEach Try.prog ts ds).all (· ≤ reachBytes) = true) {j : Nat} (hj : ts[j]? = some 33) (hdj : ds[j]? = some d) :
    ∃ (l : List Ac) (A : Option Addr) (cap : Nat), v = .slice A l.length cap ∧ (∀ a ∈ l, a.Ok) ∧ Sl W W.heap.size A (actsV l) := by
  obtain ⟨l, A, cap, h1, h2, _, _, _, h3⟩ := open_slG Ac.cells Ac.Ok (c := 6) (fun _ => rfl) Try.underlying33 (by kernel_rfl) (fun n cs x hx _ _ => act_step n cs x hx) hval hd hsz hj hdj
  exact ⟨l, A, cap, h1, h2, by rw [actsV_flat]; exact h3⟩
end
end Go.Proofs.Ytdjcgffhnakeeaa
