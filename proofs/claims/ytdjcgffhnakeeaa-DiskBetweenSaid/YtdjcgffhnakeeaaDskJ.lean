/-
  disk: a device behind acts that are no falls.
-/
import Derived.Test.YtdjcgffhnakeeaaDskI
namespace Go.Proofs.Ytdjcgffhnakeeaa
open Go.RowKit Dsk
set_option linter.unusedVariables false

theorem few_s (c : Int) (A : Option Addr) (n k : Nat) (w : World) : Ret Try.prog 23 [.int .i64 c, .slice A n k] w fun v w' => v = .bool (decide (n ≤ 60 ∧ (c < 1 ∨ 4096 < c ∨ c ≤ 40))) ∧ w = w' := by
  refine Ret.enter Try.func23 rfl Try.ntmps23 (by kernel_rfl) rfl ?_
  refine KW.seq (KW.region ?_)
  refine OW.val rfl rfl (EX.assign rfl) ?_
  refine OW.nil ?_
  refine KW.seq ?_
  refine KW.region ?_
  refine OW.val rfl rfl (EX.move rfl) ?_
  refine OW.val rfl rfl (EX.lenA Try.underlying33 rfl) ?_
  refine OW.val rfl rfl (by first | exact EX.leqN (b := 60) rfl rfl | exact EX.leqZ rfl rfl) ?_
  refine OW.val rfl rfl (EX.move rfl) ?_
  refine OW.splitD 8 rfl (fun a1 => ?_) (fun a1 => ?_)
  · refine OW.val rfl rfl (EX.move rfl) ?_
    refine OW.val rfl rfl (by first | exact EX.lssN (b := 1) rfl rfl | exact EX.lssZ rfl rfl) ?_
    refine OW.val rfl rfl (EX.move rfl) ?_
    refine OW.splitD 11 rfl (fun a2 => ?_) (fun a2 => ?_)
    · refine OW.pass rfl rfl ?_
      refine OW.pass rfl rfl ?_
      refine OW.val rfl rfl (EX.pickT rfl rfl) ?_
      refine OW.val rfl rfl (EX.move rfl) ?_
      refine OW.pass rfl rfl ?_
      refine OW.pass rfl rfl ?_
      refine OW.val rfl rfl (EX.pickT rfl rfl) ?_
      refine OW.val rfl rfl (EX.pickT rfl rfl) ?_
      refine OW.val rfl rfl (EX.assign rfl) ?_
      refine OW.nil ?_
      refine KW.ret (ret1 rfl rfl ?_)
      exact ⟨by rw [decide_eq_true]; omega, rfl⟩
    · refine OW.val rfl rfl (EX.move rfl) ?_
      refine OW.val rfl rfl (by first | exact EX.gtrN (b := 4096) rfl rfl | exact EX.gtrZ rfl rfl) ?_
      refine OW.val rfl rfl (EX.pickF rfl rfl) ?_
      refine OW.val rfl rfl (EX.move rfl) ?_
      refine OW.splitD 15 rfl (fun a3 => ?_) (fun a3 => ?_)
      · refine OW.pass rfl rfl ?_
        refine OW.pass rfl rfl ?_
        refine OW.val rfl rfl (EX.pickT rfl rfl) ?_
        refine OW.val rfl rfl (EX.pickT rfl rfl) ?_
        refine OW.val rfl rfl (EX.assign rfl) ?_
        refine OW.nil ?_
        refine KW.ret (ret1 rfl rfl ?_)
        exact ⟨by rw [decide_eq_true]; omega, rfl⟩
      · refine OW.val rfl rfl (EX.move rfl) ?_
        refine OW.val rfl rfl (by first | exact EX.leqN (b := 40) rfl rfl | exact EX.leqZ rfl rfl) ?_
        refine OW.val rfl rfl (EX.pickF rfl rfl) ?_
        refine OW.val rfl rfl (EX.pickT rfl rfl) ?_
        refine OW.val rfl rfl (EX.assign rfl) ?_
        refine OW.nil ?_
        refine KW.ret (ret1 rfl rfl ?_)
        exact ⟨congrArg Value.bool (decide_eq_decide.2 (by omega)), rfl⟩
  · refine OW.pass rfl rfl ?_
    refine OW.pass rfl rfl ?_
    refine OW.pass rfl rfl ?_
    refine OW.pass rfl rfl ?_
    refine OW.pass rfl rfl ?_
    refine OW.pass rfl rfl ?_
    refine OW.pass rfl rfl ?_
    refine OW.pass rfl rfl ?_
    refine OW.pass rfl rfl ?_
    refine OW.pass rfl rfl ?_
    refine OW.val rfl rfl (EX.pickF rfl rfl) ?_
    refine OW.val rfl rfl (EX.assign rfl) ?_
    refine OW.nil ?_
    refine KW.ret (ret1 rfl rfl ?_)
    exact ⟨congrArg Value.bool (decide_eq_false (by omega)).symm, rfl⟩
def actsV : List Ac → List Value
  | [] => []
  | a :: l => a.cells ++ actsV l
theorem actsV_get : ∀ (l : List Ac) (i j : Nat) (hi : i < l.length) (u : Value), (l[i]).cells[j]? = some u → (actsV l)[i * 6 + j]? = some u
  | a :: l, 0, j, hi, u, hu => by
    have hj : j < a.cells.length := (List.getElem?_eq_some_iff.1 hu).1
    rw [Nat.zero_mul, Nat.zero_add]
    simp only [actsV]
    rw [List.getElem?_append_left hj]
    exact hu
  | a :: l, i + 1, j, hi, u, hu => by
    have hl : a.cells.length = 6 := rfl
    simp only [actsV]
    rw [List.getElem?_append_right (by omega), show (i + 1) * 6 + j - a.cells.length = i * 6 + j by omega]
    exact actsV_get l i j (by simpa using hi) u hu
theorem acts_cell {w : World} {B : Nat} {A : Option Addr} {acts : List Ac} (h : Sl w B A (actsV acts)) {i : Nat} (hi : i < acts.length) :
    ∃ b o, A = some ⟨b, o, none⟩ ∧ b < B ∧ ∀ j u, (acts[i]).cells[j]? = some u → w.cell? ⟨b, o + i * 6 + j, none⟩ = some u := by
  have h0 := actsV_get acts i 0 hi _ rfl
  have hp : 0 < (actsV acts).length := by have := (List.getElem?_eq_some_iff.1 h0).1; omega
  obtain ⟨b, o, e, hb, hc⟩ := h.at_ hp
  exact ⟨b, o, e, hb, fun j u hu => by rw [Nat.add_assoc]; exact hc _ _ (actsV_get acts i j hi u hu)⟩
/-- behind acts that are no falls -/
def _root_.Go.Proofs.Ytdjcgffhnakeeaa.Dsk.Dv.acts (D : Dv) : List Ac → Dv
  | [] => D
  | a :: l => Dv.acts (if a.kind ≠ 4 ∧ a.kind ≠ 5 then (D.act a).1 else D) l
theorem acts_snoc : ∀ (l : List Ac) (a : Ac) (D : Dv), D.acts (l ++ [a]) = (if a.kind ≠ 4 ∧ a.kind ≠ 5 then ((D.acts l).act a).1 else D.acts l)
  | [], a, D => rfl
  | b :: l, a, D => by simp only [List.cons_append, Dv.acts]; exact acts_snoc l a _
theorem act_ok {D : Dv} (h : D.Ok) (a : Ac) : (D.act a).1.Ok := by
  unfold Dv.act
  split
  · unfold Dv.read
    split
    · exact h
    · split
      · exact h
      · exact ⟨h.cap, h.kept, h.now, h.keptM, h.nowM, h.pend⟩
  · split
    · exact write_ok h _ _
    · split
      · exact cut_ok h _
      · split
        · exact sync_ok h
        · exact h
/-- how far one call takes a device's numbers -/
def Grew (D E : Dv) : Prop := E.calls ≤ D.calls + 1 ∧ E.pend.length ≤ D.pend.length + 1 ∧ E.at_ ≤ D.at_ ∧ E.keep.length ≤ D.keep.length ∧ E.cap = D.cap
theorem Grew.refl (D : Dv) : Grew D D := ⟨by omega, by omega, by omega, by omega, rfl⟩
theorem does_grew (D : Dv) (c : Option Ch) : Grew D (D.does c).1 := by
  have hp : (D.pushed c).calls = D.calls ∧ (D.pushed c).pend.length ≤ D.pend.length + 1 ∧ (D.pushed c).at_ = D.at_ ∧ (D.pushed c).keep = D.keep ∧ (D.pushed c).cap = D.cap := by cases c <;> simp [Dv.pushed]
  have hd : ∀ E : Dv, (E.done c).calls = E.calls + 1 ∧ (E.done c).pend.length ≤ E.pend.length ∧ (E.done c).at_ = E.at_ ∧ (E.done c).keep = E.keep ∧ (E.done c).cap = E.cap := fun E => by cases c <;> simp [Dv.done]
  obtain ⟨p1, p2, p3, p4, p5⟩ := hp
  have key : ∀ E : Dv, E.calls ≤ D.calls → E.pend.length ≤ D.pend.length + 1 → E.at_ ≤ D.at_ → E.keep.length ≤ D.keep.length → E.cap = D.cap → Grew D (E.done c) := fun E q1 q2 q3 q4 q5 => by
    obtain ⟨d1, d2, d3, d4, d5⟩ := hd E
    exact ⟨by omega, by omega, by omega, by rw [d4]; exact q4, by rw [d5, q5]⟩
  unfold Dv.does
  simp only
  split
  · exact key _ (by omega) p2 (by omega) (by rw [p4]; exact Nat.le_refl _) p5
  · split
    · exact ⟨by show (D.pushed c).calls ≤ _; omega, by simp, by simp, by simp, p5⟩
    · exact key _ (by show (D.pushed c).calls ≤ _; omega) p2 (by show (D.pushed c).at_ - 1 ≤ _; omega) (by show (D.pushed c).keep.length ≤ _; rw [p4]; exact Nat.le_refl _) p5
theorem write_grew (D : Dv) (i : Int) (s : List UInt8) : Grew D (D.write i s).1 := by
  unfold Dv.write
  split
  · exact Grew.refl D
  · split
    · exact Grew.refl D
    · split
      · exact Grew.refl D
      · exact does_grew D _
theorem cut_grew (D : Dv) (i : Int) : Grew D (D.cut i).1 := by
  unfold Dv.cut
  split
  · exact Grew.refl D
  · split
    · exact Grew.refl D
    · exact does_grew D _
theorem sync_grew (D : Dv) : Grew D D.sync.1 := by
  unfold Dv.sync
  split
  · exact Grew.refl D
  · exact does_grew D _
theorem act_grew (D : Dv) (a : Ac) : Grew D (D.act a).1 := by
  unfold Dv.act
  split
  · unfold Dv.read
    split
    · exact Grew.refl D
    · split
      · exact Grew.refl D
      · exact ⟨by simp, by simp, by simp, by simp, rfl⟩
  · split
    · exact write_grew D _ _
    · split
      · exact cut_grew D _
      · split
        · exact sync_grew D
        · exact Grew.refl D
end Go.Proofs.Ytdjcgffhnakeeaa
