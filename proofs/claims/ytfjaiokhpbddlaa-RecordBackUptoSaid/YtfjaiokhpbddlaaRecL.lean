/-
  record: lists of members are compared; the statements on them.
-/
import Derived.Test.YtfjaiokhpbddlaaRecK
namespace Go.Proofs.Ytfjaiokhpbddlaa
open Go.ChangeShapes Go.WideShapes Go.ChangeAt Go.RowKit Go.Deep Rec
set_option linter.unusedVariables false
set_option linter.unusedSimpArgs false

theorem memsV_get : ∀ (l : List M) (i j : Nat) (hi : i < l.length) (u : Value), (l[i]).cells[j]? = some u → (memsV l)[i * 5 + j]? = some u
  | a :: l, 0, j, hi, u, hu => by
    have hj : j < a.cells.length := (List.getElem?_eq_some_iff.1 hu).1
    rw [Nat.zero_mul, Nat.zero_add]
    simp only [memsV, List.flatMap_cons]
    rw [List.getElem?_append_left hj]
    exact hu
  | a :: l, i + 1, j, hi, u, hu => by
    have hl : a.cells.length = 5 := rfl
    simp only [memsV, List.flatMap_cons]
    rw [List.getElem?_append_right (by omega), show (i + 1) * 5 + j - a.cells.length = i * 5 + j by omega]
    exact memsV_get l i j (by simpa using hi) u hu
theorem mems_cell {w : World} {B : Nat} {A : Option Addr} {l : List M} (h : Sl w B A (memsV l)) {i : Nat} (hi : i < l.length) :
    ∃ b o, A = some ⟨b, o, none⟩ ∧ b < B ∧ ∀ j u, (l[i]).cells[j]? = some u → w.cell? ⟨b, o + i * 5 + j, none⟩ = some u := by
  have h0 := memsV_get l i 0 hi _ rfl
  have hp : 0 < (memsV l).length := by have := (List.getElem?_eq_some_iff.1 h0).1; omega
  obtain ⟨b, o, e, hb, hc⟩ := h.at_ hp
  exact ⟨b, o, e, hb, fun j u hu => by rw [Nat.add_assoc]; exact hc _ _ (memsV_get l i j hi u hu)⟩
theorem mem_eq (a b : M) : (!([decide (a.path = b.path), decide (a.start = b.start), decide (a.sectors = b.sectors), decide (a.size = b.size), decide ((a.sum : Int) = (b.sum : Int))].all id)) = decide (a ≠ b) := by
  obtain ⟨a1, a2, a3, a4, a5⟩ := a
  obtain ⟨b1, b2, b3, b4, b5⟩ := b
  have e : ((a5 : Int) = (b5 : Int)) ↔ a5 = b5 := by omega
  rw [Bool.eq_iff_iff]
  simp only [e, List.all_cons, List.all_nil, id, Bool.and_true, Bool.not_eq_true', Bool.and_eq_false_iff, decide_eq_false_iff_not, decide_eq_true_eq, M.mk.injEq, ne_eq, not_and]
  constructor
  · rintro (h | h | h | h | h) h1 h2 h3 h4 <;> simp_all
  · intro h
    by_cases c1 : a1 = b1 <;> by_cases c2 : a2 = b2 <;> by_cases c3 : a3 = b3 <;> by_cases c4 : a4 = b4 <;> simp_all
set_option maxRecDepth 20000 in
theorem same_s (l1 l2 : List M) (A1 A2 : Option Addr) (k1 k2 : Nat) (w : World) (B1 B2 : Nat) (h1 : Sl w B1 A1 (memsV l1)) (h2 : Sl w B2 A2 (memsV l2)) (hn : l1.length ≤ 1000000000000) :
    Ret Try.prog 20 [.slice A1 l1.length k1, .slice A2 l2.length k2] w fun v w' => v = .bool (decide (l1 = l2)) ∧ Ext w w' := by
  refine Ret.enter Try.func20 rfl Try.ntmps20 (by kernel_rfl) rfl ?_
  refine KW.seq (KW.region ?_)
  refine OW.val rfl rfl (EX.assign rfl) ?_
  refine OW.nil ?_
  refine KW.seq (KW.seq (KW.region ?_))
  refine OW.val rfl rfl (EX.move rfl) ?_
  refine OW.val rfl rfl (EX.lenA Try.underlying48 rfl) ?_
  refine OW.val rfl rfl (EX.move rfl) ?_
  refine OW.val rfl rfl (EX.lenA Try.underlying48 rfl) ?_
  refine OW.val rfl rfl (by first | exact EX.neqN rfl rfl | exact EX.neqZ rfl rfl) ?_
  refine OW.nil ?_
  refine KW.condD rfl (fun hl => ?_) (fun hl => ?_)
  · refine KW.seq (KW.region ?_)
    refine OW.val rfl rfl (EX.assign rfl) ?_
    refine OW.nil ?_
    refine KW.ret (ret1 rfl rfl ?_)
    refine ⟨congrArg Value.bool (decide_eq_false (fun e => hl (by rw [e]))).symm, Ext.refl _⟩
  · have hll : l1.length = l2.length := by omega
    refine KW.skip (KW.seq (KW.seq (KW.region ?_)))
    refine OW.val rfl rfl (EX.assign rfl) ?_
    refine OW.nil ?_
    refine KW.block ?_
    refine KW.loop2 (fun (i : Nat) (wr : World) => i ≤ l1.length ∧ (∀ j, j < i → l1[j]? = l2[j]?) ∧ Ext w wr) (fun (i : Nat) (wr : World) => [(0, .slice A1 l1.length k1), (1, .slice A2 l2.length k2), (5, .int .i64 ((i : Nat) : Int))]) (fun (i : Nat) (wr : World) => wr) (fun (i : Nat) (wr : World) => l1.length - i) (0) (w) ⟨rfl, rfl, rfl, trivial⟩ rfl ?_ ?_
    · exact ⟨by omega, fun j hj => by omega, Ext.refl _⟩
    · rintro i wr ⟨hi, he, hx⟩
      refine KW.seq (KW.seq (KW.region ?_))
      refine OW.val rfl rfl (EX.move rfl) ?_
      refine OW.val rfl rfl (EX.move rfl) ?_
      refine OW.val rfl rfl (EX.lenA Try.underlying48 rfl) ?_
      refine OW.val rfl rfl (by first | exact EX.lssN rfl rfl | exact EX.lssZ rfl rfl) ?_
      refine OW.nil ?_
      refine KW.condD rfl (fun hlt => ?_) (fun hlt => ?_)
      · have hlt2 : i < l2.length := by omega
        obtain ⟨b1, o1, rfl, _, hc1⟩ := mems_cell (h1.ext hx) hlt
        obtain ⟨b2, o2, rfl, _, hc2⟩ := mems_cell (h2.ext hx) hlt2
        refine KW.skip (KW.seq (KW.block (KW.seq ?_)))
        refine KW.regionQ (by kernel_rfl) (by kernel_rfl) ?_
        refine QW.val rfl rfl (fun _ => EX.move rfl) ?_
        refine QW.val rfl rfl (fun _ => EX.move rfl) ?_
        refine QW.val rfl rfl (fun _ => EX.indexAddrS Try.underlying48 ti40 rfl rfl (by omega)) ?_
        refine QW.val rfl rfl (fun _ => EX.loadA (w := wr.drewN _) (l := (l1[i]).cells) Try.underlying40 rfl ti40 rfl rfl hc1) ?_
        refine QW.val rfl rfl (fun _ => EX.move rfl) ?_
        refine QW.val rfl rfl (fun _ => EX.move rfl) ?_
        refine QW.val rfl rfl (fun _ => EX.indexAddrS Try.underlying48 ti40 rfl rfl (by omega)) ?_
        refine QW.val rfl rfl (fun _ => EX.loadA (w := wr.drewN _) (l := (l2[i]).cells) Try.underlying40 rfl ti40 rfl rfl hc2) ?_
        refine QW.val rfl rfl (fun _ => EX.neqG Try.underlying40 (by kernel_rfl) (by kernel_rfl) rfl rfl (.cons (by decide) Try.underlying9 rfl rfl rfl (eq_str Try.underlying9) (.cons (by decide) Try.underlying3 rfl rfl rfl (eq_int Try.underlying3) (.cons (by decide) Try.underlying3 rfl rfl rfl (eq_int Try.underlying3) (.cons (by decide) Try.underlying3 rfl rfl rfl (eq_int Try.underlying3) (.cons (by decide) Try.underlying38 rfl rfl rfl (eq_int Try.underlying38) .nil))))) rfl) ?_
        refine QW.nil (fun nq => ?_)
        refine KW.as 25 (.bool (decide (l1[i] ≠ l2[i]))) rfl (congrArg Value.bool (mem_eq _ _)) ?_
        refine KW.condD rfl (fun hne => ?_) (fun hne => ?_)
        · refine KW.seq (KW.region ?_)
          refine OW.val rfl rfl (EX.assign rfl) ?_
          refine OW.nil ?_
          refine KW.ret (ret1 rfl rfl ?_)
          refine ⟨congrArg Value.bool (decide_eq_false (fun e => hne ?_)).symm, hx.trans (Ext.drewN wr nq)⟩
          subst e
          rfl
        · refine KW.skip (KW.leave (KW.region ?_))
          refine OW.val rfl rfl (EX.move rfl) ?_
          refine OW.val rfl rfl (by first | exact EX.addN (b := 1) (m := 9223372036854775807) rfl rfl rfl (by omega) | exact EX.addZ (m := 9223372036854775807) rfl rfl rfl rfl (by omega)) ?_
          refine OW.val rfl rfl (EX.assign rfl) ?_
          refine OW.nil ?_
          refine KW.back2 (i + 1) (wr.drewN nq) ⟨rfl, rfl, rfl, trivial⟩ rfl ?_ (by omega)
          refine ⟨by omega, fun j hj => ?_, hx.trans (Ext.drewN wr nq)⟩
          by_cases e : j = i
          · subst e
            rw [List.getElem?_eq_getElem hlt, List.getElem?_eq_getElem hlt2]
            exact congrArg some (by simpa using hne)
          · exact he j (by omega)
      · obtain rfl : i = l1.length := by omega
        refine KW.exit rfl (KW.seq (KW.region ?_))
        refine OW.val rfl rfl (EX.assign rfl) ?_
        refine OW.nil ?_
        refine KW.ret (ret1 rfl rfl ?_)
        refine ⟨congrArg Value.bool (decide_eq_true ?_).symm, hx⟩
        apply List.ext_getElem?
        intro j
        by_cases hj : j < l1.length
        · exact he j hj
        · rw [List.getElem?_eq_none (by omega), List.getElem?_eq_none (by omega)]
theorem recordReads_s (s : List UInt8) (hs : s.length ≤ 140737488355328) (w : World) : Ret Try.prog 7 [str s] w fun v w' => v = .bool true ∧ Ext w w' := by
  refine Ret.enter Try.func7 rfl Try.ntmps7 (by kernel_rfl) rfl ?_
  refine KW.seq (KW.region ?_)
  refine OW.val rfl rfl (EX.assign rfl) ?_
  refine OW.nil ?_
  refine KW.seq (KW.seq (KW.region ?_))
  refine OW.val rfl rfl (EX.move rfl) ?_
  refine OW.val rfl rfl (EX.lenS Try.underlying9 rfl) ?_
  refine OW.val rfl rfl (by first | exact EX.gtrN (b := 20000) rfl rfl | exact EX.gtrZ rfl rfl) ?_
  refine OW.nil ?_
  refine KW.condD rfl (fun hl => ?_) (fun hl => ?_)
  · refine KW.seq (KW.region ?_)
    refine OW.call rfl rfl rfl (awake_s w) ?_
    rintro _ w1 ⟨rfl, hx1⟩
    refine OW.val rfl rfl (EX.assign rfl) ?_
    refine OW.nil ?_
    refine KW.ret (ret1 rfl rfl ?_)
    exact ⟨rfl, hx1⟩
  · generalize hres : memL (s.length + 1) s [] = res
    have hlen : res.1.length ≤ s.length + 1 := by
      have key : ∀ (f : Nat) (q : List UInt8) (out : List M), (memL f q out).1.length ≤ out.length + f := by
        intro f
        induction f with
        | zero => intro q out; simp [memL]
        | succ f ih =>
          intro q out
          rw [memL]
          split
          · simp
          · split
            · simp
            · split
              · have := ih (q.drop (11 + first q)) (out ++ [memAt q])
                rw [List.length_append, List.length_singleton] at this
                omega
              · simp
      have := key (s.length + 1) s []
      rw [hres] at this
      simpa using this
    have m1 := members_s s (by omega) w
    rw [hres] at m1
    refine KW.skip (KW.seq (KW.region ?_))
    refine OW.val rfl rfl (EX.move rfl) ?_
    refine OW.call rfl rfl rfl (m1) ?_
    rintro _ w1 ⟨v1, rfl, hown1, hx1⟩
    refine OW.val rfl rfl (EX.move rfl) ?_
    refine OW.val rfl rfl (EX.extract rfl rfl) ?_
    refine OW.val rfl rfl (EX.extract rfl rfl) ?_
    refine OW.val rfl rfl (EX.assign rfl) ?_
    refine OW.val rfl rfl (EX.assign rfl) ?_
    refine OW.nil ?_
    refine KW.seq (KW.region ?_)
    refine OW.val rfl rfl (EX.move rfl) ?_
    have m2 := rmembers_s s (by omega) w1
    rw [hres] at m2
    refine OW.call rfl rfl rfl (m2) ?_
    rintro _ w2 ⟨v2, rfl, hown2, hx2⟩
    refine OW.val rfl rfl (EX.move rfl) ?_
    refine OW.val rfl rfl (EX.extract rfl rfl) ?_
    refine OW.val rfl rfl (EX.extract rfl rfl) ?_
    refine OW.val rfl rfl (EX.assign rfl) ?_
    refine OW.val rfl rfl (EX.assign rfl) ?_
    refine OW.nil ?_
    refine KW.seq ?_
    obtain ⟨A1, c1, rfl, _, hs1⟩ := (hown1.ext hx2).slice
    obtain ⟨A2, c2, rfl, _, hs2⟩ := hown2.slice
    refine KW.region ?_
    refine OW.val rfl rfl (EX.move rfl) ?_
    refine OW.val rfl rfl (EX.move rfl) ?_
    refine OW.call rfl rfl rfl (same_s res.1 res.1 A1 A2 c1 c2 w2 _ _ hs1 hs2 (by omega)) ?_
    rintro _ w3 ⟨rfl, hx3⟩
    refine OW.val rfl rfl (EX.move rfl) ?_
    refine OW.as 24 (.bool true) rfl (congrArg Value.bool (decide_eq_true (rfl))) ?_
    refine OW.val rfl rfl (EX.move rfl) ?_
    refine OW.val rfl rfl (EX.move rfl) ?_
    refine OW.val rfl rfl (by first | exact EX.eqlN rfl rfl | exact EX.eqlZ rfl rfl) ?_
    refine OW.val rfl rfl (EX.pickT rfl rfl) ?_
    refine OW.val rfl rfl (EX.move rfl) ?_
    refine OW.as 29 (.bool true) rfl (congrArg Value.bool (decide_eq_true (rfl))) ?_
    refine OW.call rfl rfl rfl (awake_s w3) ?_
    rintro _ w4 ⟨rfl, hx4⟩
    refine OW.val rfl rfl (EX.pickT rfl rfl) ?_
    refine OW.val rfl rfl (EX.assign rfl) ?_
    refine OW.nil ?_
    refine KW.ret (ret1 rfl rfl ?_)
    exact ⟨rfl, ((hx1.trans hx2).trans hx3).trans hx4⟩
end Go.Proofs.Ytfjaiokhpbddlaa
