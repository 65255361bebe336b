/-
  record: any member may be, and is laid, as the document says (of bounded bulk).
-/
import Derived.Test.YtfjaiokhpbddlaaRecO
namespace Go.Proofs.Ytfjaiokhpbddlaa
open Go.ChangeShapes Go.WideShapes Go.ChangeAt Go.RowKit Go.Deep Rec
set_option linter.unusedVariables false
set_option linter.unusedSimpArgs false

set_option maxRecDepth 20000 in
theorem recordMembers_s (m : M) (hm : m.Ok) (w : World) : Ret Try.prog 5 [.agg m.cells.toArray] w fun v w' => v = .bool true ∧ Ext w w' := by
  refine Ret.enter Try.func5 rfl Try.ntmps5 (by kernel_rfl) rfl ?_
  refine KW.seq (KW.region ?_)
  refine OW.boxS rfl rfl rfl ?_
  rintro mb w1 hge1 hm1 hx1
  refine OW.val rfl rfl (EX.assign rfl) ?_
  refine OW.nil ?_
  refine KW.seq (KW.region ?_)
  replace hm1 : Bk w1 mb 40 m.cells := hm1
  refine OW.val rfl rfl (EX.loadBk Try.underlying40 rfl ti40 rfl (hm1) (rfl)) ?_
  refine OW.call rfl rfl rfl (member_s m hm w1) ?_
  rintro _ w2 ⟨rfl, hx2⟩
  refine OW.val rfl rfl (EX.move rfl) ?_
  refine OW.val rfl rfl (EX.extract rfl rfl) ?_
  refine OW.val rfl rfl (EX.extract rfl rfl) ?_
  refine OW.val rfl rfl (EX.assign rfl) ?_
  refine OW.val rfl rfl (EX.assign rfl) ?_
  refine OW.nil ?_
  refine KW.seq (KW.region ?_)
  have hm2 := hm1.ext hx2
  have x2 := hx1.trans hx2
  refine OW.val rfl rfl (EX.loadBk Try.underlying40 rfl ti40 rfl (hm2) (rfl)) ?_
  refine OW.call rfl rfl rfl (rmember_s m hm w2) ?_
  rintro _ w3 ⟨rfl, hx3⟩
  refine OW.val rfl rfl (EX.move rfl) ?_
  refine OW.val rfl rfl (EX.extract rfl rfl) ?_
  refine OW.val rfl rfl (EX.extract rfl rfl) ?_
  refine OW.val rfl rfl (EX.assign rfl) ?_
  refine OW.val rfl rfl (EX.assign rfl) ?_
  refine OW.nil ?_
  refine KW.seq ?_
  have hm3 := hm2.ext hx3
  have x3 := x2.trans hx3
  refine KW.regionG (N := 19) (fun w' => Ext w w' ∧ Bk w' mb 40 m.cells) (by kernel_rfl) rfl ?_
  have hS := (⟨x3.trans (Ext.drew _), hm3.drew⟩ : Ext w w3.drew ∧ Bk w3.drew mb 40 m.cells)
  refine GW.val 0 rfl (by kernel_rfl) (by kernel_rfl) (by kernel_rfl) rfl rfl hS (fun w' hS' => EX.move rfl) ?_
  refine GW.val 1 rfl (by kernel_rfl) (by kernel_rfl) (by kernel_rfl) rfl rfl hS (fun w' hS' => EX.move rfl) ?_
  refine GW.val 2 rfl (by kernel_rfl) (by kernel_rfl) (by kernel_rfl) rfl rfl hS (fun w' hS' => EX.eqlS rfl rfl) ?_
  refine GW.val 3 rfl (by kernel_rfl) (by kernel_rfl) (by kernel_rfl) rfl rfl hS (fun w' hS' => EX.move rfl) ?_
  refine GW.as 20 (.bool true) rfl (congrArg Value.bool (decide_eq_true (rfl))) ?_
  refine GW.val 4 rfl (by kernel_rfl) (by kernel_rfl) (by kernel_rfl) rfl rfl hS (fun w' hS' => EX.move rfl) ?_
  refine GW.val 5 rfl (by kernel_rfl) (by kernel_rfl) (by kernel_rfl) rfl rfl hS (fun w' hS' => EX.move rfl) ?_
  refine GW.val 6 rfl (by kernel_rfl) (by kernel_rfl) (by kernel_rfl) rfl rfl hS (fun w' hS' => by first | exact EX.eqlN rfl rfl | exact EX.eqlZ rfl rfl) ?_
  refine GW.val 7 rfl (by kernel_rfl) (by kernel_rfl) (by kernel_rfl) rfl rfl hS (fun w' hS' => EX.pickT rfl rfl) ?_
  refine GW.val 8 rfl (by kernel_rfl) (by kernel_rfl) (by kernel_rfl) rfl rfl hS (fun w' hS' => EX.move rfl) ?_
  refine GW.as 25 (.bool true) rfl (congrArg Value.bool (decide_eq_true (rfl))) ?_
  refine GW.val 9 rfl (by kernel_rfl) (by kernel_rfl) (by kernel_rfl) rfl rfl hS (fun w' hS' => EX.loadBk Try.underlying40 rfl ti40 rfl (hS'.2) (rfl)) ?_
  refine GW.val 11 rfl (by kernel_rfl) (by kernel_rfl) (by kernel_rfl) rfl rfl hS (fun w' hS' => EX.loadBk Try.underlying40 rfl ti40 rfl (hS'.2) (rfl)) ?_
  refine GW.call 10 rfl (by kernel_rfl) rfl rfl rfl (checkM_s m hm w3.drew) ?_
  rintro _ w4 ⟨rfl, hx4⟩
  refine ⟨⟨hS.1.trans hx4, hS.2.ext hx4⟩, fun hS => ?_⟩
  refine GW.call 12 rfl (by kernel_rfl) rfl rfl rfl (rcheckM_s m hm w4) ?_
  rintro _ w5 ⟨rfl, hx5⟩
  refine ⟨⟨hS.1.trans hx5, hS.2.ext hx5⟩, fun hS => ?_⟩
  refine GW.val 13 rfl (by kernel_rfl) (by kernel_rfl) (by kernel_rfl) rfl rfl hS (fun w' hS' => by first | exact EX.eqlN rfl rfl | exact EX.eqlZ rfl rfl) ?_
  refine GW.val 14 rfl (by kernel_rfl) (by kernel_rfl) (by kernel_rfl) rfl rfl hS (fun w' hS' => EX.pickT rfl rfl) ?_
  refine GW.val 15 rfl (by kernel_rfl) (by kernel_rfl) (by kernel_rfl) rfl rfl hS (fun w' hS' => EX.move rfl) ?_
  refine GW.as 32 (.bool true) rfl (congrArg Value.bool (decide_eq_true (rfl))) ?_
  refine GW.call 16 rfl (by kernel_rfl) rfl rfl rfl (awake_s w5) ?_
  rintro _ w6 ⟨rfl, hx6⟩
  refine ⟨⟨hS.1.trans hx6, hS.2.ext hx6⟩, fun hS => ?_⟩
  refine GW.val 17 rfl (by kernel_rfl) (by kernel_rfl) (by kernel_rfl) rfl rfl hS (fun w' hS' => EX.pickT rfl rfl) ?_
  refine GW.val 18 rfl (by kernel_rfl) (by kernel_rfl) (by kernel_rfl) rfl rfl hS (fun w' hS' => EX.assign rfl) ?_
  refine GW.done (by kernel_rfl) ?_
  refine KW.ret (ret1 rfl rfl ?_)
  exact ⟨rfl, hS.1⟩
section
variable {H : Type} {enc : TypeId × Value → H} {W : World} {base : Nat} {v : Value} {d : DataW H} {p : List MemPlace} {r : Reach} {b0 : Nat}
set_option maxRecDepth 20000 in
theorem mem_stepU (n : Nat) (cs : List Value) (x : DataW H × List MemPlace) (h : DataW.trod enc Try.prog W base (fun _ => true) true n 40 cs = some x) (hw : Rows.uptoBulk x.1 ≤ 1048576) : ∃ a : M, cs = a.cells ∧ a.Ok := by
  obtain ⟨xs, m, rfl, rfl, hl, hlen, hf⟩ := DataW.trod_struct Try.underlying40 h
  obtain ⟨c0, c1, c2, c3, c4, rfl⟩ := five (hl.trans (by kernel_rfl))
  have g : ∀ i (hi : i < 5), ∃ y, xs[i]? = some y := fun i hi => ⟨_, List.getElem?_eq_getElem (by rw [hlen]; exact hi)⟩
  obtain ⟨y0, e0⟩ := g 0 (by omega)
  obtain ⟨y1, e1⟩ := g 1 (by omega)
  obtain ⟨y2, e2⟩ := g 2 (by omega)
  obtain ⟨y3, e3⟩ := g 3 (by omega)
  obtain ⟨y4, e4⟩ := g 4 (by omega)
  have f0 : DataW.trod enc Try.prog W base (fun _ => true) true m 9 ((([c0, c1, c2, c3, c4] : List Value).drop 0).take (Try.prog.cellsOf 9)) = some y0 := (hf 0 _ rfl).trans e0
  have f1 : DataW.trod enc Try.prog W base (fun _ => true) true m 3 ((([c0, c1, c2, c3, c4] : List Value).drop 1).take (Try.prog.cellsOf 3)) = some y1 := (hf 1 _ rfl).trans e1
  have f2 : DataW.trod enc Try.prog W base (fun _ => true) true m 3 ((([c0, c1, c2, c3, c4] : List Value).drop 2).take (Try.prog.cellsOf 3)) = some y2 := (hf 2 _ rfl).trans e2
  have f3 : DataW.trod enc Try.prog W base (fun _ => true) true m 3 ((([c0, c1, c2, c3, c4] : List Value).drop 3).take (Try.prog.cellsOf 3)) = some y3 := (hf 3 _ rfl).trans e3
  have f4 : DataW.trod enc Try.prog W base (fun _ => true) true m 38 ((([c0, c1, c2, c3, c4] : List Value).drop 4).take (Try.prog.cellsOf 38)) = some y4 := (hf 4 _ rfl).trans e4
  rw [show Try.prog.cellsOf 9 = 1 by kernel_rfl] at f0
  rw [show Try.prog.cellsOf 3 = 1 by kernel_rfl] at f1 f2 f3
  rw [show Try.prog.cellsOf 38 = 1 by kernel_rfl] at f4
  simp only [List.drop_zero, List.drop_succ_cons, List.take_succ_cons, List.take_zero] at f0 f1 f2 f3 f4
  obtain ⟨s0, h0, hy0, w0⟩ := DataW.trod_string Try.underlying9 f0
  obtain ⟨n1, h1, _, w1⟩ := DataW.trod_int Try.underlying3 f1
  obtain ⟨n2, h2, _, w2⟩ := DataW.trod_int Try.underlying3 f2
  obtain ⟨n3, h3, _, w3⟩ := DataW.trod_int Try.underlying3 f3
  obtain ⟨n4, h4, _, w4⟩ := DataW.trod_int Try.underlying38 f4
  simp only [List.cons.injEq, and_true] at h0 h1 h2 h3 h4
  obtain ⟨m4, rfl, hm4⟩ := wf_nat rfl w4
  subst h0 h1 h2 h3 h4
  refine ⟨⟨s0.data.toList, n1, n2, n3, m4⟩, rfl, ⟨?_, by simpa [maxN] using hm4⟩⟩
  match xs, e0 with
  | y :: xs, e0 =>
    simp only [List.getElem?_cons_zero, Option.some.injEq] at e0
    rw [e0, hy0] at hw
    simp only [List.map_cons, Rows.uptoBulk, Rows.uptoBulkAll] at hw
    show s0.data.toList.length ≤ 1000000000000
    omega
set_option maxRecDepth 20000 in
theorem openU_Member (hval : Value.okWide Try.prog W r b0 40 v) (hd : DataW.Trod enc Try.prog W base (fun _ => true) true 40 v d p) (hb : Rows.uptoBulk d ≤ 1048576) : ∃ m : M, v = .agg m.cells.toArray ∧ m.Ok := by
  obtain ⟨⟨l⟩, rfl, hs⟩ := okWide_struct Try.underlying40 hval
  obtain ⟨fuel, hf⟩ := hd
  obtain ⟨a, h1, h2⟩ := mem_stepU fuel _ _ hf hb
  simp only [Value.cells] at h1
  exact ⟨a, by rw [← h1], h2⟩
end
end Go.Proofs.Ytfjaiokhpbddlaa
