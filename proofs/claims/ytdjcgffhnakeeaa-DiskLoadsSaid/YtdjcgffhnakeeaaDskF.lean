/-
  disk: any bytes are a device's sectors, or refused.
-/
import Derived.Test.YtdjcgffhnakeeaaDskE
namespace Go.Proofs.Ytdjcgffhnakeeaa
open Go.RowKit Dsk
set_option linter.unusedVariables false

set_option maxRecDepth 10000 in
theorem sectors_s (s : List UInt8) (hs : s.length ≤ 1000000000) (w : World) : Ret Try.prog 27 [str s] w fun v w' => (∃ n xs, Own w' w.heap.size 9 1 v n xs) ∧ Ext w w' := by
  refine Ret.enter Try.func27 rfl Try.ntmps27 (by kernel_rfl) rfl ?_
  refine KW.seq (KW.region ?_)
  refine OW.val rfl rfl (EX.assign rfl) ?_
  refine OW.nil ?_
  refine KW.seq (KW.region ?_)
  refine OW.val rfl rfl (EX.assign rfl) ?_
  refine OW.nil ?_
  refine KW.seq (KW.block ?_)
  refine KW.loop3 (fun (l : List UInt8) (v : Value) (wr : World) => (∃ n xs, l.length + 512 * n ≤ s.length ∧ Own wr w.heap.size 9 1 v n xs) ∧ Ext w wr) (fun (l : List UInt8) (v : Value) (wr : World) => [(0, str (l)), (3, v)]) (fun (l : List UInt8) (v : Value) (wr : World) => wr) (fun (l : List UInt8) (v : Value) (wr : World) => l.length) (s) (.slice none 0 0) (w) ⟨rfl, rfl, trivial⟩ rfl ?_ ?_
  · exact ⟨⟨0, [], by omega, Own.nil _ _ _ _⟩, Ext.refl _⟩
  · rintro l v wr ⟨⟨n, xs, hl, hown⟩, hx⟩
    refine KW.seq (KW.seq (KW.region ?_))
    refine OW.val rfl rfl (EX.move rfl) ?_
    refine OW.val rfl rfl (EX.lenS Try.underlying9 rfl) ?_
    refine OW.val rfl rfl (by first | exact EX.geqN (b := 512) rfl rfl | exact EX.geqZ rfl rfl) ?_
    refine OW.nil ?_
    refine KW.condD rfl (fun h => ?_) (fun h => ?_)
    · have hdl : (l.drop 512).length = l.length - 512 := List.length_drop
      refine KW.skip (KW.block (KW.seq (KW.region ?_)))
      refine OW.val rfl rfl (EX.move rfl) ?_
      refine OW.val rfl rfl (EX.move rfl) ?_
      refine OW.val rfl rfl (EX.sliceFH (j := 512) Try.underlying9 rfl rfl (by omega)) ?_
      refine OW.push rfl rfl (fun _ => rfl) rfl Try.underlying59 ti9 rfl rfl (fun _ => rfl) rfl (hx) (hown) (by simp only [maxLen]; omega) (by omega) ?_
      rintro _ v' w' hown' hx' _ _
      refine OW.val rfl rfl (EX.assign rfl) ?_
      refine OW.nil ?_
      refine KW.region ?_
      refine OW.val rfl rfl (EX.move rfl) ?_
      refine OW.val rfl rfl (EX.sliceLE (i := 512) Try.underlying9 rfl rfl (by omega)) ?_
      refine OW.val rfl rfl (EX.assign rfl) ?_
      refine OW.nil ?_
      refine KW.leave ?_
      generalize l.take 512 = l5 at hown'
      generalize l.drop 512 = l6 at hdl ⊢
      refine KW.back3 (l6) (v') (w') ⟨rfl, rfl, trivial⟩ rfl ?_ (by omega)
      refine ⟨⟨n + 1, _, ?_, hown'⟩, hx'⟩
      have h' : 512 ≤ l.length := h
      clear h hown hown' hx hx'
      rw [hdl, Nat.mul_succ]
      omega
    · refine KW.exit rfl (KW.seq (KW.region ?_))
      refine OW.val rfl rfl (EX.move rfl) ?_
      refine OW.val rfl rfl (EX.assign rfl) ?_
      refine OW.nil ?_
      refine KW.ret (ret1 rfl rfl ?_)
      exact ⟨⟨n, xs, hown⟩, hx⟩
theorem refLoad_s (c : Int) (c0 : -9223372036854775808 ≤ c) (c1 : c ≤ 9223372036854775807) (s : List UInt8) (hs : s.length ≤ 140737488355328) (w : World) :
    Ret Try.prog 10 [.int .i64 c, str s] w fun v w' => ∃ (p : Value) (e : Nat), v = .tuple #[p, .int .i64 (e : Int)] ∧ Ext w w' ∧ ((¬ may c s ∧ e = 2) ∨ (may c s ∧ e = 0)) := by
  refine Ret.enter Try.func10 rfl Try.ntmps10 (by kernel_rfl) rfl ?_
  refine KW.seq (KW.region ?_)
  refine OW.val rfl rfl (EX.assign rfl) ?_
  refine OW.val rfl rfl (EX.assign rfl) ?_
  refine OW.nil ?_
  refine KW.seq (KW.seq ?_)
  refine KW.cut1 (fun (_u : Unit) => True) (fun (_u : Unit) => [(0, .int .i64 (c : Int)), (1, str (s)), (24, .bool (decide (¬ (1 ≤ c ∧ c ≤ 4096 ∧ s.length % 512 = 0 ∧ ((s.length / 512 : Nat) : Int) ≤ c))))]) (fun (_u : Unit) => w) ?_ ?_
  · refine KW.region ?_
    refine OW.val rfl rfl (EX.move rfl) ?_
    refine OW.val rfl rfl (by first | exact EX.lssN (b := 1) rfl rfl | exact EX.lssZ rfl rfl) ?_
    refine OW.val rfl rfl (EX.move rfl) ?_
    refine OW.splitD 8 rfl (fun a1 => ?_) (fun a1 => ?_)
    · refine OW.pass rfl rfl ?_
      refine OW.pass rfl rfl ?_
      refine OW.val rfl rfl (EX.pickT rfl rfl) ?_
      refine OW.val rfl rfl (EX.move rfl) ?_
      refine OW.pass rfl rfl ?_
      refine OW.pass rfl rfl ?_
      refine OW.pass rfl rfl ?_
      refine OW.pass rfl rfl ?_
      refine OW.val rfl rfl (EX.pickT rfl rfl) ?_
      refine OW.val rfl rfl (EX.move rfl) ?_
      refine OW.pass rfl rfl ?_
      refine OW.pass rfl rfl ?_
      refine OW.pass rfl rfl ?_
      refine OW.pass rfl rfl ?_
      refine OW.pass rfl rfl ?_
      refine OW.val rfl rfl (EX.pickT rfl rfl) ?_
      refine OW.nil ?_
      refine KW.as 24 (.bool (decide (¬ (1 ≤ c ∧ c ≤ 4096 ∧ s.length % 512 = 0 ∧ ((s.length / 512 : Nat) : Int) ≤ c)))) rfl (by rw [decide_eq_true]; omega) ?_
      refine KW.meet1 (()) ⟨rfl, rfl, rfl, trivial⟩ rfl ?_
      trivial
    · refine OW.val rfl rfl (EX.move rfl) ?_
      refine OW.val rfl rfl (by first | exact EX.gtrN (b := 4096) rfl rfl | exact EX.gtrZ rfl rfl) ?_
      refine OW.val rfl rfl (EX.pickF rfl rfl) ?_
      refine OW.val rfl rfl (EX.move rfl) ?_
      refine OW.splitD 12 rfl (fun a2 => ?_) (fun a2 => ?_)
      · refine OW.pass rfl rfl ?_
        refine OW.pass rfl rfl ?_
        refine OW.pass rfl rfl ?_
        refine OW.pass rfl rfl ?_
        refine OW.val rfl rfl (EX.pickT rfl rfl) ?_
        refine OW.val rfl rfl (EX.move rfl) ?_
        refine OW.pass rfl rfl ?_
        refine OW.pass rfl rfl ?_
        refine OW.pass rfl rfl ?_
        refine OW.pass rfl rfl ?_
        refine OW.pass rfl rfl ?_
        refine OW.val rfl rfl (EX.pickT rfl rfl) ?_
        refine OW.nil ?_
        refine KW.as 24 (.bool (decide (¬ (1 ≤ c ∧ c ≤ 4096 ∧ s.length % 512 = 0 ∧ ((s.length / 512 : Nat) : Int) ≤ c)))) rfl (by rw [decide_eq_true]; omega) ?_
        refine KW.meet1 (()) ⟨rfl, rfl, rfl, trivial⟩ rfl ?_
        trivial
      · refine OW.val rfl rfl (EX.move rfl) ?_
        refine OW.val rfl rfl (EX.lenS Try.underlying9 rfl) ?_
        refine OW.val rfl rfl (EX.remN (b := 512) rfl rfl (by omega)) ?_
        refine OW.val rfl rfl (by first | exact EX.neqN (b := 0) rfl rfl | exact EX.neqZ rfl rfl) ?_
        refine OW.val rfl rfl (EX.pickF rfl rfl) ?_
        refine OW.val rfl rfl (EX.move rfl) ?_
        refine OW.splitD 18 rfl (fun a3 => ?_) (fun a3 => ?_)
        · refine OW.pass rfl rfl ?_
          refine OW.pass rfl rfl ?_
          refine OW.pass rfl rfl ?_
          refine OW.pass rfl rfl ?_
          refine OW.pass rfl rfl ?_
          refine OW.val rfl rfl (EX.pickT rfl rfl) ?_
          refine OW.nil ?_
          refine KW.as 24 (.bool (decide (¬ (1 ≤ c ∧ c ≤ 4096 ∧ s.length % 512 = 0 ∧ ((s.length / 512 : Nat) : Int) ≤ c)))) rfl (by rw [decide_eq_true]; omega) ?_
          refine KW.meet1 (()) ⟨rfl, rfl, rfl, trivial⟩ rfl ?_
          trivial
        · refine OW.val rfl rfl (EX.move rfl) ?_
          refine OW.val rfl rfl (EX.lenS Try.underlying9 rfl) ?_
          refine OW.val rfl rfl (EX.move rfl) ?_
          refine OW.val rfl rfl (by first | exact EX.mulN (a := 512) (m := 9223372036854775807) rfl rfl rfl (by omega) | exact EX.mulZ (m := 9223372036854775807) rfl rfl rfl rfl (by omega)) ?_
          refine OW.val rfl rfl (by first | exact EX.gtrN rfl rfl | exact EX.gtrZ rfl rfl) ?_
          refine OW.val rfl rfl (EX.pickF rfl rfl) ?_
          refine OW.nil ?_
          refine KW.as 24 (.bool (decide (¬ (1 ≤ c ∧ c ≤ 4096 ∧ s.length % 512 = 0 ∧ ((s.length / 512 : Nat) : Int) ≤ c)))) rfl (congrArg Value.bool (decide_eq_decide.2 (by omega))) ?_
          refine KW.meet1 (()) ⟨rfl, rfl, rfl, trivial⟩ rfl ?_
          trivial
  · rintro _ _
    refine KW.condD rfl (fun hm => ?_) (fun hm => ?_)
    · refine KW.seq (KW.region ?_)
      refine OW.val rfl rfl (EX.assign rfl) ?_
      refine OW.val rfl rfl (EX.assign rfl) ?_
      refine OW.nil ?_
      refine KW.ret (ret2 rfl rfl rfl ?_)
      exact ⟨_, 2, rfl, Ext.refl _, .inl ⟨hm, rfl⟩⟩
    · have hmay : may c s := Classical.not_not.1 hm
      obtain ⟨m1, m2, m3, m4⟩ := id hmay
      refine KW.skip (KW.seq (KW.region ?_))
      refine OW.val rfl rfl (EX.move rfl) ?_
      refine OW.val rfl rfl (EX.move rfl) ?_
      refine OW.call rfl rfl rfl (sectors_s s (by omega) w) ?_
      rintro v1 w1 ⟨⟨n1, xs1, hown1⟩, hx1⟩
      refine OW.val rfl rfl (EX.move rfl) ?_
      refine OW.call rfl rfl rfl (sectors_s s (by omega) w1) ?_
      rintro v2 w2 ⟨⟨n2, xs2, hown2⟩, hx2⟩
      refine OW.val rfl rfl (EX.buildS (pl := [(0, 1), (1, 1), (2, 1), (3, 1), (4, 1), (5, 1), (6, 1), (7, 1)]) (ks := [0, 1, 2]) (is := [0, 1, 2]) (zs := [.int .i64 0, .slice none 0 0, .slice none 0 0, .slice none 0 0, .int .i64 0, .slice none 0 0, .bool false, .int .i64 0]) Try.underlying63 ti63 (by kernel_rfl) rfl rfl rfl (by first | rfl | (simp only [List.all_cons, List.all_nil, Bool.and_true, Bool.true_and, Bool.and_eq_true, Value.oneCell']; repeat (first | assumption | exact Own.one (by assumption) | constructor))) (by simp only [setAll, List.set_cons_zero, List.set_cons_succ]; rfl)) ?_
      refine OW.boxS rfl rfl rfl ?_
      rintro b w3 hge hb3 hx3
      refine OW.val rfl rfl (EX.assign rfl) ?_
      refine OW.val rfl rfl (EX.assign rfl) ?_
      refine OW.nil ?_
      refine KW.ret (ret2 rfl rfl rfl ?_)
      exact ⟨_, 0, rfl, (hx1.trans hx2).trans hx3, .inr ⟨hmay, rfl⟩⟩
theorem diskLoads_s (c : Int) (c0 : -9223372036854775808 ≤ c) (c1 : c ≤ 9223372036854775807) (s : List UInt8) (hs : s.length ≤ 140737488355328) (w : World) :
    Ret Try.prog 3 [.int .i64 c, str s] w fun v w' => v = .bool true ∧ Ext w w' := by
  refine Ret.enter Try.func3 rfl Try.ntmps3 (by kernel_rfl) rfl ?_
  refine KW.seq (KW.region ?_)
  refine OW.val rfl rfl (EX.assign rfl) ?_
  refine OW.nil ?_
  refine KW.seq (KW.seq ?_)
  refine KW.cutd1 (fun (_u : Unit) => True) (fun (_u : Unit) => [(0, .int .i64 (c : Int)), (1, str (s))]) (fun (_u : Unit) => w) ?_ ?_
  · refine KW.region ?_
    refine OW.val rfl rfl (EX.move rfl) ?_
    refine OW.val rfl rfl (EX.lenS Try.underlying9 rfl) ?_
    refine OW.val rfl rfl (by first | exact EX.gtrN (b := 20000) rfl rfl | exact EX.gtrZ rfl rfl) ?_
    refine OW.val rfl rfl (EX.move rfl) ?_
    refine OW.splitD 12 rfl (fun a1 => ?_) (fun a1 => ?_)
    · refine OW.val rfl rfl (EX.move rfl) ?_
      refine OW.val rfl rfl (EX.lenS Try.underlying9 rfl) ?_
      refine OW.val rfl rfl (by first | exact EX.leqN (b := 2097152) rfl rfl | exact EX.leqZ rfl rfl) ?_
      refine OW.val rfl rfl (EX.pickT rfl rfl) ?_
      refine OW.nil ?_
      refine KW.condD rfl (fun a2 => ?_) (fun a2 => ?_)
      · refine KW.seq (KW.region ?_)
        refine OW.call rfl rfl rfl (awake_s w) ?_
        rintro _ w1 ⟨rfl, hx1⟩
        refine OW.val rfl rfl (EX.assign rfl) ?_
        refine OW.nil ?_
        refine KW.ret (ret1 rfl rfl ?_)
        exact ⟨rfl, hx1⟩
      · refine KW.skip ?_
        refine KW.meet1 (()) ⟨rfl, rfl, trivial⟩ rfl ?_
        trivial
    · refine OW.pass rfl rfl ?_
      refine OW.pass rfl rfl ?_
      refine OW.pass rfl rfl ?_
      refine OW.val rfl rfl (EX.pickF rfl rfl) ?_
      refine OW.nil ?_
      refine KW.condF rfl (KW.skip ?_)
      refine KW.meet1 (()) ⟨rfl, rfl, trivial⟩ rfl ?_
      trivial
  · rintro _ _
    refine KW.seq (KW.region ?_)
    refine OW.val rfl rfl (EX.move rfl) ?_
    refine OW.val rfl rfl (EX.move rfl) ?_
    refine OW.call rfl rfl rfl (load_s c c0 c1 s hs w) ?_
    rintro _ w1 ⟨p, e, rfl, hx1, hor⟩
    refine OW.val rfl rfl (EX.move rfl) ?_
    refine OW.val rfl rfl (EX.extract rfl rfl) ?_
    refine OW.val rfl rfl (EX.extract rfl rfl) ?_
    refine OW.val rfl rfl (EX.assign rfl) ?_
    refine OW.val rfl rfl (EX.assign rfl) ?_
    refine OW.nil ?_
    refine KW.seq (KW.region ?_)
    refine OW.val rfl rfl (EX.move rfl) ?_
    refine OW.val rfl rfl (EX.move rfl) ?_
    refine OW.call rfl rfl rfl (refLoad_s c c0 c1 s hs w1) ?_
    rintro _ w2 ⟨p2, e2, rfl, hx2, hor2⟩
    refine OW.val rfl rfl (EX.move rfl) ?_
    refine OW.val rfl rfl (EX.extract rfl rfl) ?_
    refine OW.val rfl rfl (EX.extract rfl rfl) ?_
    refine OW.val rfl rfl (EX.assign rfl) ?_
    refine OW.val rfl rfl (EX.assign rfl) ?_
    refine OW.nil ?_
    refine KW.seq (KW.seq (KW.region ?_))
    refine OW.val rfl rfl (EX.move rfl) ?_
    refine OW.val rfl rfl (by first | exact EX.neqN (b := 0) rfl rfl | exact EX.neqZ rfl rfl) ?_
    refine OW.nil ?_
    refine KW.condD rfl (fun he => ?_) (fun he => ?_)
    · obtain ⟨hm, rfl, rfl⟩ : ¬ may c s ∧ p = .pointer none ∧ e = 2 := by
        rcases hor with h | ⟨h, b, h1, h2, h3⟩
        · exact h
        · exact absurd h2 he
      obtain rfl : e2 = 2 := by
        rcases hor2 with ⟨_, h⟩ | ⟨h, _⟩
        · exact h
        · exact absurd h hm
      refine KW.seq ?_
      refine KW.region ?_
      refine OW.val rfl rfl (EX.move rfl) ?_
      refine OW.val rfl rfl (by first | exact EX.eqlP1 Try.underlying23 rfl rfl | exact EX.eqlP0 Try.underlying23 rfl rfl) ?_
      refine OW.val rfl rfl (EX.move rfl) ?_
      refine OW.val rfl rfl (EX.move rfl) ?_
      refine OW.val rfl rfl (EX.move rfl) ?_
      refine OW.val rfl rfl (by first | exact EX.eqlN rfl rfl | exact EX.eqlZ rfl rfl) ?_
      refine OW.val rfl rfl (EX.pickT rfl rfl) ?_
      refine OW.val rfl rfl (EX.move rfl) ?_
      refine OW.as 39 (.bool true) rfl (congrArg Value.bool (decide_eq_true (rfl))) ?_
      refine OW.call rfl rfl rfl (awake_s w2) ?_
      rintro _ w3 ⟨rfl, hx3⟩
      refine OW.val rfl rfl (EX.pickT rfl rfl) ?_
      refine OW.val rfl rfl (EX.assign rfl) ?_
      refine OW.nil ?_
      refine KW.ret (ret1 rfl rfl ?_)
      exact ⟨rfl, (hx1.trans hx2).trans hx3⟩
    · obtain ⟨hm, b, rfl, rfl, hd⟩ : may c s ∧ ∃ b, p = .pointer (some ⟨b, 0, none⟩) ∧ e = 0 ∧ DevAt w1 w.heap.size b (fresh c.toNat s) := by
        rcases hor with ⟨h, h1, h2⟩ | h
        · exact absurd h2 (by omega)
        · exact h
      obtain rfl : e2 = 0 := by
        rcases hor2 with ⟨h, _⟩ | ⟨_, h⟩
        · exact absurd hm h
        · exact h
      have hd2 := hd.ext hx2
      have hok : (fresh c.toNat s).Ok := fresh_ok (by have := hm.1; have := hm.2.1; omega) hm.2.2.1 (by have := hm.2.2.2; omega)
      have hcc : ((fresh c.toNat s).cap : Int) = c := by show ((c.toNat : Nat) : Int) = c; have := hm.1; omega
      refine KW.skip (KW.seq ?_)
      refine KW.region ?_
      refine OW.val rfl rfl (EX.move rfl) ?_
      refine OW.val rfl rfl (by first | exact EX.eqlN (b := 0) rfl rfl | exact EX.eqlZ rfl rfl) ?_
      refine OW.val rfl rfl (EX.move rfl) ?_
      refine OW.as 44 (.bool true) rfl (congrArg Value.bool (decide_eq_true (rfl))) ?_
      refine OW.val rfl rfl (EX.move rfl) ?_
      refine OW.val rfl rfl (by first | exact EX.neqP1 Try.underlying23 rfl rfl | exact EX.neqP0 Try.underlying23 rfl rfl) ?_
      refine OW.val rfl rfl (EX.pickT rfl rfl) ?_
      refine OW.val rfl rfl (EX.move rfl) ?_
      refine OW.val rfl rfl (EX.move rfl) ?_
      refine OW.call rfl rfl rfl (image_d hd2 hok) ?_
      rintro _ _ ⟨rfl, rfl⟩
      refine OW.val rfl rfl (EX.move rfl) ?_
      refine OW.val rfl rfl (EX.eqlS rfl rfl) ?_
      refine OW.val rfl rfl (EX.pickT rfl rfl) ?_
      refine OW.val rfl rfl (EX.move rfl) ?_
      refine OW.as 54 (.bool true) rfl (congrArg Value.bool (decide_eq_true (rfl))) ?_
      refine OW.val rfl rfl (EX.move rfl) ?_
      refine OW.call rfl rfl rfl (len_d hd2 hok) ?_
      rintro _ _ ⟨rfl, rfl⟩
      refine OW.val rfl rfl (EX.move rfl) ?_
      refine OW.val rfl rfl (EX.lenS Try.underlying9 rfl) ?_
      refine OW.val rfl rfl (EX.quoN (b := 512) (m := 9223372036854775807) rfl rfl rfl (by omega)) ?_
      refine OW.val rfl rfl (by first | exact EX.eqlN rfl rfl | exact EX.eqlZ rfl rfl) ?_
      refine OW.val rfl rfl (EX.pickT rfl rfl) ?_
      refine OW.val rfl rfl (EX.move rfl) ?_
      refine OW.as 62 (.bool true) rfl (congrArg Value.bool (decide_eq_true (rfl))) ?_
      refine OW.val rfl rfl (EX.move rfl) ?_
      refine OW.call rfl rfl rfl (capacity_d hd2 hok) ?_
      rintro _ _ ⟨rfl, rfl⟩
      refine OW.val rfl rfl (EX.move rfl) ?_
      refine OW.val rfl rfl (by first | exact EX.eqlN rfl rfl | exact EX.eqlZ rfl rfl) ?_
      refine OW.val rfl rfl (EX.pickT rfl rfl) ?_
      refine OW.val rfl rfl (EX.move rfl) ?_
      refine OW.as 68 (.bool true) rfl (congrArg Value.bool (decide_eq_true (hcc))) ?_
      refine OW.val rfl rfl (EX.move rfl) ?_
      refine OW.call rfl rfl rfl (dead_d hd2 hok) ?_
      rintro _ _ ⟨rfl, rfl⟩
      refine OW.val rfl rfl (by first | exact EX.notD rfl | exact EX.notB rfl) ?_
      refine OW.val rfl rfl (EX.pickT rfl rfl) ?_
      refine OW.val rfl rfl (EX.move rfl) ?_
      refine OW.val rfl rfl (EX.move rfl) ?_
      refine OW.call rfl rfl rfl (calls_d hd2 hok) ?_
      rintro _ _ ⟨rfl, rfl⟩
      refine OW.val rfl rfl (by first | exact EX.eqlN (b := 0) rfl rfl | exact EX.eqlZ rfl rfl) ?_
      refine OW.val rfl rfl (EX.pickT rfl rfl) ?_
      refine OW.val rfl rfl (EX.move rfl) ?_
      refine OW.as 78 (.bool true) rfl (congrArg Value.bool (decide_eq_true (rfl))) ?_
      refine OW.call rfl rfl rfl (awake_s w2) ?_
      rintro _ w3 ⟨rfl, hx3⟩
      refine OW.val rfl rfl (EX.pickT rfl rfl) ?_
      refine OW.val rfl rfl (EX.assign rfl) ?_
      refine OW.nil ?_
      refine KW.ret (ret1 rfl rfl ?_)
      exact ⟨rfl, (hx1.trans hx2).trans hx3⟩
end Go.Proofs.Ytdjcgffhnakeeaa
