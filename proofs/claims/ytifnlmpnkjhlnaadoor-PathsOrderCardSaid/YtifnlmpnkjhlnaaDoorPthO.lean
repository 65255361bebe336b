/-
  paths: a clean path stays as it is; texts are in one order.
-/
import Derived.Test.YtifnlmpnkjhlnaaDoorPthG
import Derived.Test.YtifnlmpnkjhlnaaDoorPthN
namespace Go.Proofs.YtifnlmpnkjhlnaaDoor
open Go.RowKit Pth
set_option linter.unusedVariables false
set_option linter.unusedSimpArgs false

theorem EX.negZ {P : Program} {n : Nat} {σ : Sig} {w : World} {t ty : TypeId} {x : Operand} {k : IntKind} {c : Int} {m : Nat} (hx : ev σ x = some (.int k c)) (hs : k.signed = true) (hm : maxN k = m) (h : -((m : Int) + 1) ≤ 0 - c ∧ 0 - c ≤ m) : EX P n σ (.unOp .neg t x) ty w (.int k (-c)) w := fun A ha dst pos after g => by
  have := wrap_fitZ hs hm h
  simp only [execOp, ha.ev hx]
  rw [show -c = 0 - c by omega, ← this]
  simp [Op.unary, Op.intArith, this]
theorem cmp_small (a b : List UInt8) : -1 ≤ cmpP a b ∧ cmpP a b ≤ 1 := by
  rcases cmpL_val (parts a) (parts b) with h | h | h <;> unfold cmpP <;> omega
theorem under_cmp {a b : List UInt8} (h : underB a b = true) : cmpP a b = -1 := by
  obtain ⟨r, rfl⟩ := (under_iff a b).1 h
  unfold cmpP
  rw [parts_app]
  exact cmpL_pre _ _ (parts_ne r)
theorem between_cmp {a b c : List UInt8} (h : underB a b = true) (hn : underB a c = false) (hz : cmpP a c < 0) (hne : c ≠ a) : cmpP b c = -1 := by
  obtain ⟨r, rfl⟩ := (under_iff a b).1 h
  have hz' : cmpL (parts a) (parts c) = -1 := by
    have := (cmp_small a c).1
    unfold cmpP at this hz
    omega
  unfold cmpP
  rw [parts_app]
  refine cmpL_between _ _ _ hz' ?_
  rintro ⟨t, ht⟩
  by_cases e : t = []
  · subst e
    rw [List.append_nil] at ht
    exact hne (by rw [← glue_parts c, ht, glue_parts])
  · have : underB a c = true := (under_iff a c).2 ⟨glue t, by rw [← glue_parts c, ht, glue_app _ _ (parts_ne a) e, glue_parts]⟩
    rw [hn] at this
    cases this
set_option maxRecDepth 20000 in
theorem pathsOrder_s (a : List UInt8) (ha : a.length ≤ 140737488355328) (b : List UInt8) (hb : b.length ≤ 140737488355328) (c : List UInt8) (hc : c.length ≤ 140737488355328) (w : World) (hG : MLen w) :
    Ret Tryd.prog 5 [str a, str b, str c] w fun v w' => v = .bool true ∧ Ext w w' := by
  refine Ret.enter Tryd.func5 rfl Tryd.ntmps5 (by kernel_rfl) rfl ?_
  refine KW.seq (KW.region ?_)
  refine OW.val rfl rfl (EX.assign rfl) ?_
  refine OW.nil ?_
  refine KW.seq (KW.seq (KW.region ?_))
  refine OW.val rfl rfl (EX.move rfl) ?_
  refine OW.val rfl rfl (EX.lenS Tryd.underlying9 rfl) ?_
  refine OW.val rfl rfl (EX.move rfl) ?_
  refine OW.val rfl rfl (EX.lenS Tryd.underlying9 rfl) ?_
  refine OW.val rfl rfl (by first | exact EX.addN (m := 9223372036854775807) rfl rfl rfl (by omega) | exact EX.addZ (m := 9223372036854775807) rfl rfl rfl rfl (by omega)) ?_
  refine OW.val rfl rfl (EX.move rfl) ?_
  refine OW.val rfl rfl (EX.lenS Tryd.underlying9 rfl) ?_
  refine OW.val rfl rfl (by first | exact EX.addN (m := 9223372036854775807) rfl rfl rfl (by omega) | exact EX.addZ (m := 9223372036854775807) rfl rfl rfl rfl (by omega)) ?_
  refine OW.val rfl rfl (by first | exact EX.gtrN (b := 3000) rfl rfl | exact EX.gtrZ rfl rfl) ?_
  refine OW.nil ?_
  refine KW.condD rfl (fun hl => ?_) (fun hl => ?_)
  · refine KW.seq (KW.region ?_)
    refine OW.call rfl rfl rfl (awake_s w hG) ?_
    rintro _ w1 ⟨rfl, hx1⟩
    refine OW.val rfl rfl (EX.assign rfl) ?_
    refine OW.nil ?_
    refine KW.ret (ret1 rfl rfl ?_)
    exact ⟨rfl, hx1⟩
  · refine KW.skip (KW.seq (KW.region ?_))
    refine OW.val rfl rfl (EX.move rfl) ?_
    refine OW.val rfl rfl (EX.move rfl) ?_
    refine OW.call rfl rfl rfl (cmp_s a b (by omega) (by omega) w hG) ?_
    rintro _ w1 ⟨rfl, hx1⟩
    refine OW.val rfl rfl (EX.move rfl) ?_
    refine OW.val rfl rfl (EX.move rfl) ?_
    refine OW.call rfl rfl rfl (cmp_s b c (by omega) (by omega) w1 (hG.ext hx1)) ?_
    rintro _ w2 ⟨rfl, hx2⟩
    refine OW.val rfl rfl (EX.move rfl) ?_
    refine OW.val rfl rfl (EX.move rfl) ?_
    have x2 := hx1.trans hx2
    refine OW.call rfl rfl rfl (cmp_s a c (by omega) (by omega) w2 (hG.ext x2)) ?_
    rintro _ w3 ⟨rfl, hx3⟩
    refine OW.val rfl rfl (EX.assign rfl) ?_
    refine OW.val rfl rfl (EX.assign rfl) ?_
    refine OW.val rfl rfl (EX.assign rfl) ?_
    refine OW.nil ?_
    refine KW.seq (KW.seq ?_)
    have x3 := x2.trans hx3
    have sab := cmp_small a b
    have sba := cmp_small b a
    have sbc := cmp_small b c
    have sac := cmp_small a c
    have hneg : cmpP b a = - cmpP a b := cmpL_neg (parts a) (parts b)
    have heq := cmpP_eq a b
    have htr : cmpP a b ≤ 0 → cmpP b c ≤ 0 → cmpP a c ≤ 0 := cmpL_trans (parts a) (parts b) (parts c)
    have hu1 := fun h => under_cmp (a := a) (b := b) h
    have hu2 := fun h => between_cmp (a := a) (b := b) (c := c) h
    refine KW.cutd1 (fun (wr : World) => Ext w wr) (fun (wr : World) => [(0, str (a)), (1, str (b)), (2, str (c)), (7, .int .i64 ((cmpP a b) : Int)), (8, .int .i64 ((cmpP b c) : Int)), (9, .int .i64 ((cmpP a c) : Int))]) (fun (wr : World) => wr) ?_ ?_
    · refine KW.region ?_
      refine OW.val rfl rfl (EX.move rfl) ?_
      refine OW.val rfl rfl (EX.move rfl) ?_
      refine OW.val rfl rfl (EX.move rfl) ?_
      refine OW.call rfl rfl rfl (cmp_s b a (by omega) (by omega) w3 (hG.ext x3)) ?_
      rintro _ w4 ⟨rfl, hx4⟩
      refine OW.val rfl rfl (EX.negZ (m := 9223372036854775807) rfl rfl rfl (by omega)) ?_
      refine OW.val rfl rfl (by first | exact EX.neqN rfl rfl | exact EX.neqZ rfl rfl) ?_
      refine OW.val rfl rfl (EX.move rfl) ?_
      refine OW.as 35 (.bool false) rfl (congrArg Value.bool (decide_eq_false (by omega))) ?_
      refine OW.val rfl rfl (EX.move rfl) ?_
      refine OW.val rfl rfl (by first | exact EX.eqlN (b := 0) rfl rfl | exact EX.eqlZ rfl rfl) ?_
      refine OW.val rfl rfl (EX.move rfl) ?_
      refine OW.val rfl rfl (EX.move rfl) ?_
      refine OW.val rfl rfl (EX.eqlS rfl rfl) ?_
      refine OW.val rfl rfl (EX.neqB Tryd.underlying4 rfl rfl) ?_
      refine OW.val rfl rfl (EX.pickF rfl rfl) ?_
      refine OW.val rfl rfl (EX.move rfl) ?_
      refine OW.as 43 (.bool false) rfl (congrArg Value.bool (by simp [heq])) ?_
      refine OW.val rfl rfl (EX.move rfl) ?_
      refine OW.val rfl rfl (by first | exact EX.leqN (b := 0) rfl rfl | exact EX.leqZ rfl rfl) ?_
      refine OW.val rfl rfl (EX.move rfl) ?_
      refine OW.splitD 46 rfl (fun d1 => ?_) (fun d1 => ?_)
      · refine OW.val rfl rfl (EX.move rfl) ?_
        refine OW.val rfl rfl (by first | exact EX.leqN (b := 0) rfl rfl | exact EX.leqZ rfl rfl) ?_
        refine OW.val rfl rfl (EX.pickT rfl rfl) ?_
        refine OW.val rfl rfl (EX.move rfl) ?_
        refine OW.splitD 50 rfl (fun d2 => ?_) (fun d2 => ?_)
        · refine OW.val rfl rfl (EX.move rfl) ?_
          refine OW.val rfl rfl (by first | exact EX.gtrN (b := 0) rfl rfl | exact EX.gtrZ rfl rfl) ?_
          refine OW.val rfl rfl (EX.pickT rfl rfl) ?_
          refine OW.val rfl rfl (EX.pickF rfl rfl) ?_
          refine OW.nil ?_
          refine KW.as 54 (.bool false) rfl (congrArg Value.bool (decide_eq_false (by have := htr d1 d2; omega))) ?_
          refine KW.condF rfl (KW.skip ?_)
          refine KW.meet1 (w4) ⟨rfl, rfl, rfl, rfl, rfl, rfl, trivial⟩ rfl ?_
          exact x3.trans hx4
        · refine OW.pass rfl rfl ?_
          refine OW.pass rfl rfl ?_
          refine OW.val rfl rfl (EX.pickF rfl rfl) ?_
          refine OW.val rfl rfl (EX.pickF rfl rfl) ?_
          refine OW.nil ?_
          refine KW.condF rfl (KW.skip ?_)
          refine KW.meet1 (w4) ⟨rfl, rfl, rfl, rfl, rfl, rfl, trivial⟩ rfl ?_
          exact x3.trans hx4
      · refine OW.pass rfl rfl ?_
        refine OW.pass rfl rfl ?_
        refine OW.val rfl rfl (EX.pickF rfl rfl) ?_
        refine OW.val rfl rfl (EX.move rfl) ?_
        refine OW.pass rfl rfl ?_
        refine OW.pass rfl rfl ?_
        refine OW.val rfl rfl (EX.pickF rfl rfl) ?_
        refine OW.val rfl rfl (EX.pickF rfl rfl) ?_
        refine OW.nil ?_
        refine KW.condF rfl (KW.skip ?_)
        refine KW.meet1 (w4) ⟨rfl, rfl, rfl, rfl, rfl, rfl, trivial⟩ rfl ?_
        exact x3.trans hx4
    · rintro wr hwr
      refine KW.seq (KW.seq ?_)
      refine KW.cutd1 (fun (wq : World) => Ext w wq) (fun (wq : World) => []) (fun (wq : World) => wq) ?_ ?_
      · refine KW.region ?_
        refine OW.val rfl rfl (EX.move rfl) ?_
        refine OW.val rfl rfl (EX.move rfl) ?_
        refine OW.call rfl rfl rfl (under_s a b wr) ?_
        rintro _ wr ⟨rfl, rfl⟩
        refine OW.val rfl rfl (EX.move rfl) ?_
        refine OW.splitD 58 rfl (fun u1 => ?_) (fun u1 => ?_)
        · refine OW.val rfl rfl (EX.move rfl) ?_
          refine OW.val rfl rfl (EX.neqZ rfl rfl) ?_
          refine OW.val rfl rfl (EX.move rfl) ?_
          have e1 := hu1 (show underB a b = true from decide_eq_true u1)
          refine OW.as 61 (.bool false) rfl (congrArg Value.bool (decide_eq_false (by omega))) ?_
          refine OW.val rfl rfl (EX.move rfl) ?_
          refine OW.val rfl rfl (EX.move rfl) ?_
          refine OW.call rfl rfl rfl (under_s a c wr) ?_
          rintro _ wr ⟨rfl, rfl⟩
          refine OW.val rfl rfl (by first | exact EX.notD rfl | exact EX.notB rfl) ?_
          refine OW.val rfl rfl (EX.move rfl) ?_
          refine OW.splitD 66 rfl (fun u2 => ?_) (fun u2 => ?_)
          · refine OW.val rfl rfl (EX.move rfl) ?_
            refine OW.val rfl rfl (by first | exact EX.lssN (b := 0) rfl rfl | exact EX.lssZ rfl rfl) ?_
            refine OW.val rfl rfl (EX.pickT rfl rfl) ?_
            refine OW.val rfl rfl (EX.move rfl) ?_
            refine OW.splitD 70 rfl (fun u3 => ?_) (fun u3 => ?_)
            · refine OW.val rfl rfl (EX.move rfl) ?_
              refine OW.val rfl rfl (EX.move rfl) ?_
              refine OW.val rfl rfl (EX.neqS rfl rfl) ?_
              refine OW.val rfl rfl (EX.pickT rfl rfl) ?_
              refine OW.val rfl rfl (EX.move rfl) ?_
              refine OW.splitD 75 rfl (fun u4 => ?_) (fun u4 => ?_)
              · refine OW.val rfl rfl (EX.move rfl) ?_
                refine OW.val rfl rfl (EX.neqZ rfl rfl) ?_
                refine OW.val rfl rfl (EX.pickT rfl rfl) ?_
                refine OW.val rfl rfl (EX.pickF rfl rfl) ?_
                refine OW.val rfl rfl (EX.pickT rfl rfl) ?_
                refine OW.nil ?_
                refine KW.as 80 (.bool false) rfl (congrArg Value.bool (decide_eq_false (by have := hu2 (show underB a b = true from decide_eq_true u1) (show underB a c = false from decide_eq_false u2) u3 u4; omega))) ?_
                refine KW.condF rfl (KW.skip ?_)
                refine KW.meet1 (wr) trivial rfl ?_
                exact hwr
              · refine OW.pass rfl rfl ?_
                refine OW.pass rfl rfl ?_
                refine OW.val rfl rfl (EX.pickF rfl rfl) ?_
                refine OW.val rfl rfl (EX.pickF rfl rfl) ?_
                refine OW.val rfl rfl (EX.pickT rfl rfl) ?_
                refine OW.nil ?_
                refine KW.condF rfl (KW.skip ?_)
                refine KW.meet1 (wr) trivial rfl ?_
                exact hwr
            · refine OW.pass rfl rfl ?_
              refine OW.pass rfl rfl ?_
              refine OW.pass rfl rfl ?_
              refine OW.val rfl rfl (EX.pickF rfl rfl) ?_
              refine OW.val rfl rfl (EX.move rfl) ?_
              refine OW.pass rfl rfl ?_
              refine OW.pass rfl rfl ?_
              refine OW.val rfl rfl (EX.pickF rfl rfl) ?_
              refine OW.val rfl rfl (EX.pickF rfl rfl) ?_
              refine OW.val rfl rfl (EX.pickT rfl rfl) ?_
              refine OW.nil ?_
              refine KW.condF rfl (KW.skip ?_)
              refine KW.meet1 (wr) trivial rfl ?_
              exact hwr
          · refine OW.pass rfl rfl ?_
            refine OW.pass rfl rfl ?_
            refine OW.val rfl rfl (EX.pickF rfl rfl) ?_
            refine OW.val rfl rfl (EX.move rfl) ?_
            refine OW.pass rfl rfl ?_
            refine OW.pass rfl rfl ?_
            refine OW.pass rfl rfl ?_
            refine OW.val rfl rfl (EX.pickF rfl rfl) ?_
            refine OW.val rfl rfl (EX.move rfl) ?_
            refine OW.pass rfl rfl ?_
            refine OW.pass rfl rfl ?_
            refine OW.val rfl rfl (EX.pickF rfl rfl) ?_
            refine OW.val rfl rfl (EX.pickF rfl rfl) ?_
            refine OW.val rfl rfl (EX.pickT rfl rfl) ?_
            refine OW.nil ?_
            refine KW.condF rfl (KW.skip ?_)
            refine KW.meet1 (wr) trivial rfl ?_
            exact hwr
        · refine OW.pass rfl rfl ?_
          refine OW.pass rfl rfl ?_
          refine OW.pass rfl rfl ?_
          refine OW.pass rfl rfl ?_
          refine OW.pass rfl rfl ?_
          refine OW.pass rfl rfl ?_
          refine OW.pass rfl rfl ?_
          refine OW.pass rfl rfl ?_
          refine OW.pass rfl rfl ?_
          refine OW.pass rfl rfl ?_
          refine OW.pass rfl rfl ?_
          refine OW.pass rfl rfl ?_
          refine OW.pass rfl rfl ?_
          refine OW.pass rfl rfl ?_
          refine OW.pass rfl rfl ?_
          refine OW.pass rfl rfl ?_
          refine OW.pass rfl rfl ?_
          refine OW.pass rfl rfl ?_
          refine OW.pass rfl rfl ?_
          refine OW.pass rfl rfl ?_
          refine OW.pass rfl rfl ?_
          refine OW.val rfl rfl (EX.pickF rfl rfl) ?_
          refine OW.nil ?_
          refine KW.condF rfl (KW.skip ?_)
          refine KW.meet1 (wr) trivial rfl ?_
          exact hwr
      · rintro wq hwq
        refine KW.seq (KW.region ?_)
        refine OW.call rfl rfl rfl (awake_s wq (hG.ext hwq)) ?_
        rintro _ w9 ⟨rfl, hx9⟩
        refine OW.val rfl rfl (EX.assign rfl) ?_
        refine OW.nil ?_
        refine KW.ret (ret1 rfl rfl ?_)
        exact ⟨rfl, hwq.trans hx9⟩
set_option maxRecDepth 20000 in
theorem pathsTwice_s (s : List UInt8) (hs : s.length ≤ 140737488355328) (w : World) (hG : MLen w) : Ret Tryd.prog 7 [str s] w fun v w' => v = .bool true ∧ Ext w w' := by
  refine Ret.enter Tryd.func7 rfl Tryd.ntmps7 (by kernel_rfl) rfl ?_
  refine KW.seq (KW.region ?_)
  refine OW.val rfl rfl (EX.assign rfl) ?_
  refine OW.nil ?_
  refine KW.seq (KW.seq (KW.region ?_))
  refine OW.val rfl rfl (EX.move rfl) ?_
  refine OW.val rfl rfl (EX.lenS Tryd.underlying9 rfl) ?_
  refine OW.val rfl rfl (by first | exact EX.gtrN (b := 1000) rfl rfl | exact EX.gtrZ rfl rfl) ?_
  refine OW.nil ?_
  refine KW.condD rfl (fun hl => ?_) (fun hl => ?_)
  · refine KW.seq (KW.region ?_)
    refine OW.call rfl rfl rfl (awake_s w hG) ?_
    rintro _ w1 ⟨rfl, hx1⟩
    refine OW.val rfl rfl (EX.assign rfl) ?_
    refine OW.nil ?_
    refine KW.ret (ret1 rfl rfl ?_)
    exact ⟨rfl, hx1⟩
  · refine KW.skip (KW.seq (KW.region ?_))
    refine OW.val rfl rfl (EX.move rfl) ?_
    have c1 := clean_s s (by omega) w
    rcases clean_or s with ⟨h0, hC⟩ | hbad
    · generalize (cleanP s).1 = p at c1 hC
      generalize kept (parts s) = K at hC
      rw [h0] at c1
      have hpl := hC.short
      have hKl : wt K = p.length + 1 := by rw [← hC.parts, wt_parts]
      have hKn : K.length ≤ wt K := wt_len K
      refine OW.call rfl rfl rfl (c1) ?_
      rintro _ w1 ⟨rfl, hx1⟩
      refine OW.val rfl rfl (EX.move rfl) ?_
      refine OW.val rfl rfl (EX.extract rfl rfl) ?_
      refine OW.val rfl rfl (EX.extract rfl rfl) ?_
      refine OW.val rfl rfl (EX.assign rfl) ?_
      refine OW.val rfl rfl (EX.assign rfl) ?_
      refine OW.nil ?_
      refine KW.seq (KW.seq (KW.region ?_))
      refine OW.val rfl rfl (EX.move rfl) ?_
      refine OW.val rfl rfl (by first | exact EX.neqN (b := 0) rfl rfl | exact EX.neqZ rfl rfl) ?_
      refine OW.nil ?_
      refine KW.condD rfl (fun hz => ?_) (fun hz => ?_)
      · exact absurd rfl hz
      · refine KW.skip (KW.seq (KW.region ?_))
        refine OW.val rfl rfl (EX.move rfl) ?_
        have c2 := clean_s p (by omega) w1
        rw [hC.twice] at c2
        refine OW.call rfl rfl rfl (c2) ?_
        rintro _ w2 ⟨rfl, hx2⟩
        refine OW.val rfl rfl (EX.move rfl) ?_
        refine OW.val rfl rfl (EX.extract rfl rfl) ?_
        refine OW.val rfl rfl (EX.extract rfl rfl) ?_
        refine OW.val rfl rfl (EX.assign rfl) ?_
        refine OW.val rfl rfl (EX.assign rfl) ?_
        refine OW.nil ?_
        refine KW.seq (KW.region ?_)
        refine OW.val rfl rfl (EX.move rfl) ?_
        have c3 := parts_p p (by omega) w2 (hG.ext (hx1.trans hx2))
        rw [hC.parts] at c3
        refine OW.call rfl rfl rfl (c3) ?_
        rintro _ w3 ⟨b3, rfl, _, hb3, hx3⟩
        refine OW.val rfl rfl (EX.assign rfl) ?_
        refine OW.nil ?_
        refine KW.seq (KW.region ?_)
        refine OW.val rfl rfl (EX.assign rfl) ?_
        refine OW.val rfl rfl (EX.assign rfl) ?_
        refine OW.nil ?_
        refine KW.seq (KW.seq (KW.region ?_))
        refine OW.val rfl rfl (EX.assign rfl) ?_
        refine OW.nil ?_
        refine KW.block ?_
        refine KW.loop2 (fun (i : Nat) (wr : World) => i ≤ K.length ∧ Ext w3 wr) (fun (i : Nat) (wr : World) => [(3, str (p)), (5, str (p)), (6, .int .i64 (((0 : Nat) : Nat) : Int)), (7, .slice (some ⟨b3, 0, none⟩) K.length K.length), (8, str (joinS (K.take i))), (9, str (wideS (K.take i))), (10, .int .i64 ((i : Nat) : Int))]) (fun (i : Nat) (wr : World) => wr) (fun (i : Nat) (wr : World) => K.length - i) (0) (w3) ⟨rfl, rfl, rfl, rfl, rfl, rfl, rfl, trivial⟩ rfl ?_ ?_
        · exact ⟨by omega, Ext.refl _⟩
        · rintro i wr ⟨hi, hx⟩
          have hw1 := joinS_wt (K.take i)
          have hw2 := wideS_len (K.take i)
          have hw3 : wt (K.take i) ≤ wt K := by
            have := wt_append (K.take i) (K.drop i)
            rw [List.take_append_drop] at this
            omega
          refine KW.seq (KW.seq (KW.region ?_))
          refine OW.val rfl rfl (EX.move rfl) ?_
          refine OW.val rfl rfl (EX.move rfl) ?_
          refine OW.val rfl rfl (EX.lenA Tryd.underlying23 rfl) ?_
          refine OW.val rfl rfl (by first | exact EX.lssN rfl rfl | exact EX.lssZ rfl rfl) ?_
          refine OW.nil ?_
          refine KW.condD rfl (fun hlt => ?_) (fun hlt => ?_)
          · have hbr := hb3.ext hx
            have hxl : (K[i]).length < wt K := wt_mem (List.getElem_mem hlt)
            have hlen : (K.take i).length = i := by simp; omega
            have hsn : K.take (i + 1) = K.take i ++ [K[i]] := (List.take_append_getElem hlt).symm
            have step1 : joinS (K.take (i + 1)) = (if 0 < i then joinS (K.take i) ++ [47] else joinS (K.take i)) ++ K[i] := by
              rw [hsn, joinS_snocN, hlen]
            have step2 : wideS (K.take (i + 1)) = wideS (K.take i) ++ ([46, 47] ++ K[i] ++ [47, 47]) := by rw [hsn, wideS_snoc]
            have hcell := hbr.cell_of (i := i) (v := str K[i]) (by simp [txtsV_get hlt])
            refine KW.skip (KW.seq (KW.block (KW.seq (KW.seq (KW.region ?_)))))
            refine OW.val rfl rfl (EX.move rfl) ?_
            refine OW.val rfl rfl (by first | exact EX.gtrN (b := 0) rfl rfl | exact EX.gtrZ rfl rfl) ?_
            refine OW.nil ?_
            refine KW.condD rfl (fun hpos => ?_) (fun hpos => ?_)
            · refine KW.region ?_
              refine OW.val rfl rfl (EX.move rfl) ?_
              refine OW.val rfl rfl (EX.addS (r := [47]) rfl rfl (by first | omega | (simp only [List.length_append, List.length_cons, List.length_nil, List.length_take, List.length_drop, List.length_replicate]; omega))) ?_
              refine OW.val rfl rfl (EX.assign rfl) ?_
              refine OW.nil ?_
              refine KW.seq (KW.region ?_)
              refine OW.val rfl rfl (EX.move rfl) ?_
              refine OW.val rfl rfl (EX.move rfl) ?_
              refine OW.val rfl rfl (EX.move rfl) ?_
              refine OW.val rfl rfl (by first | exact EX.indexAddrS0 Tryd.underlying23 ti9 rfl rfl (by omega) | exact EX.indexAddrS1 Tryd.underlying23 ti9 rfl rfl (by omega)) ?_
              refine OW.val rfl rfl (EX.load Tryd.underlying9 rfl rfl (hcell)) ?_
              refine OW.val rfl rfl (EX.addS rfl rfl (by first | omega | (simp only [List.length_append, List.length_cons, List.length_nil, List.length_take, List.length_drop, List.length_replicate]; omega))) ?_
              refine OW.val rfl rfl (EX.assign rfl) ?_
              refine OW.nil ?_
              refine KW.region ?_
              refine OW.val rfl rfl (EX.move rfl) ?_
              refine OW.val rfl rfl (EX.move rfl) ?_
              refine OW.val rfl rfl (EX.move rfl) ?_
              refine OW.val rfl rfl (by first | exact EX.indexAddrS0 Tryd.underlying23 ti9 rfl rfl (by omega) | exact EX.indexAddrS1 Tryd.underlying23 ti9 rfl rfl (by omega)) ?_
              refine OW.val rfl rfl (EX.load Tryd.underlying9 rfl rfl (hcell)) ?_
              refine OW.val rfl rfl (EX.addS (s := [46, 47]) rfl rfl (by first | omega | (simp only [List.length_append, List.length_cons, List.length_nil, List.length_take, List.length_drop, List.length_replicate]; omega))) ?_
              refine OW.val rfl rfl (EX.addS (r := [47, 47]) rfl rfl (by first | omega | (simp only [List.length_append, List.length_cons, List.length_nil, List.length_take, List.length_drop, List.length_replicate]; omega))) ?_
              refine OW.val rfl rfl (EX.addS rfl rfl (by first | omega | (simp only [List.length_append, List.length_cons, List.length_nil, List.length_take, List.length_drop, List.length_replicate]; omega))) ?_
              refine OW.val rfl rfl (EX.assign rfl) ?_
              refine OW.nil ?_
              refine KW.leave (KW.region ?_)
              refine OW.val rfl rfl (EX.move rfl) ?_
              refine OW.val rfl rfl (by first | exact EX.addN (b := 1) (m := 9223372036854775807) rfl rfl rfl (by omega) | exact EX.addZ (m := 9223372036854775807) rfl rfl rfl rfl (by omega)) ?_
              refine OW.val rfl rfl (EX.assign rfl) ?_
              refine OW.nil ?_
              refine KW.as 8 (str (joinS (K.take (i + 1)))) rfl (congrArg str (by rw [step1, if_pos hpos])) ?_
              refine KW.as 9 (str (wideS (K.take (i + 1)))) rfl (congrArg str step2.symm) ?_
              refine KW.back2 (i + 1) (wr) ⟨rfl, rfl, rfl, rfl, rfl, rfl, rfl, trivial⟩ rfl ?_ (by omega)
              exact ⟨by omega, hx⟩
            · refine KW.skip (KW.seq (KW.region ?_))
              refine OW.val rfl rfl (EX.move rfl) ?_
              refine OW.val rfl rfl (EX.move rfl) ?_
              refine OW.val rfl rfl (EX.move rfl) ?_
              refine OW.val rfl rfl (by first | exact EX.indexAddrS0 Tryd.underlying23 ti9 rfl rfl (by omega) | exact EX.indexAddrS1 Tryd.underlying23 ti9 rfl rfl (by omega)) ?_
              refine OW.val rfl rfl (EX.load Tryd.underlying9 rfl rfl (hcell)) ?_
              refine OW.val rfl rfl (EX.addS rfl rfl (by first | omega | (simp only [List.length_append, List.length_cons, List.length_nil, List.length_take, List.length_drop, List.length_replicate]; omega))) ?_
              refine OW.val rfl rfl (EX.assign rfl) ?_
              refine OW.nil ?_
              refine KW.region ?_
              refine OW.val rfl rfl (EX.move rfl) ?_
              refine OW.val rfl rfl (EX.move rfl) ?_
              refine OW.val rfl rfl (EX.move rfl) ?_
              refine OW.val rfl rfl (by first | exact EX.indexAddrS0 Tryd.underlying23 ti9 rfl rfl (by omega) | exact EX.indexAddrS1 Tryd.underlying23 ti9 rfl rfl (by omega)) ?_
              refine OW.val rfl rfl (EX.load Tryd.underlying9 rfl rfl (hcell)) ?_
              refine OW.val rfl rfl (EX.addS (s := [46, 47]) rfl rfl (by first | omega | (simp only [List.length_append, List.length_cons, List.length_nil, List.length_take, List.length_drop, List.length_replicate]; omega))) ?_
              refine OW.val rfl rfl (EX.addS (r := [47, 47]) rfl rfl (by first | omega | (simp only [List.length_append, List.length_cons, List.length_nil, List.length_take, List.length_drop, List.length_replicate]; omega))) ?_
              refine OW.val rfl rfl (EX.addS rfl rfl (by first | omega | (simp only [List.length_append, List.length_cons, List.length_nil, List.length_take, List.length_drop, List.length_replicate]; omega))) ?_
              refine OW.val rfl rfl (EX.assign rfl) ?_
              refine OW.nil ?_
              refine KW.leave (KW.region ?_)
              refine OW.val rfl rfl (EX.move rfl) ?_
              refine OW.val rfl rfl (by first | exact EX.addN (b := 1) (m := 9223372036854775807) rfl rfl rfl (by omega) | exact EX.addZ (m := 9223372036854775807) rfl rfl rfl rfl (by omega)) ?_
              refine OW.val rfl rfl (EX.assign rfl) ?_
              refine OW.nil ?_
              refine KW.as 8 (str (joinS (K.take (i + 1)))) rfl (congrArg str (by rw [step1, if_neg hpos])) ?_
              refine KW.as 9 (str (wideS (K.take (i + 1)))) rfl (congrArg str step2.symm) ?_
              refine KW.back2 (i + 1) (wr) ⟨rfl, rfl, rfl, rfl, rfl, rfl, rfl, trivial⟩ rfl ?_ (by omega)
              exact ⟨by omega, hx⟩
          · obtain rfl : i = K.length := by omega
            have e1 : K.take K.length = K := List.take_length
            refine KW.exit rfl (KW.seq (KW.region ?_))
            refine OW.val rfl rfl (EX.move rfl) ?_
            have c4 := clean_s (wideS K) (by rw [e1] at hw2; omega) wr
            rw [hC.wide] at c4
            rw [e1]
            refine OW.call rfl rfl rfl (c4) ?_
            rintro _ w4 ⟨rfl, hx4⟩
            refine OW.val rfl rfl (EX.move rfl) ?_
            refine OW.val rfl rfl (EX.extract rfl rfl) ?_
            refine OW.val rfl rfl (EX.extract rfl rfl) ?_
            refine OW.val rfl rfl (EX.assign rfl) ?_
            refine OW.val rfl rfl (EX.assign rfl) ?_
            refine OW.nil ?_
            refine KW.seq ?_
            have c5 := check_s p (by omega) w4
            rw [hC.check] at c5
            refine KW.region ?_
            refine OW.val rfl rfl (EX.move rfl) ?_
            refine OW.val rfl rfl (EX.move rfl) ?_
            refine OW.val rfl rfl (EX.eqlS rfl rfl) ?_
            refine OW.val rfl rfl (EX.move rfl) ?_
            refine OW.as 68 (.bool true) rfl (congrArg Value.bool (decide_eq_true (rfl))) ?_
            refine OW.val rfl rfl (EX.move rfl) ?_
            refine OW.val rfl rfl (by first | exact EX.eqlN (b := 0) rfl rfl | exact EX.eqlZ rfl rfl) ?_
            refine OW.val rfl rfl (EX.pickT rfl rfl) ?_
            refine OW.val rfl rfl (EX.move rfl) ?_
            refine OW.as 72 (.bool true) rfl (congrArg Value.bool (decide_eq_true (rfl))) ?_
            refine OW.val rfl rfl (EX.move rfl) ?_
            refine OW.val rfl rfl (EX.move rfl) ?_
            refine OW.val rfl rfl (EX.eqlS rfl rfl) ?_
            refine OW.val rfl rfl (EX.pickT rfl rfl) ?_
            refine OW.val rfl rfl (EX.move rfl) ?_
            refine OW.as 77 (.bool true) rfl (congrArg Value.bool (decide_eq_true (hC.join))) ?_
            refine OW.val rfl rfl (EX.move rfl) ?_
            refine OW.val rfl rfl (EX.move rfl) ?_
            refine OW.val rfl rfl (EX.eqlS rfl rfl) ?_
            refine OW.val rfl rfl (EX.pickT rfl rfl) ?_
            refine OW.val rfl rfl (EX.move rfl) ?_
            refine OW.as 82 (.bool true) rfl (congrArg Value.bool (decide_eq_true (rfl))) ?_
            refine OW.val rfl rfl (EX.move rfl) ?_
            refine OW.val rfl rfl (by first | exact EX.eqlN (b := 0) rfl rfl | exact EX.eqlZ rfl rfl) ?_
            refine OW.val rfl rfl (EX.pickT rfl rfl) ?_
            refine OW.val rfl rfl (EX.move rfl) ?_
            refine OW.as 86 (.bool true) rfl (congrArg Value.bool (decide_eq_true (rfl))) ?_
            refine OW.val rfl rfl (EX.move rfl) ?_
            refine OW.call rfl rfl rfl (c5) ?_
            rintro _ w5 ⟨rfl, hx5⟩
            refine OW.val rfl rfl (by first | exact EX.eqlN (b := 0) rfl rfl | exact EX.eqlZ rfl rfl) ?_
            refine OW.val rfl rfl (EX.pickT rfl rfl) ?_
            refine OW.val rfl rfl (EX.move rfl) ?_
            refine OW.as 91 (.bool true) rfl (congrArg Value.bool (decide_eq_true (rfl))) ?_
            have x5 := ((((hx1.trans hx2).trans hx3).trans hx).trans hx4).trans hx5
            refine OW.call rfl rfl rfl (awake_s w5 (hG.ext x5)) ?_
            rintro _ w6 ⟨rfl, hx6⟩
            refine OW.val rfl rfl (EX.pickT rfl rfl) ?_
            refine OW.val rfl rfl (EX.assign rfl) ?_
            refine OW.nil ?_
            refine KW.ret (ret1 rfl rfl ?_)
            exact ⟨rfl, x5.trans hx6⟩
    · rw [hbad] at c1
      refine OW.call rfl rfl rfl (c1) ?_
      rintro _ w1 ⟨rfl, hx1⟩
      refine OW.val rfl rfl (EX.move rfl) ?_
      refine OW.val rfl rfl (EX.extract rfl rfl) ?_
      refine OW.val rfl rfl (EX.extract rfl rfl) ?_
      refine OW.val rfl rfl (EX.assign rfl) ?_
      refine OW.val rfl rfl (EX.assign rfl) ?_
      refine OW.nil ?_
      refine KW.seq (KW.seq (KW.region ?_))
      refine OW.val rfl rfl (EX.move rfl) ?_
      refine OW.val rfl rfl (by first | exact EX.neqN (b := 0) rfl rfl | exact EX.neqZ rfl rfl) ?_
      refine OW.nil ?_
      refine KW.condD rfl (fun hz => ?_) (fun hz => ?_)
      · refine KW.seq ?_
        refine KW.region ?_
        refine OW.val rfl rfl (EX.move rfl) ?_
        refine OW.val rfl rfl (EX.eqlS (r := []) rfl rfl) ?_
        refine OW.val rfl rfl (EX.move rfl) ?_
        refine OW.as 26 (.bool true) rfl (congrArg Value.bool (decide_eq_true (rfl))) ?_
        refine OW.call rfl rfl rfl (awake_s w1 (hG.ext hx1)) ?_
        rintro _ w2 ⟨rfl, hx2⟩
        refine OW.val rfl rfl (EX.pickT rfl rfl) ?_
        refine OW.val rfl rfl (EX.assign rfl) ?_
        refine OW.nil ?_
        refine KW.ret (ret1 rfl rfl ?_)
        exact ⟨rfl, hx1.trans hx2⟩
      · exact absurd (by decide) hz
end Go.Proofs.YtifnlmpnkjhlnaaDoor
