/-
  disk: devices that no call made.
-/
import Derived.Test.YtdjcgffhnakeeaaDskE
namespace Go.Proofs.Ytdjcgffhnakeeaa
open Go.RowKit Dsk
set_option linter.unusedVariables false

def NoDev (w : World) (p : Value) : Prop := p = .pointer none ∨ ∃ (b : Nat) (l : List Value), p = .pointer (some ⟨b, 0, none⟩) ∧ Bk w b 54 (.int .i64 0 :: l)
theorem NoDev.ext {w w' : World} {p : Value} (h : NoDev w p) (hx : Ext w w') : NoDev w' p := by
  rcases h with h | ⟨b, l, h, hb⟩
  · exact .inl h
  · exact .inr ⟨b, l, h, hb.ext hx⟩
theorem none_e {w : World} {b : Nat} {l : List Value} (h : Bk w b 54 (.int .i64 0 :: l)) : Ret Try.prog 28 [.pointer (some ⟨b, 0, none⟩)] w fun v w' => v = .bool true ∧ w = w' := by
  refine Ret.enter Try.func28 rfl Try.ntmps28 (by kernel_rfl) rfl ?_
  refine KW.seq (KW.region ?_)
  refine OW.val rfl rfl (EX.assign rfl) ?_
  refine OW.nil ?_
  refine KW.seq ?_
  refine KW.region ?_
  refine OW.val rfl rfl (EX.move rfl) ?_
  refine OW.val rfl rfl (by first | exact EX.eqlP1 Try.underlying23 rfl rfl | exact EX.eqlP0 Try.underlying23 rfl rfl) ?_
  refine OW.val rfl rfl (EX.move rfl) ?_
  refine OW.val rfl rfl (EX.move rfl) ?_
  refine OW.val rfl rfl (EX.nilCheck rfl) ?_
  refine OW.val rfl rfl (EX.fieldAddr (off := 0) Try.underlying54 rfl rfl ti3 rfl rfl) ?_
  refine OW.val rfl rfl (EX.load Try.underlying3 rfl rfl (h.cell_of rfl)) ?_
  refine OW.val rfl rfl (by first | exact EX.eqlN (b := 0) rfl rfl | exact EX.eqlZ rfl rfl) ?_
  refine OW.val rfl rfl (EX.pickF rfl rfl) ?_
  refine OW.val rfl rfl (EX.assign rfl) ?_
  refine OW.nil ?_
  refine KW.ret (ret1 rfl rfl ?_)
  exact ⟨rfl, rfl⟩
section
variable {w : World} {p : Value}
theorem none_z (h : NoDev w p) : Ret Try.prog 28 [p] w fun v w' => v = .bool true ∧ w = w' := by
  rcases h with rfl | ⟨b, l, rfl, hb⟩
  · exact none_n w
  · exact none_e hb
theorem alive_z (h : NoDev w p) : Ret Try.prog 29 [p] w fun v w' => v = .int .i64 ((1 : Nat) : Int) ∧ w = w' := by
  refine Ret.enter Try.func29 rfl Try.ntmps29 (by kernel_rfl) rfl ?_
  refine KW.seq (KW.region ?_)
  refine OW.val rfl rfl (EX.assign rfl) ?_
  refine OW.nil ?_
  refine KW.seq (KW.block (KW.seq (KW.region ?_)))
  refine OW.val rfl rfl (EX.move rfl) ?_
  refine OW.call rfl rfl rfl (none_z h) ?_
  rintro _ _ ⟨rfl, rfl⟩
  refine OW.val rfl rfl (EX.assign rfl) ?_
  refine OW.nil ?_
  refine KW.condT rfl (KW.seq (KW.region ?_))
  refine OW.val rfl rfl (EX.assign rfl) ?_
  refine OW.nil ?_
  refine KW.ret (ret1 rfl rfl ?_)
  exact ⟨rfl, rfl⟩
theorem read_z (h : NoDev w p) (i : Int) : Ret Try.prog 19 [p, .int .i64 i] w fun v w' => v = .tuple #[str [], .int .i64 ((1 : Nat) : Int)] ∧ w = w' := by
  refine Ret.enter Try.func19 rfl Try.ntmps19 (by kernel_rfl) rfl ?_
  refine KW.seq (KW.region ?_)
  refine OW.val rfl rfl (EX.assign rfl) ?_
  refine OW.val rfl rfl (EX.assign rfl) ?_
  refine OW.nil ?_
  refine KW.seq (KW.seq (KW.region ?_))
  refine OW.val rfl rfl (EX.move rfl) ?_
  refine OW.call rfl rfl rfl (alive_z h) ?_
  rintro _ _ ⟨rfl, rfl⟩
  refine OW.val rfl rfl (EX.assign rfl) ?_
  refine OW.nil ?_
  refine KW.seq (KW.region ?_)
  refine OW.val rfl rfl (EX.move rfl) ?_
  refine OW.val rfl rfl (by first | exact EX.neqN (b := 0) rfl rfl | exact EX.neqZ rfl rfl) ?_
  refine OW.nil ?_
  refine KW.as 10 (.bool true) rfl (congrArg Value.bool (decide_eq_true (by decide))) ?_
  refine KW.condT rfl (KW.seq (KW.region ?_))
  refine OW.val rfl rfl (EX.move rfl) ?_
  refine OW.val rfl rfl (EX.assign rfl) ?_
  refine OW.val rfl rfl (EX.assign rfl) ?_
  refine OW.nil ?_
  refine KW.ret (ret2 rfl rfl rfl ?_)
  exact ⟨rfl, rfl⟩
theorem write_z (h : NoDev w p) (i : Int) (s : List UInt8) : Ret Try.prog 25 [p, .int .i64 i, str s] w fun v w' => v = .int .i64 ((1 : Nat) : Int) ∧ Ext w w' := by
  refine Ret.enter Try.func25 rfl Try.ntmps25 (by kernel_rfl) rfl ?_
  refine KW.seq (KW.region ?_)
  refine OW.boxB rfl rfl rfl rfl ?_
  rintro bi w1 hge1 hi1 hx1
  refine OW.boxB rfl rfl rfl rfl ?_
  rintro bs w2 hge2 hs2 hx2
  refine OW.val rfl rfl (EX.assign rfl) ?_
  refine OW.nil ?_
  refine KW.seq (KW.seq (KW.region ?_))
  refine OW.val rfl rfl (EX.move rfl) ?_
  refine OW.call rfl rfl rfl (alive_z (h.ext (hx1.trans hx2))) ?_
  rintro _ _ ⟨rfl, rfl⟩
  refine OW.val rfl rfl (EX.assign rfl) ?_
  refine OW.nil ?_
  refine KW.seq (KW.region ?_)
  refine OW.val rfl rfl (EX.move rfl) ?_
  refine OW.val rfl rfl (by first | exact EX.neqN (b := 0) rfl rfl | exact EX.neqZ rfl rfl) ?_
  refine OW.nil ?_
  refine KW.as 11 (.bool true) rfl (congrArg Value.bool (decide_eq_true (by decide))) ?_
  refine KW.condT rfl (KW.seq (KW.region ?_))
  refine OW.val rfl rfl (EX.move rfl) ?_
  refine OW.val rfl rfl (EX.assign rfl) ?_
  refine OW.nil ?_
  refine KW.ret (ret1 rfl rfl ?_)
  exact ⟨rfl, hx1.trans hx2⟩
theorem cut_z (h : NoDev w p) (i : Int) : Ret Try.prog 26 [p, .int .i64 i] w fun v w' => v = .int .i64 ((1 : Nat) : Int) ∧ Ext w w' := by
  refine Ret.enter Try.func26 rfl Try.ntmps26 (by kernel_rfl) rfl ?_
  refine KW.seq (KW.region ?_)
  refine OW.boxB rfl rfl rfl rfl ?_
  rintro bi w1 hge1 hi1 hx1
  refine OW.val rfl rfl (EX.assign rfl) ?_
  refine OW.nil ?_
  refine KW.seq (KW.seq (KW.region ?_))
  refine OW.val rfl rfl (EX.move rfl) ?_
  refine OW.call rfl rfl rfl (alive_z (h.ext hx1)) ?_
  rintro _ _ ⟨rfl, rfl⟩
  refine OW.val rfl rfl (EX.assign rfl) ?_
  refine OW.nil ?_
  refine KW.seq (KW.region ?_)
  refine OW.val rfl rfl (EX.move rfl) ?_
  refine OW.val rfl rfl (by first | exact EX.neqN (b := 0) rfl rfl | exact EX.neqZ rfl rfl) ?_
  refine OW.nil ?_
  refine KW.as 9 (.bool true) rfl (congrArg Value.bool (decide_eq_true (by decide))) ?_
  refine KW.condT rfl (KW.seq (KW.region ?_))
  refine OW.val rfl rfl (EX.move rfl) ?_
  refine OW.val rfl rfl (EX.assign rfl) ?_
  refine OW.nil ?_
  refine KW.ret (ret1 rfl rfl ?_)
  exact ⟨rfl, hx1⟩
theorem sync_z (h : NoDev w p) : Ret Try.prog 17 [p] w fun v w' => v = .int .i64 ((1 : Nat) : Int) ∧ w = w' := by
  refine Ret.enter Try.func17 rfl Try.ntmps17 (by kernel_rfl) rfl ?_
  refine KW.seq (KW.region ?_)
  refine OW.val rfl rfl (EX.assign rfl) ?_
  refine OW.nil ?_
  refine KW.seq (KW.seq (KW.region ?_))
  refine OW.val rfl rfl (EX.move rfl) ?_
  refine OW.call rfl rfl rfl (alive_z h) ?_
  rintro _ _ ⟨rfl, rfl⟩
  refine OW.val rfl rfl (EX.assign rfl) ?_
  refine OW.nil ?_
  refine KW.seq (KW.region ?_)
  refine OW.val rfl rfl (EX.move rfl) ?_
  refine OW.val rfl rfl (by first | exact EX.neqN (b := 0) rfl rfl | exact EX.neqZ rfl rfl) ?_
  refine OW.nil ?_
  refine KW.as 7 (.bool true) rfl (congrArg Value.bool (decide_eq_true (by decide))) ?_
  refine KW.condT rfl (KW.seq (KW.region ?_))
  refine OW.val rfl rfl (EX.move rfl) ?_
  refine OW.val rfl rfl (EX.assign rfl) ?_
  refine OW.nil ?_
  refine KW.ret (ret1 rfl rfl ?_)
  exact ⟨rfl, rfl⟩
theorem plan_z (h : NoDev w p) (l : List Value) : Ret Try.prog 18 [p, .agg l.toArray] w fun v w' => v = .int .i64 ((1 : Nat) : Int) ∧ Ext w w' := by
  refine Ret.enter Try.func18 rfl Try.ntmps18 (by kernel_rfl) rfl ?_
  refine KW.seq (KW.region ?_)
  refine OW.boxS rfl rfl rfl ?_
  rintro bi w1 hge1 hi1 hx1
  refine OW.val rfl rfl (EX.assign rfl) ?_
  refine OW.nil ?_
  refine KW.seq (KW.seq (KW.region ?_))
  refine OW.val rfl rfl (EX.move rfl) ?_
  refine OW.call rfl rfl rfl (alive_z (h.ext hx1)) ?_
  rintro _ _ ⟨rfl, rfl⟩
  refine OW.val rfl rfl (EX.assign rfl) ?_
  refine OW.nil ?_
  refine KW.seq (KW.region ?_)
  refine OW.val rfl rfl (EX.move rfl) ?_
  refine OW.val rfl rfl (by first | exact EX.neqN (b := 0) rfl rfl | exact EX.neqZ rfl rfl) ?_
  refine OW.nil ?_
  refine KW.as 9 (.bool true) rfl (congrArg Value.bool (decide_eq_true (by decide))) ?_
  refine KW.condT rfl (KW.seq (KW.region ?_))
  refine OW.val rfl rfl (EX.move rfl) ?_
  refine OW.val rfl rfl (EX.assign rfl) ?_
  refine OW.nil ?_
  refine KW.ret (ret1 rfl rfl ?_)
  exact ⟨rfl, hx1⟩
theorem up_z (h : NoDev w p) : Ret Try.prog 20 [p] w fun v w' => v = .int .i64 ((1 : Nat) : Int) ∧ w = w' := by
  refine Ret.enter Try.func20 rfl Try.ntmps20 (by kernel_rfl) rfl ?_
  refine KW.seq (KW.region ?_)
  refine OW.val rfl rfl (EX.assign rfl) ?_
  refine OW.nil ?_
  refine KW.seq (KW.seq (KW.region ?_))
  refine OW.val rfl rfl (EX.move rfl) ?_
  refine OW.call rfl rfl rfl (none_z h) ?_
  rintro _ _ ⟨rfl, rfl⟩
  refine OW.nil ?_
  refine KW.condT rfl (KW.seq (KW.region ?_))
  refine OW.val rfl rfl (EX.assign rfl) ?_
  refine OW.nil ?_
  refine KW.ret (ret1 rfl rfl ?_)
  exact ⟨rfl, rfl⟩
theorem len_z (h : NoDev w p) : Ret Try.prog 12 [p] w fun v w' => v = .int .i64 ((0 : Nat) : Int) ∧ w = w' := by
  refine Ret.enter Try.func12 rfl Try.ntmps12 (by kernel_rfl) rfl ?_
  refine KW.seq (KW.region ?_)
  refine OW.val rfl rfl (EX.assign rfl) ?_
  refine OW.nil ?_
  refine KW.seq (KW.seq (KW.region ?_))
  refine OW.val rfl rfl (EX.move rfl) ?_
  refine OW.call rfl rfl rfl (none_z h) ?_
  rintro _ _ ⟨rfl, rfl⟩
  refine OW.nil ?_
  refine KW.condT rfl (KW.seq (KW.region ?_))
  refine OW.val rfl rfl (EX.assign rfl) ?_
  refine OW.nil ?_
  refine KW.ret (ret1 rfl rfl ?_)
  exact ⟨rfl, rfl⟩
theorem capacity_z (h : NoDev w p) : Ret Try.prog 13 [p] w fun v w' => v = .int .i64 ((0 : Nat) : Int) ∧ w = w' := by
  refine Ret.enter Try.func13 rfl Try.ntmps13 (by kernel_rfl) rfl ?_
  refine KW.seq (KW.region ?_)
  refine OW.val rfl rfl (EX.assign rfl) ?_
  refine OW.nil ?_
  refine KW.seq (KW.seq (KW.region ?_))
  refine OW.val rfl rfl (EX.move rfl) ?_
  refine OW.call rfl rfl rfl (none_z h) ?_
  rintro _ _ ⟨rfl, rfl⟩
  refine OW.nil ?_
  refine KW.condT rfl (KW.seq (KW.region ?_))
  refine OW.val rfl rfl (EX.assign rfl) ?_
  refine OW.nil ?_
  refine KW.ret (ret1 rfl rfl ?_)
  exact ⟨rfl, rfl⟩
theorem calls_z (h : NoDev w p) : Ret Try.prog 15 [p] w fun v w' => v = .int .i64 ((0 : Nat) : Int) ∧ w = w' := by
  refine Ret.enter Try.func15 rfl Try.ntmps15 (by kernel_rfl) rfl ?_
  refine KW.seq (KW.region ?_)
  refine OW.val rfl rfl (EX.assign rfl) ?_
  refine OW.nil ?_
  refine KW.seq (KW.seq (KW.region ?_))
  refine OW.val rfl rfl (EX.move rfl) ?_
  refine OW.call rfl rfl rfl (none_z h) ?_
  rintro _ _ ⟨rfl, rfl⟩
  refine OW.nil ?_
  refine KW.condT rfl (KW.seq (KW.region ?_))
  refine OW.val rfl rfl (EX.assign rfl) ?_
  refine OW.nil ?_
  refine KW.ret (ret1 rfl rfl ?_)
  exact ⟨rfl, rfl⟩
theorem image_z (h : NoDev w p) : Ret Try.prog 11 [p] w fun v w' => v = str [] ∧ w = w' := by
  refine Ret.enter Try.func11 rfl Try.ntmps11 (by kernel_rfl) rfl ?_
  refine KW.seq (KW.region ?_)
  refine OW.val rfl rfl (EX.assign rfl) ?_
  refine OW.nil ?_
  refine KW.seq (KW.seq (KW.region ?_))
  refine OW.val rfl rfl (EX.move rfl) ?_
  refine OW.call rfl rfl rfl (none_z h) ?_
  rintro _ _ ⟨rfl, rfl⟩
  refine OW.nil ?_
  refine KW.condT rfl (KW.seq (KW.region ?_))
  refine OW.val rfl rfl (EX.assign rfl) ?_
  refine OW.nil ?_
  refine KW.ret (ret1 rfl rfl ?_)
  exact ⟨rfl, rfl⟩
theorem dead_z (h : NoDev w p) : Ret Try.prog 14 [p] w fun v w' => v = .bool false ∧ w = w' := by
  refine Ret.enter Try.func14 rfl Try.ntmps14 (by kernel_rfl) rfl ?_
  refine KW.seq (KW.region ?_)
  refine OW.val rfl rfl (EX.assign rfl) ?_
  refine OW.nil ?_
  refine KW.seq ?_
  refine KW.region ?_
  refine OW.val rfl rfl (EX.move rfl) ?_
  refine OW.call rfl rfl rfl (none_z h) ?_
  rintro _ _ ⟨rfl, rfl⟩
  refine OW.val rfl rfl (by first | exact EX.notD rfl | exact EX.notB rfl) ?_
  refine OW.val rfl rfl (EX.move rfl) ?_
  refine OW.pass rfl rfl ?_
  refine OW.pass rfl rfl ?_
  refine OW.pass rfl rfl ?_
  refine OW.pass rfl rfl ?_
  refine OW.val rfl rfl (EX.pickF rfl rfl) ?_
  refine OW.val rfl rfl (EX.assign rfl) ?_
  refine OW.nil ?_
  refine KW.ret (ret1 rfl rfl ?_)
  exact ⟨rfl, rfl⟩
end
theorem diskNobody_s (i : Int) (i0 : -9223372036854775808 ≤ i) (i1 : i ≤ 9223372036854775807) (l : List Value) (hl : l.length = 2) (w : World) :
    Ret Try.prog 7 [.int .i64 i, .agg l.toArray] w fun v w' => v = .bool true ∧ Ext w w' := by
  refine Ret.enter Try.func7 rfl Try.ntmps7 (by kernel_rfl) rfl ?_
  refine KW.seq (KW.region ?_)
  refine OW.boxS rfl rfl rfl ?_
  rintro bf w1 hge1 hf1 hx1
  refine OW.val rfl rfl (EX.assign rfl) ?_
  refine OW.nil ?_
  refine KW.seq (KW.region ?_)
  refine OW.val rfl rfl (EX.buildS (pl := [(0, 1), (1, 1), (2, 1), (3, 1), (4, 2), (6, 1), (7, 1)]) (ks := []) (is := []) (zs := [.int .i64 0, .slice none 0 0, .slice none 0 0, .slice none 0 0, .int .i64 0, .slice none 0 0, .bool false, .int .i64 0]) Try.underlying54 ti54 (by kernel_rfl) rfl rfl rfl (by first | rfl | (simp only [List.all_cons, List.all_nil, Bool.and_true, Bool.true_and, Bool.and_eq_true, Value.oneCell']; repeat (first | assumption | exact Own.one (by assumption) | constructor))) (by simp only [setAll, List.set_cons_zero, List.set_cons_succ]; rfl)) ?_
  refine OW.boxS rfl rfl rfl ?_
  rintro b w2 hge2 hb2 hx2
  refine OW.buildB 2 rfl rfl Try.underlying55 ti23 rfl rfl rfl rfl (by first | rfl | (simp only [List.all_cons, List.all_nil, Bool.and_true, Bool.and_eq_true]; assumption)) (by decide) ?_
  rintro bl w3 hge3 hl3 hx3
  refine OW.val rfl rfl (EX.assign rfl) ?_
  refine OW.nil ?_
  refine KW.seq (KW.seq (KW.region ?_))
  refine OW.val rfl rfl (EX.assign rfl) ?_
  refine OW.nil ?_
  refine KW.block ?_
  have hb3 : Bk w3 b 54 (.int .i64 0 :: _) := hb2.ext hx3
  have hf3 := (hf1.ext hx2).ext hx3
  refine KW.loop2 (fun (k : Nat) (wr : World) => k ≤ 2 ∧ Ext w3 wr) (fun (k : Nat) (wr : World) => [(0, .int .i64 i), (3, .pointer (some ⟨bf, 0, none⟩)), (5, .slice (some ⟨bl, 0, none⟩) 2 2), (6, .int .i64 ((k : Nat) : Int))]) (fun (k : Nat) (wr : World) => wr) (fun (k : Nat) (wr : World) => 2 - k) (0) (w3) ⟨rfl, rfl, rfl, rfl, trivial⟩ rfl ?_ ?_
  · exact ⟨by omega, Ext.refl _⟩
  · rintro k wr ⟨hk, hx⟩
    have hlr := hl3.ext hx
    have hfr := hf3.ext hx
    refine KW.seq (KW.seq (KW.region ?_))
    refine OW.val rfl rfl (EX.move rfl) ?_
    refine OW.val rfl rfl (by first | exact EX.lssN (b := 2) rfl rfl | exact EX.lssZ rfl rfl) ?_
    refine OW.nil ?_
    refine KW.condD rfl (fun hk2 => ?_) (fun hk2 => ?_)
    · obtain ⟨p, hp, hno⟩ : ∃ p, ([Value.pointer none, .pointer (some ⟨b, 0, none⟩)] : List Value)[k]? = some p ∧ NoDev wr p := by
        rcases k with _ | _ | k
        · exact ⟨_, rfl, .inl rfl⟩
        · exact ⟨_, rfl, .inr ⟨b, _, rfl, hb3.ext hx⟩⟩
        · omega
      refine KW.skip (KW.seq (KW.block (KW.seq (KW.region ?_))))
      refine OW.val rfl rfl (EX.move rfl) ?_
      refine OW.val rfl rfl (EX.move rfl) ?_
      refine OW.val rfl rfl (by first | exact EX.indexAddrS0 Try.underlying55 ti23 rfl rfl (by omega) | exact EX.indexAddrS1 Try.underlying55 ti23 rfl rfl (by omega)) ?_
      refine OW.val rfl rfl (EX.load Try.underlying23 rfl rfl (hlr.cell_of hp)) ?_
      refine OW.val rfl rfl (EX.assign rfl) ?_
      refine OW.nil ?_
      refine KW.seq (KW.region ?_)
      refine OW.val rfl rfl (EX.move rfl) ?_
      refine OW.val rfl rfl (EX.move rfl) ?_
      refine OW.call rfl rfl rfl (read_z hno i) ?_
      rintro _ _ ⟨rfl, rfl⟩
      refine OW.val rfl rfl (EX.move rfl) ?_
      refine OW.val rfl rfl (EX.extract rfl rfl) ?_
      refine OW.val rfl rfl (EX.extract rfl rfl) ?_
      refine OW.val rfl rfl (EX.assign rfl) ?_
      refine OW.val rfl rfl (EX.assign rfl) ?_
      refine OW.nil ?_
      refine KW.seq (KW.seq ?_)
      refine KW.region ?_
      refine OW.val rfl rfl (EX.move rfl) ?_
      refine OW.val rfl rfl (EX.neqS (r := []) rfl rfl) ?_
      refine OW.val rfl rfl (EX.move rfl) ?_
      refine OW.as 29 (.bool false) rfl (congrArg Value.bool (decide_eq_false (by simp))) ?_
      refine OW.val rfl rfl (EX.move rfl) ?_
      refine OW.val rfl rfl (by first | exact EX.neqN (b := 1) rfl rfl | exact EX.neqZ rfl rfl) ?_
      refine OW.val rfl rfl (EX.pickF rfl rfl) ?_
      refine OW.val rfl rfl (EX.move rfl) ?_
      refine OW.as 33 (.bool false) rfl (congrArg Value.bool (decide_eq_false (by decide))) ?_
      refine OW.val rfl rfl (EX.move rfl) ?_
      refine OW.val rfl rfl (EX.move rfl) ?_
      refine OW.call rfl rfl rfl (sector_s 120 (by decide) false wr) ?_
      rintro _ w4 ⟨rfl, hx4⟩
      refine OW.call rfl rfl rfl (write_z (hno.ext hx4) i _) ?_
      rintro _ w5 ⟨rfl, hx5⟩
      refine OW.val rfl rfl (by first | exact EX.neqN (b := 1) rfl rfl | exact EX.neqZ rfl rfl) ?_
      refine OW.val rfl rfl (EX.pickF rfl rfl) ?_
      refine OW.val rfl rfl (EX.move rfl) ?_
      refine OW.as 40 (.bool false) rfl (congrArg Value.bool (decide_eq_false (by decide))) ?_
      refine OW.val rfl rfl (EX.move rfl) ?_
      refine OW.val rfl rfl (EX.move rfl) ?_
      refine OW.call rfl rfl rfl (cut_z (hno.ext (hx4.trans hx5)) i) ?_
      rintro _ w6 ⟨rfl, hx6⟩
      refine OW.val rfl rfl (by first | exact EX.neqN (b := 1) rfl rfl | exact EX.neqZ rfl rfl) ?_
      refine OW.val rfl rfl (EX.pickF rfl rfl) ?_
      refine OW.val rfl rfl (EX.move rfl) ?_
      refine OW.as 46 (.bool false) rfl (congrArg Value.bool (decide_eq_false (by decide))) ?_
      refine OW.val rfl rfl (EX.move rfl) ?_
      refine OW.call rfl rfl rfl (sync_z (hno.ext ((hx4.trans hx5).trans hx6))) ?_
      rintro _ _ ⟨rfl, rfl⟩
      refine OW.val rfl rfl (by first | exact EX.neqN (b := 1) rfl rfl | exact EX.neqZ rfl rfl) ?_
      refine OW.val rfl rfl (EX.pickF rfl rfl) ?_
      refine OW.val rfl rfl (EX.move rfl) ?_
      refine OW.as 51 (.bool false) rfl (congrArg Value.bool (decide_eq_false (by decide))) ?_
      refine OW.val rfl rfl (EX.move rfl) ?_
      refine OW.val rfl rfl (EX.loadBk Try.underlying39 rfl ti39 rfl (hfr.ext ((hx4.trans hx5).trans hx6)) (hl)) ?_
      refine OW.call rfl rfl rfl (plan_z (hno.ext ((hx4.trans hx5).trans hx6)) l) ?_
      rintro _ w7 ⟨rfl, hx7⟩
      refine OW.val rfl rfl (by first | exact EX.neqN (b := 1) rfl rfl | exact EX.neqZ rfl rfl) ?_
      refine OW.val rfl rfl (EX.pickF rfl rfl) ?_
      refine OW.val rfl rfl (EX.move rfl) ?_
      have hx47 := ((hx4.trans hx5).trans hx6).trans hx7
      refine OW.as 57 (.bool false) rfl (congrArg Value.bool (decide_eq_false (by decide))) ?_
      refine OW.val rfl rfl (EX.move rfl) ?_
      refine OW.call rfl rfl rfl (up_z (hno.ext hx47)) ?_
      rintro _ _ ⟨rfl, rfl⟩
      refine OW.val rfl rfl (by first | exact EX.neqN (b := 1) rfl rfl | exact EX.neqZ rfl rfl) ?_
      refine OW.val rfl rfl (EX.pickF rfl rfl) ?_
      refine OW.nil ?_
      refine KW.as 61 (.bool false) rfl (congrArg Value.bool (decide_eq_false (by decide))) ?_
      refine KW.condF rfl (KW.skip (KW.seq ?_))
      refine KW.region ?_
      refine OW.val rfl rfl (EX.move rfl) ?_
      refine OW.call rfl rfl rfl (capacity_z (hno.ext hx47)) ?_
      rintro _ _ ⟨rfl, rfl⟩
      refine OW.val rfl rfl (by first | exact EX.neqN (b := 0) rfl rfl | exact EX.neqZ rfl rfl) ?_
      refine OW.val rfl rfl (EX.move rfl) ?_
      refine OW.as 65 (.bool false) rfl (congrArg Value.bool (decide_eq_false (by decide))) ?_
      refine OW.val rfl rfl (EX.move rfl) ?_
      refine OW.call rfl rfl rfl (len_z (hno.ext hx47)) ?_
      rintro _ _ ⟨rfl, rfl⟩
      refine OW.val rfl rfl (by first | exact EX.neqN (b := 0) rfl rfl | exact EX.neqZ rfl rfl) ?_
      refine OW.val rfl rfl (EX.pickF rfl rfl) ?_
      refine OW.val rfl rfl (EX.move rfl) ?_
      refine OW.as 70 (.bool false) rfl (congrArg Value.bool (decide_eq_false (by decide))) ?_
      refine OW.val rfl rfl (EX.move rfl) ?_
      refine OW.call rfl rfl rfl (dead_z (hno.ext hx47)) ?_
      rintro _ _ ⟨rfl, rfl⟩
      refine OW.val rfl rfl (EX.pickF rfl rfl) ?_
      refine OW.val rfl rfl (EX.move rfl) ?_
      refine OW.val rfl rfl (EX.move rfl) ?_
      refine OW.call rfl rfl rfl (image_z (hno.ext hx47)) ?_
      rintro _ _ ⟨rfl, rfl⟩
      refine OW.val rfl rfl (EX.neqS (r := []) rfl rfl) ?_
      refine OW.val rfl rfl (EX.pickF rfl rfl) ?_
      refine OW.val rfl rfl (EX.move rfl) ?_
      refine OW.as 79 (.bool false) rfl (congrArg Value.bool (decide_eq_false (by simp))) ?_
      refine OW.val rfl rfl (EX.move rfl) ?_
      refine OW.call rfl rfl rfl (calls_z (hno.ext hx47)) ?_
      rintro _ _ ⟨rfl, rfl⟩
      refine OW.val rfl rfl (by first | exact EX.neqN (b := 0) rfl rfl | exact EX.neqZ rfl rfl) ?_
      refine OW.val rfl rfl (EX.pickF rfl rfl) ?_
      refine OW.nil ?_
      refine KW.as 83 (.bool false) rfl (congrArg Value.bool (decide_eq_false (by decide))) ?_
      refine KW.condF rfl (KW.skip (KW.leave (KW.region ?_)))
      refine OW.val rfl rfl (EX.move rfl) ?_
      refine OW.val rfl rfl (by first | exact EX.addN (b := 1) (m := 9223372036854775807) rfl rfl rfl (by omega) | exact EX.addZ (m := 9223372036854775807) rfl rfl rfl rfl (by omega)) ?_
      refine OW.val rfl rfl (EX.assign rfl) ?_
      refine OW.nil ?_
      refine KW.back2 (k + 1) (w7) ⟨rfl, rfl, rfl, rfl, trivial⟩ rfl ?_ (by omega)
      exact ⟨by omega, hx.trans hx47⟩
    · refine KW.exit rfl (KW.seq (KW.region ?_))
      refine OW.call rfl rfl rfl (awake_s wr) ?_
      rintro _ w4 ⟨rfl, hx4⟩
      refine OW.val rfl rfl (EX.assign rfl) ?_
      refine OW.nil ?_
      refine KW.ret (ret1 rfl rfl ?_)
      exact ⟨rfl, (((hx1.trans hx2).trans hx3).trans hx).trans hx4⟩
end Go.Proofs.Ytdjcgffhnakeeaa
