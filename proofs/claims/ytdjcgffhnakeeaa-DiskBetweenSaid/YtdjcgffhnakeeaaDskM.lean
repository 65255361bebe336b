/-
  disk: whatever is kept, a device whose last change was synced is what it was.
-/
import Derived.Test.YtdjcgffhnakeeaaDskL
namespace Go.Proofs.Ytdjcgffhnakeeaa
open Go.RowKit Dsk
set_option linter.unusedVariables false

/-! ### What single calls do, in plain words -/
theorem sync_live {D : Dv} (h : D.dead = false) (ha : D.at_ = 0) : D.sync = ({ D with kept := D.now, pend := [], calls := D.calls + 1 }, 0) := by
  unfold Dv.sync Dv.does
  simp [h, Dv.pushed, ha, Dv.done]
theorem sync_falls {D : Dv} (h : D.dead = false) (ha : D.at_ = 1) : D.sync = ({ D with kept := fallen D.pend D.keep D.kept, now := fallen D.pend D.keep D.kept, pend := [], at_ := 0, keep := [], dead := true }, 190) := by
  unfold Dv.sync Dv.does
  simp [h, Dv.pushed, ha]
theorem plan_live {D : Dv} (h : D.dead = false) (k : List Bool) : D.plan 1 k = ({ D with at_ := 1, keep := k }, 0) := by
  unfold Dv.plan
  simp [h]
theorem read_dead {D : Dv} (h : D.dead = true) (i : Int) : D.read i = (D, [], 190) := by
  unfold Dv.read
  simp [h]
theorem does_live {D : Dv} (h : D.dead = false) (ha : D.at_ = 0) (c : Option Ch) : (D.does c).1.dead = false := by
  cases c <;> (unfold Dv.does; simp [Dv.pushed, ha, Dv.done, h])
theorem act_live {D : Dv} (h : D.dead = false) (ha : D.at_ = 0) (a : Ac) : (D.act a).1.dead = false := by
  unfold Dv.act
  split
  · unfold Dv.read; split
    · exact h
    · split
      · exact h
      · exact h
  · split
    · unfold Dv.write; split
      · exact h
      · split
        · exact h
        · split
          · exact h
          · exact does_live h ha _
    · split
      · unfold Dv.cut; split
        · exact h
        · split
          · exact h
          · exact does_live h ha _
      · split
        · unfold Dv.sync; split
          · exact h
          · exact does_live h ha _
        · exact h
theorem acts_live : ∀ (l : List Ac) {D : Dv}, D.dead = false → D.at_ = 0 → (D.acts l).dead = false ∧ (D.acts l).at_ = 0
  | [], D, h, ha => ⟨h, ha⟩
  | a :: l, D, h, ha => by
    simp only [Dv.acts]
    split
    · refine acts_live l (act_live h ha a) ?_
      have := (act_grew D a).2.2.1
      omega
    · exact acts_live l h ha
section
variable {w : World} {B b : Nat} {D E : Dv} {r : Nat}
theorem sync_e (h : DevAt w B b D) (hD : D.Ok) (hs : Small D) (e : D.sync = (E, r)) : Ret Try.prog 17 [.pointer (some ⟨b, 0, none⟩)] w fun v w' => v = .int .i64 (r : Int) ∧ DevAt w' B b E ∧ Tm w w' B dty := by
  have := sync_d h hD hs
  rwa [e] at this
theorem plan_e (h : DevAt w B b D) (hD : D.Ok) (a : Int) (i0 : -9223372036854775808 ≤ a) (i1 : a ≤ 9223372036854775807) (A : Option Addr) (c C : Nat) (k : List Bool) (hsl : Sl w C A (boolsV k)) (hA : A = none → boolsV k = []) (hk : k.length ≤ 140737488351232) (e : D.plan a k = (E, r)) :
    Ret Try.prog 18 [.pointer (some ⟨b, 0, none⟩), .agg [.int .i64 a, .slice A k.length c].toArray] w fun v w' => v = .int .i64 (r : Int) ∧ DevAt w' B b E ∧ Tm w w' B dty := by
  have := plan_d h hD a i0 i1 A c C k hsl hA hk
  rwa [e] at this
theorem read_e (h : DevAt w B b D) (hD : D.Ok) (hs : Small D) (i : Int) (i0 : -9223372036854775808 ≤ i) (i1 : i ≤ 9223372036854775807) {s : List UInt8} (e : D.read i = (E, s, r)) :
    Ret Try.prog 19 [.pointer (some ⟨b, 0, none⟩), .int .i64 i] w fun v w' => v = .tuple #[str s, .int .i64 (r : Int)] ∧ DevAt w' B b E ∧ Tm w w' B dty := by
  have := read_d h hD hs i i0 i1
  rwa [e] at this
end
theorem diskSyncs_s (c : Int) (c0 : -9223372036854775808 ≤ c) (c1 : c ≤ 9223372036854775807) (acts : List Ac) (hok : ∀ a ∈ acts, a.Ok) (A : Option Addr) (k : Nat) (ks : List Bool) (Ak : Option Addr) (kk : Nat) (hA0 : Ak = none → ks = []) (hkl : ks.length ≤ 140737488351232) (w : World) (C : Nat) (hsl : Sl w C A (actsV acts)) (Ck : Nat) (hks : Sl w Ck Ak (boolsV ks)) :
    Ret Try.prog 4 [.int .i64 c, .slice A acts.length k, .slice Ak ks.length kk] w fun v w' => v = .bool true ∧ Ext w w' := by
  have hA : Ak = none → boolsV ks = [] := fun q => by rw [hA0 q]; rfl
  refine Ret.enter Try.func4 rfl Try.ntmps4 (by kernel_rfl) rfl ?_
  refine KW.seq (KW.region ?_)
  refine OW.val rfl rfl (EX.assign rfl) ?_
  refine OW.nil ?_
  refine KW.seq (KW.region ?_)
  refine OW.val rfl rfl (EX.move rfl) ?_
  refine OW.val rfl rfl (EX.move rfl) ?_
  refine OW.call rfl rfl rfl (changed_s c c0 c1 acts hok A k C w hsl) ?_
  rintro v w1 ⟨hx1, hor⟩
  refine OW.val rfl rfl (EX.assign rfl) ?_
  refine OW.nil ?_
  refine KW.seq (KW.seq (KW.region ?_))
  refine OW.val rfl rfl (EX.move rfl) ?_
  rcases hor with rfl | ⟨b, rfl, hlen, hm, hc40, hd1, hDok, hcl, hpl, ha0, hk0⟩
  · refine OW.val rfl rfl (EX.eqlP0 Try.underlying23 rfl rfl) ?_
    refine OW.nil ?_
    refine KW.condT rfl (KW.seq (KW.region ?_))
    refine OW.call rfl rfl rfl (awake_s w1) ?_
    rintro _ w2 ⟨rfl, hx2⟩
    refine OW.val rfl rfl (EX.assign rfl) ?_
    refine OW.nil ?_
    refine KW.ret (ret1 rfl rfl ?_)
    exact ⟨rfl, hx1.trans hx2⟩
  · refine OW.val rfl rfl (EX.eqlP1 Try.underlying23 rfl rfl) ?_
    refine OW.nil ?_
    refine KW.condF rfl (KW.skip (KW.seq (KW.seq (KW.region ?_))))
    refine OW.val rfl rfl (EX.move rfl) ?_
    generalize hD : (fresh c.toNat []).acts acts = D at hd1 hDok hcl hpl ha0 hk0
    have hlv : D.dead = false := by rw [← hD]; exact (acts_live acts rfl rfl).1
    have hsm : Small D := ⟨by omega, by omega, by omega, by rw [hk0]; decide⟩
    have e1 := sync_live hlv ha0
    have ok1 := sync_ok hDok
    rw [e1] at ok1
    generalize hE : ({ D with kept := D.now, pend := [], calls := D.calls + 1 } : Dv) = E at e1 ok1
    have lv2 : E.dead = false := by rw [← hE]; exact hlv
    have e2 := plan_live lv2 ks
    have ok2 := plan_ok ok1 1 ks
    rw [e2] at ok2
    have sm2 : Small { E with at_ := 1, keep := ks } := ⟨by show E.calls ≤ _; rw [← hE]; show D.calls + 1 ≤ _; omega, by show E.pend.length ≤ _; rw [← hE]; simp, by simp, by show ks.length ≤ _; omega⟩
    generalize hF : ({ E with at_ := 1, keep := ks } : Dv) = F at e2 ok2 sm2
    have lv3 : F.dead = false := by rw [← hF]; exact lv2
    have e3 := sync_falls lv3 (by rw [← hF])
    have ok3 := sync_ok ok2
    rw [e3] at ok3
    have hnow : fallen F.pend F.keep F.kept = D.now := by rw [← hF]; show fallen E.pend ks E.kept = _; rw [← hE]; rfl
    rw [hnow] at e3 ok3
    have sm3 : Small { F with kept := D.now, now := D.now, pend := [], at_ := 0, keep := [], dead := true } := ⟨sm2.calls, by simp, by simp, by simp⟩
    generalize hG : ({ F with kept := D.now, now := D.now, pend := [], at_ := 0, keep := [], dead := true } : Dv) = G at e3 ok3 sm3
    have dG : G.dead = true := by rw [← hG]
    have nG : G.now = D.now := by rw [← hG]
    have ok4 : ({ G with dead := false } : Dv).Ok := up_ok ok3
    refine OW.call rfl rfl rfl (sync_e hd1 hDok hsm e1) ?_
    rintro _ w2 ⟨rfl, hd2, t2⟩
    refine OW.val rfl rfl (by first | exact EX.neqN (b := 0) rfl rfl | exact EX.neqZ rfl rfl) ?_
    refine OW.nil ?_
    refine KW.as 19 (.bool false) rfl (congrArg Value.bool (decide_eq_false (by decide))) ?_
    refine KW.condF rfl (KW.skip (KW.seq (KW.region ?_)))
    refine OW.val rfl rfl (EX.move rfl) ?_
    refine OW.call rfl rfl rfl (image_d hd2 ok1) ?_
    rintro _ _ ⟨rfl, rfl⟩
    refine OW.val rfl rfl (EX.assign rfl) ?_
    refine OW.nil ?_
    refine KW.seq (KW.seq ?_)
    have x2 : Ext w w2 := t2.below hx1 hx1.size (Nat.le_refl _)
    refine KW.region ?_
    refine OW.val rfl rfl (EX.move rfl) ?_
    refine OW.val rfl rfl (EX.move rfl) ?_
    refine OW.val rfl rfl (EX.buildS (pl := [(0, 1), (1, 1)]) (ks := [0, 1]) (is := [0, 1]) (zs := [.int .i64 0, .slice none 0 0]) Try.underlying39 ti39 (by kernel_rfl) rfl rfl rfl (by first | rfl | (simp only [List.all_cons, List.all_nil, Bool.and_true, Bool.true_and, Bool.and_eq_true, Value.oneCell']; repeat (first | assumption | exact Own.one (by assumption) | constructor))) (by simp only [setAll, List.set_cons_zero, List.set_cons_succ]; rfl)) ?_
    refine OW.call rfl rfl rfl (plan_e hd2 ok1 1 (by decide) (by decide) Ak kk Ck ks (hks.ext x2) hA hkl e2) ?_
    rintro _ w3 ⟨rfl, hd3, t3⟩
    refine OW.val rfl rfl (by first | exact EX.neqN (b := 0) rfl rfl | exact EX.neqZ rfl rfl) ?_
    refine OW.val rfl rfl (EX.move rfl) ?_
    have x3 : Ext w w3 := t3.below x2 x2.size (Nat.le_refl _)
    refine OW.as 27 (.bool false) rfl (congrArg Value.bool (decide_eq_false (by decide))) ?_
    refine OW.val rfl rfl (EX.move rfl) ?_
    refine OW.call rfl rfl rfl (sync_e hd3 ok2 sm2 e3) ?_
    rintro _ w4 ⟨rfl, hd4, t4⟩
    refine OW.val rfl rfl (by first | exact EX.neqN (b := 190) rfl rfl | exact EX.neqZ rfl rfl) ?_
    refine OW.val rfl rfl (EX.pickF rfl rfl) ?_
    refine OW.val rfl rfl (EX.move rfl) ?_
    have x4 : Ext w w4 := t4.below x3 x3.size (Nat.le_refl _)
    refine OW.as 32 (.bool false) rfl (congrArg Value.bool (decide_eq_false (by decide))) ?_
    refine OW.val rfl rfl (EX.move rfl) ?_
    refine OW.call rfl rfl rfl (dead_d hd4 ok3) ?_
    rintro _ _ ⟨rfl, rfl⟩
    refine OW.val rfl rfl (by first | exact EX.notD rfl | exact EX.notB rfl) ?_
    refine OW.val rfl rfl (EX.pickF rfl rfl) ?_
    refine OW.nil ?_
    rw [dG]
    refine KW.condF rfl (KW.skip (KW.seq (KW.region ?_)))
    refine OW.val rfl rfl (EX.move rfl) ?_
    refine OW.call rfl rfl rfl (read_e hd4 ok3 sm3 0 (by decide) (by decide) (read_dead dG 0)) ?_
    rintro _ w5 ⟨rfl, hd5, t5⟩
    refine OW.val rfl rfl (EX.move rfl) ?_
    refine OW.val rfl rfl (EX.extract rfl rfl) ?_
    refine OW.val rfl rfl (EX.extract rfl rfl) ?_
    refine OW.val rfl rfl (EX.assign rfl) ?_
    refine OW.val rfl rfl (EX.assign rfl) ?_
    refine OW.nil ?_
    refine KW.seq ?_
    have x5 : Ext w w5 := t5.below x4 x4.size (Nat.le_refl _)
    refine KW.region ?_
    refine OW.val rfl rfl (EX.move rfl) ?_
    refine OW.val rfl rfl (by first | exact EX.eqlN (b := 190) rfl rfl | exact EX.eqlZ rfl rfl) ?_
    refine OW.val rfl rfl (EX.move rfl) ?_
    refine OW.as 44 (.bool true) rfl (congrArg Value.bool (decide_eq_true (by decide))) ?_
    refine OW.val rfl rfl (EX.move rfl) ?_
    refine OW.call rfl rfl rfl (up_d hd5 ok3) ?_
    rintro _ w6 ⟨rfl, hd6, t6⟩
    refine OW.val rfl rfl (by first | exact EX.eqlN (b := 0) rfl rfl | exact EX.eqlZ rfl rfl) ?_
    refine OW.val rfl rfl (EX.pickT rfl rfl) ?_
    refine OW.val rfl rfl (EX.move rfl) ?_
    have x6 : Ext w w6 := t6.below x5 x5.size (Nat.le_refl _)
    refine OW.as 49 (.bool true) rfl (congrArg Value.bool (decide_eq_true (by decide))) ?_
    refine OW.val rfl rfl (EX.move rfl) ?_
    refine OW.call rfl rfl rfl (image_d hd6 ok4) ?_
    rintro _ _ ⟨rfl, rfl⟩
    refine OW.val rfl rfl (EX.move rfl) ?_
    refine OW.val rfl rfl (EX.eqlS rfl rfl) ?_
    refine OW.val rfl rfl (EX.pickT rfl rfl) ?_
    refine OW.val rfl rfl (EX.move rfl) ?_
    have e4 : G.now = E.now := by rw [nG, ← hE]
    refine OW.as 55 (.bool true) rfl (congrArg Value.bool (decide_eq_true (by exact e4))) ?_
    refine OW.call rfl rfl rfl (awake_s w6) ?_
    rintro _ w7 ⟨rfl, hx7⟩
    refine OW.val rfl rfl (EX.pickT rfl rfl) ?_
    refine OW.val rfl rfl (EX.assign rfl) ?_
    refine OW.nil ?_
    refine KW.ret (ret1 rfl rfl ?_)
    exact ⟨rfl, x6.trans hx7⟩
end Go.Proofs.Ytdjcgffhnakeeaa
