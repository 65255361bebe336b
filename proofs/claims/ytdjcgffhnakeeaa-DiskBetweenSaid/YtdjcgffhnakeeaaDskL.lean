/-
  disk: a device behind acts that are no falls, in memory.
-/
import Derived.Test.YtdjcgffhnakeeaaDskJ
namespace Go.Proofs.Ytdjcgffhnakeeaa
open Go.RowKit Dsk
set_option linter.unusedVariables false

theorem changed_s (c : Int) (c0 : -9223372036854775808 ≤ c) (c1 : c ≤ 9223372036854775807) (acts : List Ac) (hok : ∀ a ∈ acts, a.Ok) (A : Option Addr) (k C : Nat) (w : World) (hsl : Sl w C A (actsV acts)) :
    Ret Try.prog 16 [.int .i64 c, .slice A acts.length k] w fun v w' => Ext w w' ∧ (v = .pointer none ∨ ∃ b, v = .pointer (some ⟨b, 0, none⟩) ∧ acts.length ≤ 60 ∧ may c [] ∧ c ≤ 40 ∧ DevAt w' w.heap.size b ((fresh c.toNat []).acts acts) ∧ ((fresh c.toNat []).acts acts).Ok ∧ ((fresh c.toNat []).acts acts).calls ≤ 60 ∧ ((fresh c.toNat []).acts acts).pend.length ≤ 60 ∧ ((fresh c.toNat []).acts acts).at_ = 0 ∧ ((fresh c.toNat []).acts acts).keep = []) := by
  refine Ret.enter Try.func16 rfl Try.ntmps16 (by kernel_rfl) rfl ?_
  refine KW.seq (KW.region ?_)
  refine OW.val rfl rfl (EX.assign rfl) ?_
  refine OW.nil ?_
  refine KW.seq (KW.region ?_)
  refine OW.val rfl rfl (EX.move rfl) ?_
  refine OW.call rfl rfl rfl (new_s c c0 c1 w) ?_
  rintro _ w1 ⟨p, e, rfl, hx1, hor⟩
  refine OW.val rfl rfl (EX.move rfl) ?_
  refine OW.val rfl rfl (EX.extract rfl rfl) ?_
  refine OW.val rfl rfl (EX.extract rfl rfl) ?_
  refine OW.val rfl rfl (EX.assign rfl) ?_
  refine OW.val rfl rfl (EX.assign rfl) ?_
  refine OW.nil ?_
  refine KW.seq (KW.seq ?_)
  rcases hor with ⟨hm, rfl, rfl⟩ | ⟨hm, b, rfl, rfl, hd1⟩
  · refine KW.region ?_
    refine OW.val rfl rfl (EX.move rfl) ?_
    refine OW.val rfl rfl (by first | exact EX.neqN (b := 0) rfl rfl | exact EX.neqZ rfl rfl) ?_
    refine OW.val rfl rfl (EX.move rfl) ?_
    refine OW.as 15 (.bool true) rfl (congrArg Value.bool (decide_eq_true (by decide))) ?_
    refine OW.pass rfl rfl ?_
    refine OW.pass rfl rfl ?_
    refine OW.val rfl rfl (EX.pickT rfl rfl) ?_
    refine OW.val rfl rfl (EX.move rfl) ?_
    refine OW.pass rfl rfl ?_
    refine OW.pass rfl rfl ?_
    refine OW.pass rfl rfl ?_
    refine OW.pass rfl rfl ?_
    refine OW.val rfl rfl (EX.pickT rfl rfl) ?_
    refine OW.nil ?_
    refine KW.condT rfl (KW.seq (KW.region ?_))
    refine OW.val rfl rfl (EX.assign rfl) ?_
    refine OW.nil ?_
    refine KW.ret (ret1 rfl rfl ?_)
    exact ⟨hx1, .inl rfl⟩
  · refine KW.region ?_
    refine OW.val rfl rfl (EX.move rfl) ?_
    refine OW.val rfl rfl (by first | exact EX.neqN (b := 0) rfl rfl | exact EX.neqZ rfl rfl) ?_
    refine OW.val rfl rfl (EX.move rfl) ?_
    refine OW.as 15 (.bool false) rfl (congrArg Value.bool (decide_eq_false (by decide))) ?_
    refine OW.val rfl rfl (EX.move rfl) ?_
    refine OW.val rfl rfl (by first | exact EX.eqlP1 Try.underlying23 rfl rfl | exact EX.eqlP0 Try.underlying23 rfl rfl) ?_
    refine OW.val rfl rfl (EX.pickF rfl rfl) ?_
    refine OW.val rfl rfl (EX.move rfl) ?_
    refine OW.val rfl rfl (EX.move rfl) ?_
    refine OW.val rfl rfl (EX.move rfl) ?_
    refine OW.call rfl rfl rfl (few_s c A acts.length k w1) ?_
    rintro _ _ ⟨rfl, rfl⟩
    refine OW.val rfl rfl (by first | exact EX.notD rfl | exact EX.notB rfl) ?_
    refine OW.val rfl rfl (EX.pickF rfl rfl) ?_
    refine OW.nil ?_
    refine KW.condD rfl (fun hf => ?_) (fun hf => ?_)
    · refine KW.seq (KW.region ?_)
      refine OW.val rfl rfl (EX.assign rfl) ?_
      refine OW.nil ?_
      refine KW.ret (ret1 rfl rfl ?_)
      exact ⟨hx1, .inl rfl⟩
    · have hfew : acts.length ≤ 60 ∧ (c < 1 ∨ 4096 < c ∨ c ≤ 40) := by simp at hf; omega
      have hm1 := hm.1
      have hm2 := hm.2.1
      have hok0 : (fresh c.toNat []).Ok := fresh_ok (by omega) (by simp) (by simp)
      refine KW.skip (KW.seq (KW.seq (KW.region ?_)))
      refine OW.val rfl rfl (EX.assign rfl) ?_
      refine OW.nil ?_
      refine KW.block ?_
      refine KW.loop3 (fun (i : Nat) (D : Dv) (wr : World) => i ≤ acts.length ∧ D = (fresh c.toNat []).acts (acts.take i) ∧ D.Ok ∧ (D.calls ≤ i ∧ D.pend.length ≤ i ∧ D.at_ ≤ 0 ∧ D.keep.length ≤ 0) ∧ DevAt wr w.heap.size b D ∧ Ext w wr) (fun (i : Nat) (D : Dv) (wr : World) => [(1, .slice A acts.length k), (5, .pointer (some ⟨b, 0, none⟩)), (7, .int .i64 ((i : Nat) : Int))]) (fun (i : Nat) (D : Dv) (wr : World) => wr) (fun (i : Nat) (D : Dv) (wr : World) => acts.length - i) (0) (fresh c.toNat []) (w1) ⟨rfl, rfl, rfl, trivial⟩ rfl ?_ ?_
      · exact ⟨by omega, by simp [Dv.acts], hok0, ⟨by simp [fresh], by simp [fresh], by simp [fresh], by simp [fresh]⟩, hd1, hx1⟩
      · rintro i D wr ⟨hi, hD, hDok, ⟨s1, s2, s3, s4⟩, hd, hx⟩
        refine KW.seq (KW.seq (KW.region ?_))
        refine OW.val rfl rfl (EX.move rfl) ?_
        refine OW.val rfl rfl (EX.move rfl) ?_
        refine OW.val rfl rfl (EX.lenA Try.underlying33 rfl) ?_
        refine OW.val rfl rfl (by first | exact EX.lssN rfl rfl | exact EX.lssZ rfl rfl) ?_
        refine OW.nil ?_
        refine KW.condD rfl (fun hi2 => ?_) (fun hi2 => ?_)
        · have hsm : Small D := ⟨by omega, by omega, by omega, by omega⟩
          obtain ⟨ba, o, rfl, _, hcell⟩ := acts_cell (hsl.ext hx) hi2
          have htk : acts.take (i + 1) = acts.take i ++ [acts[i]] := by rw [List.take_add_one, List.getElem?_eq_getElem hi2]; rfl
          have hsn := acts_snoc (acts.take i) acts[i] (fresh c.toNat [])
          rw [← htk, ← hD] at hsn
          refine KW.skip (KW.seq (KW.block (KW.seq (KW.region ?_))))
          refine OW.val rfl rfl (EX.move rfl) ?_
          refine OW.val rfl rfl (EX.move rfl) ?_
          refine OW.val rfl rfl (EX.indexAddrS Try.underlying33 ti44 rfl rfl (by omega)) ?_
          refine OW.val rfl rfl (EX.fieldAddr (off := 0) Try.underlying44 rfl rfl ti3 rfl rfl) ?_
          refine OW.val rfl rfl (EX.load Try.underlying3 rfl rfl (hcell 0 _ rfl)) ?_
          refine OW.val rfl rfl (by first | exact EX.neqN (b := 4) rfl rfl | exact EX.neqZ rfl rfl) ?_
          refine OW.val rfl rfl (EX.move rfl) ?_
          refine OW.splitD 37 rfl (fun k4 => ?_) (fun k4 => ?_)
          · refine OW.val rfl rfl (EX.move rfl) ?_
            refine OW.val rfl rfl (EX.move rfl) ?_
            refine OW.val rfl rfl (EX.indexAddrS Try.underlying33 ti44 rfl rfl (by omega)) ?_
            refine OW.val rfl rfl (EX.fieldAddr (off := 0) Try.underlying44 rfl rfl ti3 rfl rfl) ?_
            refine OW.val rfl rfl (EX.load Try.underlying3 rfl rfl (hcell 0 _ rfl)) ?_
            refine OW.val rfl rfl (by first | exact EX.neqN (b := 5) rfl rfl | exact EX.neqZ rfl rfl) ?_
            refine OW.val rfl rfl (EX.pickT rfl rfl) ?_
            refine OW.nil ?_
            refine KW.condD rfl (fun k5 => ?_) (fun k5 => ?_)
            · rw [if_pos ⟨k4, k5⟩] at hsn
              refine KW.region ?_
              refine OW.val rfl rfl (EX.move rfl) ?_
              refine OW.val rfl rfl (EX.move rfl) ?_
              refine OW.val rfl rfl (EX.move rfl) ?_
              refine OW.val rfl rfl (EX.indexAddrS Try.underlying33 ti44 rfl rfl (by omega)) ?_
              refine OW.val rfl rfl (EX.loadA (l := (acts[i]).cells) Try.underlying44 rfl ti44 rfl rfl hcell) ?_
              refine OW.call rfl rfl rfl (act_d hd hDok hsm (acts[i]) (hok _ (List.getElem_mem hi2)) k4 k5) ?_
              rintro _ w2 ⟨rfl, hd2, t2⟩
              refine OW.nil ?_
              refine KW.leave (KW.region ?_)
              refine OW.val rfl rfl (EX.move rfl) ?_
              refine OW.val rfl rfl (by first | exact EX.addN (b := 1) (m := 9223372036854775807) rfl rfl rfl (by omega) | exact EX.addZ (m := 9223372036854775807) rfl rfl rfl rfl (by omega)) ?_
              refine OW.val rfl rfl (EX.assign rfl) ?_
              refine OW.nil ?_
              refine KW.back3 (i + 1) ((D.act acts[i]).1) (w2) ⟨rfl, rfl, rfl, trivial⟩ rfl ?_ (by omega)
              obtain ⟨g1, g2, g3, g4, _⟩ := act_grew D acts[i]
              exact ⟨by omega, hsn.symm, act_ok hDok _, ⟨by omega, by omega, by omega, by omega⟩, hd2, t2.below hx hx.size (Nat.le_refl _)⟩
            · rw [if_neg (fun q => k5 q.2)] at hsn
              refine KW.skip (KW.leave (KW.region ?_))
              refine OW.val rfl rfl (EX.move rfl) ?_
              refine OW.val rfl rfl (by first | exact EX.addN (b := 1) (m := 9223372036854775807) rfl rfl rfl (by omega) | exact EX.addZ (m := 9223372036854775807) rfl rfl rfl rfl (by omega)) ?_
              refine OW.val rfl rfl (EX.assign rfl) ?_
              refine OW.nil ?_
              refine KW.back3 (i + 1) (D) (wr) ⟨rfl, rfl, rfl, trivial⟩ rfl ?_ (by omega)
              exact ⟨by omega, hsn.symm, hDok, ⟨by omega, by omega, s3, s4⟩, hd, hx⟩
          · rw [if_neg (fun q => k4 q.1)] at hsn
            refine OW.pass rfl rfl ?_
            refine OW.pass rfl rfl ?_
            refine OW.pass rfl rfl ?_
            refine OW.pass rfl rfl ?_
            refine OW.pass rfl rfl ?_
            refine OW.pass rfl rfl ?_
            refine OW.val rfl rfl (EX.pickF rfl rfl) ?_
            refine OW.nil ?_
            refine KW.condF rfl (KW.skip (KW.leave (KW.region ?_)))
            refine OW.val rfl rfl (EX.move rfl) ?_
            refine OW.val rfl rfl (by first | exact EX.addN (b := 1) (m := 9223372036854775807) rfl rfl rfl (by omega) | exact EX.addZ (m := 9223372036854775807) rfl rfl rfl rfl (by omega)) ?_
            refine OW.val rfl rfl (EX.assign rfl) ?_
            refine OW.nil ?_
            refine KW.back3 (i + 1) (D) (wr) ⟨rfl, rfl, rfl, trivial⟩ rfl ?_ (by omega)
            exact ⟨by omega, hsn.symm, hDok, ⟨by omega, by omega, s3, s4⟩, hd, hx⟩
        · obtain rfl : i = acts.length := by omega
          rw [List.take_length] at hD
          refine KW.exit rfl (KW.seq (KW.region ?_))
          refine OW.val rfl rfl (EX.move rfl) ?_
          refine OW.val rfl rfl (EX.assign rfl) ?_
          refine OW.nil ?_
          refine KW.ret (ret1 rfl rfl ?_)
          subst hD
          exact ⟨hx, .inr ⟨b, rfl, hfew.1, hm, by omega, hd, hDok, by omega, by omega, by omega, List.eq_nil_of_length_eq_zero (by omega)⟩⟩
end Go.Proofs.Ytdjcgffhnakeeaa
