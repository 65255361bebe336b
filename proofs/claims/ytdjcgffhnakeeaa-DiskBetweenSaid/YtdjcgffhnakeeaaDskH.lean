/-
  disk: sectors are read; acts.
-/
import Derived.Test.YtdjcgffhnakeeaaDskE
namespace Go.Proofs.Ytdjcgffhnakeeaa
open Go.RowKit Dsk
set_option linter.unusedVariables false

def _root_.Go.Proofs.Ytdjcgffhnakeeaa.Dsk.Dv.read (D : Dv) (i : Int) : Dv × List UInt8 × Nat :=
  if D.dead then (D, [], 190) else if i < 0 ∨ ((D.now.length / 512 : Nat) : Int) ≤ i then (D, [], 191) else ({ D with calls := D.calls + 1 }, (D.now.drop (i.toNat * 512)).take 512, 0)
theorem bytesV_drop_take (l : List UInt8) (i j : Nat) : ((bytesV l).drop i).take j = bytesV ((l.drop i).take j) := by simp [bytesV, List.map_take, List.map_drop]
section
variable {w : World} {B b : Nat} {D : Dv}
set_option maxRecDepth 20000 in
theorem read_d (h : DevAt w B b D) (hD : D.Ok) (hs : Small D) (i : Int) (i0 : -9223372036854775808 ≤ i) (i1 : i ≤ 9223372036854775807) :
    Ret Try.prog 19 [.pointer (some ⟨b, 0, none⟩), .int .i64 i] w fun v w' => v = .tuple #[str (D.read i).2.1, .int .i64 (((D.read i).2.2 : Nat) : Int)] ∧ DevAt w' B b (D.read i).1 ∧ Tm w w' B dty := by
  have q1 := hD.now
  have q2 := hD.cap
  have q3 := hs.calls
  refine Ret.enter Try.func19 rfl Try.ntmps19 (by kernel_rfl) rfl ?_
  refine KW.seq (KW.region ?_)
  refine OW.val rfl rfl (EX.assign rfl) ?_
  refine OW.val rfl rfl (EX.assign rfl) ?_
  refine OW.nil ?_
  refine KW.seq (KW.seq (KW.region ?_))
  refine OW.val rfl rfl (EX.move rfl) ?_
  refine OW.call rfl rfl rfl (alive_d h hD) ?_
  rintro _ _ ⟨rfl, rfl⟩
  refine OW.val rfl rfl (EX.assign rfl) ?_
  refine OW.nil ?_
  refine KW.seq (KW.region ?_)
  refine OW.val rfl rfl (EX.move rfl) ?_
  refine OW.val rfl rfl (by first | exact EX.neqN (b := 0) rfl rfl | exact EX.neqZ rfl rfl) ?_
  refine OW.nil ?_
  rcases hd : D.dead with _ | _
  · rw [if_neg (by simp)]
    refine KW.as 10 (.bool false) rfl (congrArg Value.bool (decide_eq_false (by decide))) ?_
    refine KW.condF rfl (KW.skip (KW.seq (KW.seq ?_)))
    refine KW.region ?_
    refine OW.val rfl rfl (EX.move rfl) ?_
    refine OW.val rfl rfl (by first | exact EX.lssN (b := 0) rfl rfl | exact EX.lssZ rfl rfl) ?_
    refine OW.val rfl rfl (EX.move rfl) ?_
    refine OW.splitD 14 rfl (fun a1 => ?_) (fun a1 => ?_)
    · have e : D.read i = (D, [], 191) := by unfold Dv.read; rw [hd, if_neg (by simp), if_pos (.inl a1)]
      refine OW.pass rfl rfl ?_
      refine OW.pass rfl rfl ?_
      refine OW.pass rfl rfl ?_
      refine OW.pass rfl rfl ?_
      refine OW.val rfl rfl (EX.pickT rfl rfl) ?_
      refine OW.nil ?_
      refine KW.condT rfl (KW.seq (KW.region ?_))
      refine OW.val rfl rfl (EX.assign rfl) ?_
      refine OW.val rfl rfl (EX.assign rfl) ?_
      refine OW.nil ?_
      refine KW.ret (ret2 rfl rfl rfl ?_)
      rw [e]
      exact ⟨rfl, h, Tm.refl _ _ _⟩
    · refine OW.val rfl rfl (EX.move rfl) ?_
      refine OW.val rfl rfl (EX.move rfl) ?_
      refine OW.call rfl rfl rfl (len_d h hD) ?_
      rintro _ _ ⟨rfl, rfl⟩
      refine OW.val rfl rfl (by first | exact EX.geqN rfl rfl | exact EX.geqZ rfl rfl) ?_
      refine OW.val rfl rfl (EX.pickF rfl rfl) ?_
      refine OW.nil ?_
      refine KW.condD rfl (fun a2 => ?_) (fun a2 => ?_)
      · have e : D.read i = (D, [], 191) := by unfold Dv.read; rw [hd, if_neg (by simp), if_pos (.inr a2)]
        refine KW.seq (KW.region ?_)
        refine OW.val rfl rfl (EX.assign rfl) ?_
        refine OW.val rfl rfl (EX.assign rfl) ?_
        refine OW.nil ?_
        refine KW.ret (ret2 rfl rfl rfl ?_)
        rw [e]
        exact ⟨rfl, h, Tm.refl _ _ _⟩
      · obtain ⟨j, rfl⟩ := Int.eq_ofNat_of_zero_le (show 0 ≤ i by omega)
        have hj : (j + 1) * 512 ≤ D.now.length := by omega
        have e : D.read (j : Int) = ({ D with calls := D.calls + 1 }, (D.now.drop (j * 512)).take 512, 0) := by unfold Dv.read; rw [hd, if_neg (by simp), if_neg (by omega)]; rfl
        obtain ⟨vk, vn, vp, vq, vs, hv⟩ := id h
        obtain ⟨An, cn, rfl, hcn, hsln⟩ := hv.now.slice
        refine KW.skip (KW.seq (KW.region ?_))
        refine OW.val rfl rfl (EX.move rfl) ?_
        refine OW.val rfl rfl (EX.nilCheck rfl) ?_
        refine OW.val rfl rfl (EX.fieldAddr (off := 7) Try.underlying54 rfl rfl ti3 rfl rfl) ?_
        refine OW.val rfl rfl (EX.load Try.underlying3 rfl rfl (hv.cells.cell_of rfl)) ?_
        refine OW.val rfl rfl (by first | exact EX.addN (b := 1) (m := 9223372036854775807) rfl rfl rfl (by omega) | exact EX.addZ (m := 9223372036854775807) rfl rfl rfl rfl (by omega)) ?_
        refine OW.val rfl rfl (EX.nilCheck rfl) ?_
        refine OW.val rfl rfl (EX.fieldAddr (off := 7) Try.underlying54 rfl rfl ti3 rfl rfl) ?_
        refine OW.storeB rfl ti3 rfl rfl (by first | rfl | assumption | exact Own.one (by assumption)) (hv.cells) (by simp) ?_
        rintro w2 hb2 hm2
        refine OW.nil ?_
        refine KW.seq (KW.region ?_)
        refine OW.val rfl rfl (EX.move rfl) ?_
        refine OW.val rfl rfl (EX.nilCheck rfl) ?_
        refine OW.val rfl rfl (EX.fieldAddr (off := 2) Try.underlying54 rfl rfl ti51 rfl rfl) ?_
        have hv2 := Dev.after (D' := { D with calls := D.calls + 1 }) hv.lo hv.cells hm2 hb2 hv.kept hv.now hv.apart hv.pend hv.chs hv.keep
        obtain ⟨A2, c2, e2, hc2, hsl2⟩ := hv2.now.slice
        simp only [Value.slice.injEq, true_and] at e2
        obtain ⟨rfl, rfl⟩ := e2
        dsimp only at hc2 hsl2
        refine OW.val rfl rfl (EX.load Try.underlying51 rfl rfl (hv2.cells.cell_of rfl)) ?_
        refine OW.val rfl rfl (EX.move rfl) ?_
        refine OW.val rfl rfl (by first | exact EX.mulN (b := 512) (m := 9223372036854775807) rfl rfl rfl (by omega) | exact EX.mulZ (m := 9223372036854775807) rfl rfl rfl rfl (by omega)) ?_
        refine OW.val rfl rfl (EX.move rfl) ?_
        refine OW.val rfl rfl (by first | exact EX.addN (b := 1) (m := 9223372036854775807) rfl rfl rfl (by omega) | exact EX.addZ (m := 9223372036854775807) rfl rfl rfl rfl (by omega)) ?_
        refine OW.val rfl rfl (by first | exact EX.mulN (b := 512) (m := 9223372036854775807) rfl rfl rfl (by omega) | exact EX.mulZ (m := 9223372036854775807) rfl rfl rfl rfl (by omega)) ?_
        refine OW.sliceALH rfl rfl Try.underlying51 ti5 rfl rfl rfl (by omega) (hsl2) (bytesV_length _) ?_
        rintro A3 hsl3
        rw [bytesV_drop_take] at hsl3
        have hsub : (j + 1) * 512 - j * 512 = 512 := by omega
        have hlen : ((D.now.drop (j * 512)).take ((j + 1) * 512 - j * 512)).length = (j + 1) * 512 - j * 512 := by rw [List.length_take, List.length_drop]; omega
        refine OW.val rfl rfl (EX.strOf Try.underlying51 Try.underlying5 Try.underlying9 rfl (hsl3) (hlen)) ?_
        refine OW.val rfl rfl (EX.assign rfl) ?_
        refine OW.val rfl rfl (EX.assign rfl) ?_
        refine OW.nil ?_
        refine KW.ret (ret2 rfl rfl rfl ?_)
        rw [e]
        refine ⟨?_, ⟨_, _, _, _, _, hv2⟩, Dev.tmD hv.lo hv.cells hm2⟩
        rw [hsub]
        rfl
  · have e : D.read i = (D, [], 190) := by unfold Dv.read; rw [hd]; rfl
    rw [if_pos rfl]
    refine KW.as 10 (.bool true) rfl (congrArg Value.bool (decide_eq_true (by decide))) ?_
    refine KW.condT rfl (KW.seq (KW.region ?_))
    refine OW.val rfl rfl (EX.move rfl) ?_
    refine OW.val rfl rfl (EX.assign rfl) ?_
    refine OW.val rfl rfl (EX.assign rfl) ?_
    refine OW.nil ?_
    refine KW.ret (ret2 rfl rfl rfl ?_)
    rw [e]
    exact ⟨rfl, h, Tm.refl _ _ _⟩
end
end Go.Proofs.Ytdjcgffhnakeeaa
