/-
  disk: the device's methods, whole.
-/
import Derived.Test.YtdjcgffhnakeeaaDskB
import Derived.Test.YtdjcgffhnakeeaaKg
namespace Go.Proofs.Ytdjcgffhnakeeaa
open Go.RowKit Dsk
set_option linter.unusedVariables false

def _root_.Go.Proofs.Ytdjcgffhnakeeaa.Dsk.Dv.write (D : Dv) (i : Int) (s : List UInt8) : Dv × Nat :=
  if D.dead then (D, 190) else if i < 0 ∨ (D.cap : Int) ≤ i then (D, 191) else if s.length ≠ 512 then (D, 2) else D.does (some (.write i.toNat s))
def _root_.Go.Proofs.Ytdjcgffhnakeeaa.Dsk.Dv.cut (D : Dv) (n : Int) : Dv × Nat :=
  if D.dead then (D, 190) else if n < 0 ∨ ((D.now.length / 512 : Nat) : Int) < n then (D, 191) else D.does (some (.cut n.toNat))
def _root_.Go.Proofs.Ytdjcgffhnakeeaa.Dsk.Dv.sync (D : Dv) : Dv × Nat := if D.dead then (D, 190) else D.does none
def _root_.Go.Proofs.Ytdjcgffhnakeeaa.Dsk.Dv.plan (D : Dv) (a : Int) (k : List Bool) : Dv × Nat :=
  if D.dead then (D, 190) else if a < 0 then (D, 2) else ({ D with at_ := a.toNat, keep := k }, 0)
theorem RetQ.of {P : Program} {f : FuncId} {args : List Value} {w : World} {v : Value} (h : Ret P f args w fun v' w' => v' = v ∧ w = w') : RetQ P f args w v :=
  h.mono fun _ _ ⟨h1, h2⟩ => ⟨h1, 0, by subst h2; rfl⟩
section
variable {w : World} {B b : Nat} {D : Dv}
theorem len_d (h : DevAt w B b D) (hD : D.Ok) : Ret Try.prog 12 [.pointer (some ⟨b, 0, none⟩)] w fun v w' => v = .int .i64 ((D.now.length / 512 : Nat) : Int) ∧ w = w' := by
  have h0 := h
  obtain ⟨vk, vn, vp, vq, vs, h⟩ := h
  have q1 := hD.now
  have q2 := hD.cap
  obtain ⟨A, c, rfl, hc, hsl⟩ := h.now.slice
  refine Ret.enter Try.func12 rfl Try.ntmps12 (by kernel_rfl) rfl ?_
  refine KW.seq (KW.region ?_)
  refine OW.val rfl rfl (EX.assign rfl) ?_
  refine OW.nil ?_
  refine KW.seq (KW.seq (KW.region ?_))
  refine OW.val rfl rfl (EX.move rfl) ?_
  refine OW.call rfl rfl rfl (none_d h0 hD) ?_
  rintro _ _ ⟨rfl, rfl⟩
  refine OW.nil ?_
  refine KW.condF rfl (KW.skip (KW.seq (KW.region ?_)))
  refine OW.val rfl rfl (EX.move rfl) ?_
  refine OW.val rfl rfl (EX.nilCheck rfl) ?_
  refine OW.val rfl rfl (EX.fieldAddr (off := 2) Try.underlying54 rfl rfl ti51 rfl rfl) ?_
  refine OW.val rfl rfl (EX.load Try.underlying51 rfl rfl (h.cells.cell_of rfl)) ?_
  refine OW.val rfl rfl (EX.lenA Try.underlying51 rfl) ?_
  refine OW.val rfl rfl (EX.quoN (b := 512) (m := 9223372036854775807) rfl rfl rfl (by omega)) ?_
  refine OW.val rfl rfl (EX.assign rfl) ?_
  refine OW.nil ?_
  refine KW.ret (ret1 rfl rfl ?_)
  exact ⟨rfl, rfl⟩
theorem image_d (h : DevAt w B b D) (hD : D.Ok) : Ret Try.prog 11 [.pointer (some ⟨b, 0, none⟩)] w fun v w' => v = str D.now ∧ w = w' := by
  have h0 := h
  obtain ⟨vk, vn, vp, vq, vs, h⟩ := h
  obtain ⟨A, c, rfl, hc, hsl⟩ := h.now.slice
  refine Ret.enter Try.func11 rfl Try.ntmps11 (by kernel_rfl) rfl ?_
  refine KW.seq (KW.region ?_)
  refine OW.val rfl rfl (EX.assign rfl) ?_
  refine OW.nil ?_
  refine KW.seq (KW.seq (KW.region ?_))
  refine OW.val rfl rfl (EX.move rfl) ?_
  refine OW.call rfl rfl rfl (none_d h0 hD) ?_
  rintro _ _ ⟨rfl, rfl⟩
  refine OW.nil ?_
  refine KW.condF rfl (KW.skip (KW.seq (KW.region ?_)))
  refine OW.val rfl rfl (EX.move rfl) ?_
  refine OW.val rfl rfl (EX.nilCheck rfl) ?_
  refine OW.val rfl rfl (EX.fieldAddr (off := 2) Try.underlying54 rfl rfl ti51 rfl rfl) ?_
  refine OW.val rfl rfl (EX.load Try.underlying51 rfl rfl (h.cells.cell_of rfl)) ?_
  refine OW.val rfl rfl (EX.strOf Try.underlying51 Try.underlying5 Try.underlying9 rfl (hsl) (rfl)) ?_
  refine OW.val rfl rfl (EX.assign rfl) ?_
  refine OW.nil ?_
  refine KW.ret (ret1 rfl rfl ?_)
  exact ⟨rfl, rfl⟩
theorem capacity_d (h : DevAt w B b D) (hD : D.Ok) : Ret Try.prog 13 [.pointer (some ⟨b, 0, none⟩)] w fun v w' => v = .int .i64 (D.cap : Int) ∧ w = w' := by
  have h0 := h
  obtain ⟨vk, vn, vp, vq, vs, h⟩ := h
  refine Ret.enter Try.func13 rfl Try.ntmps13 (by kernel_rfl) rfl ?_
  refine KW.seq (KW.region ?_)
  refine OW.val rfl rfl (EX.assign rfl) ?_
  refine OW.nil ?_
  refine KW.seq (KW.seq (KW.region ?_))
  refine OW.val rfl rfl (EX.move rfl) ?_
  refine OW.call rfl rfl rfl (none_d h0 hD) ?_
  rintro _ _ ⟨rfl, rfl⟩
  refine OW.nil ?_
  refine KW.condF rfl (KW.skip (KW.seq (KW.region ?_)))
  refine OW.val rfl rfl (EX.move rfl) ?_
  refine OW.val rfl rfl (EX.nilCheck rfl) ?_
  refine OW.val rfl rfl (EX.fieldAddr (off := 0) Try.underlying54 rfl rfl ti3 rfl rfl) ?_
  refine OW.val rfl rfl (EX.load Try.underlying3 rfl rfl (h.cells.cell_of rfl)) ?_
  refine OW.val rfl rfl (EX.assign rfl) ?_
  refine OW.nil ?_
  refine KW.ret (ret1 rfl rfl ?_)
  exact ⟨rfl, rfl⟩
theorem calls_d (h : DevAt w B b D) (hD : D.Ok) : Ret Try.prog 15 [.pointer (some ⟨b, 0, none⟩)] w fun v w' => v = .int .i64 (D.calls : Int) ∧ w = w' := by
  have h0 := h
  obtain ⟨vk, vn, vp, vq, vs, h⟩ := h
  refine Ret.enter Try.func15 rfl Try.ntmps15 (by kernel_rfl) rfl ?_
  refine KW.seq (KW.region ?_)
  refine OW.val rfl rfl (EX.assign rfl) ?_
  refine OW.nil ?_
  refine KW.seq (KW.seq (KW.region ?_))
  refine OW.val rfl rfl (EX.move rfl) ?_
  refine OW.call rfl rfl rfl (none_d h0 hD) ?_
  rintro _ _ ⟨rfl, rfl⟩
  refine OW.nil ?_
  refine KW.condF rfl (KW.skip (KW.seq (KW.region ?_)))
  refine OW.val rfl rfl (EX.move rfl) ?_
  refine OW.val rfl rfl (EX.nilCheck rfl) ?_
  refine OW.val rfl rfl (EX.fieldAddr (off := 7) Try.underlying54 rfl rfl ti3 rfl rfl) ?_
  refine OW.val rfl rfl (EX.load Try.underlying3 rfl rfl (h.cells.cell_of rfl)) ?_
  refine OW.val rfl rfl (EX.assign rfl) ?_
  refine OW.nil ?_
  refine KW.ret (ret1 rfl rfl ?_)
  exact ⟨rfl, rfl⟩
theorem dead_d (h : DevAt w B b D) (hD : D.Ok) : Ret Try.prog 14 [.pointer (some ⟨b, 0, none⟩)] w fun v w' => v = .bool D.dead ∧ w = w' := by
  have h0 := h
  obtain ⟨vk, vn, vp, vq, vs, h⟩ := h
  refine Ret.enter Try.func14 rfl Try.ntmps14 (by kernel_rfl) rfl ?_
  refine KW.seq (KW.region ?_)
  refine OW.val rfl rfl (EX.assign rfl) ?_
  refine OW.nil ?_
  refine KW.seq ?_
  refine KW.region ?_
  refine OW.val rfl rfl (EX.move rfl) ?_
  refine OW.call rfl rfl rfl (none_d h0 hD) ?_
  rintro _ _ ⟨rfl, rfl⟩
  refine OW.val rfl rfl (by first | exact EX.notD rfl | exact EX.notB rfl) ?_
  refine OW.val rfl rfl (EX.move rfl) ?_
  refine OW.val rfl rfl (EX.move rfl) ?_
  refine OW.val rfl rfl (EX.nilCheck rfl) ?_
  refine OW.val rfl rfl (EX.fieldAddr (off := 6) Try.underlying54 rfl rfl ti4 rfl rfl) ?_
  refine OW.val rfl rfl (EX.load Try.underlying4 rfl rfl (h.cells.cell_of rfl)) ?_
  refine OW.val rfl rfl (EX.pickT rfl rfl) ?_
  refine OW.val rfl rfl (EX.assign rfl) ?_
  refine OW.nil ?_
  refine KW.ret (ret1 rfl rfl ?_)
  exact ⟨rfl, rfl⟩
theorem up_d (h : DevAt w B b D) (hD : D.Ok) : Ret Try.prog 20 [.pointer (some ⟨b, 0, none⟩)] w fun v w' => v = .int .i64 0 ∧ DevAt w' B b { D with dead := false } ∧ Tm w w' B dty := by
  have h0 := h
  obtain ⟨vk, vn, vp, vq, vs, h⟩ := h
  refine Ret.enter Try.func20 rfl Try.ntmps20 (by kernel_rfl) rfl ?_
  refine KW.seq (KW.region ?_)
  refine OW.val rfl rfl (EX.assign rfl) ?_
  refine OW.nil ?_
  refine KW.seq (KW.seq (KW.region ?_))
  refine OW.val rfl rfl (EX.move rfl) ?_
  refine OW.call rfl rfl rfl (none_d h0 hD) ?_
  rintro _ _ ⟨rfl, rfl⟩
  refine OW.nil ?_
  refine KW.condF rfl (KW.skip (KW.seq (KW.region ?_)))
  refine OW.val rfl rfl (EX.move rfl) ?_
  refine OW.val rfl rfl (EX.nilCheck rfl) ?_
  refine OW.val rfl rfl (EX.fieldAddr (off := 6) Try.underlying54 rfl rfl ti4 rfl rfl) ?_
  refine OW.storeB rfl ti4 rfl rfl (by first | rfl | assumption | exact Own.one (by assumption)) (h.cells) (by simp) ?_
  rintro w2 hb2 hm2
  refine OW.nil ?_
  refine KW.seq (KW.region ?_)
  refine OW.val rfl rfl (EX.assign rfl) ?_
  refine OW.nil ?_
  refine KW.ret (ret1 rfl rfl ?_)
  exact ⟨rfl, ⟨_, _, _, _, _, Dev.after (D' := { D with dead := false }) h.lo h.cells hm2 hb2 h.kept h.now h.apart h.pend h.chs h.keep⟩, Dev.tmD h.lo h.cells hm2⟩
end
/-- what a method needs to know of the device's numbers -/
structure Small (D : Dv) : Prop where
  calls : D.calls ≤ 1000000
  pend : D.pend.length ≤ 1000000
  at_ : D.at_ ≤ 9223372036854775807
  keep : D.keep.length ≤ 140737488355328
section
variable {w : World} {B b : Nat} {D : Dv}
theorem sync_d (h : DevAt w B b D) (hD : D.Ok) (hs : Small D) : Ret Try.prog 17 [.pointer (some ⟨b, 0, none⟩)] w fun v w' => v = .int .i64 ((D.sync.2 : Nat) : Int) ∧ DevAt w' B b D.sync.1 ∧ Tm w w' B dty := by
  refine Ret.enter Try.func17 rfl Try.ntmps17 (by kernel_rfl) rfl ?_
  refine KW.seq (KW.region ?_)
  refine OW.val rfl rfl (EX.assign rfl) ?_
  refine OW.nil ?_
  refine KW.seq (KW.seq (KW.region ?_))
  refine OW.val rfl rfl (EX.move rfl) ?_
  refine OW.call rfl rfl rfl (alive_d h hD) ?_
  rintro _ _ ⟨rfl, rfl⟩
  refine OW.val rfl rfl (EX.assign rfl) ?_
  refine OW.nil ?_
  refine KW.seq (KW.region ?_)
  refine OW.val rfl rfl (EX.move rfl) ?_
  refine OW.val rfl rfl (by first | exact EX.neqN (b := 0) rfl rfl | exact EX.neqZ rfl rfl) ?_
  refine OW.nil ?_
  rcases hd : D.dead with _ | _
  · have e : D.sync = D.does none := by unfold Dv.sync; rw [hd]; rfl
    rw [if_neg (by simp)]
    refine KW.as 7 (.bool false) rfl (congrArg Value.bool (decide_eq_false (by decide))) ?_
    refine KW.condF rfl (KW.skip (KW.seq (KW.region ?_)))
    refine OW.val rfl rfl (EX.move rfl) ?_
    refine OW.call rfl rfl rfl (does_c h hD .nilFunc none (fun _ => rfl) (fun d q => by cases q) hs.calls hs.pend hs.at_ hs.keep) ?_
    rintro _ w' ⟨rfl, h1, h2⟩
    refine OW.val rfl rfl (EX.assign rfl) ?_
    refine OW.nil ?_
    refine KW.ret (ret1 rfl rfl ?_)
    rw [e]
    exact ⟨rfl, h1, h2⟩
  · have e : D.sync = (D, 190) := by unfold Dv.sync; rw [hd]; rfl
    rw [if_pos rfl]
    refine KW.as 7 (.bool true) rfl (congrArg Value.bool (decide_eq_true (by decide))) ?_
    refine KW.condT rfl (KW.seq (KW.region ?_))
    refine OW.val rfl rfl (EX.move rfl) ?_
    refine OW.val rfl rfl (EX.assign rfl) ?_
    refine OW.nil ?_
    refine KW.ret (ret1 rfl rfl ?_)
    rw [e]
    exact ⟨rfl, h, Tm.refl _ _ _⟩
theorem write_d (h : DevAt w B b D) (hD : D.Ok) (hs : Small D) (i : Int) (i0 : -9223372036854775808 ≤ i) (i1 : i ≤ 9223372036854775807) (s : List UInt8) (hsl : s.length ≤ 140737488355328) :
    Ret Try.prog 25 [.pointer (some ⟨b, 0, none⟩), .int .i64 i, str s] w fun v w' => v = .int .i64 (((D.write i s).2 : Nat) : Int) ∧ DevAt w' B b (D.write i s).1 ∧ Tm w w' B dty := by
  refine Ret.enter Try.func25 rfl Try.ntmps25 (by kernel_rfl) rfl ?_
  refine KW.seq (KW.region ?_)
  refine OW.boxB rfl rfl rfl rfl ?_
  rintro bi w1 hge1 hi1 hx1
  refine OW.boxB rfl rfl rfl rfl ?_
  rintro bs w2 hge2 hs2 hx2
  refine OW.val rfl rfl (EX.assign rfl) ?_
  refine OW.nil ?_
  refine KW.seq (KW.seq (KW.region ?_))
  refine OW.val rfl rfl (EX.move rfl) ?_
  have hi2 := hi1.ext hx2
  have h2 := h.ext (hx1.trans hx2)
  have t2 : Tm w w2 B dty := Tm.of_ext (hx1.trans hx2) B dty
  refine OW.call rfl rfl rfl (alive_d h2 hD) ?_
  rintro _ _ ⟨rfl, rfl⟩
  refine OW.val rfl rfl (EX.assign rfl) ?_
  refine OW.nil ?_
  refine KW.seq (KW.region ?_)
  refine OW.val rfl rfl (EX.move rfl) ?_
  refine OW.val rfl rfl (by first | exact EX.neqN (b := 0) rfl rfl | exact EX.neqZ rfl rfl) ?_
  refine OW.nil ?_
  rcases hd : D.dead with _ | _
  · rw [if_neg (by simp)]
    refine KW.as 11 (.bool false) rfl (congrArg Value.bool (decide_eq_false (by decide))) ?_
    refine KW.condF rfl (KW.skip (KW.seq (KW.seq ?_)))
    obtain ⟨vk, vn, vp, vq, vs, hv⟩ := id h2
    refine KW.regionQ (by kernel_rfl) (by kernel_rfl) ?_
    refine QW.val rfl rfl (fun _ => EX.load Try.underlying3 rfl rfl ((hi2.drewN _).cell_of rfl)) ?_
    refine QW.val rfl rfl (fun _ => by first | exact EX.lssN (b := 0) rfl rfl | exact EX.lssZ rfl rfl) ?_
    refine QW.val rfl rfl (fun _ => EX.move rfl) ?_
    refine QW.splitD 15 rfl (fun a1 => ?_) (fun a1 => ?_)
    · have e : D.write i s = (D, 191) := by unfold Dv.write; rw [hd, if_neg (by simp), if_pos (.inl a1)]
      refine QW.pass rfl rfl ?_
      refine QW.pass rfl rfl ?_
      refine QW.pass rfl rfl ?_
      refine QW.pass rfl rfl ?_
      refine QW.pass rfl rfl ?_
      refine QW.pass rfl rfl ?_
      refine QW.val rfl rfl (fun _ => EX.pickT rfl rfl) ?_
      refine QW.nil (fun nq => ?_)
      refine KW.condT rfl (KW.seq (KW.region ?_))
      refine OW.val rfl rfl (EX.assign rfl) ?_
      refine OW.nil ?_
      refine KW.ret (ret1 rfl rfl ?_)
      rw [e]
      exact ⟨rfl, h2.ext (Ext.drewN _ _), t2.trans (Tm.of_ext (Ext.drewN _ _) _ _)⟩
    · skip
      refine QW.val rfl rfl (fun _ => EX.load Try.underlying3 rfl rfl ((hi2.drewN _).cell_of rfl)) ?_
      refine QW.val rfl rfl (fun _ => EX.move rfl) ?_
      refine QW.val rfl rfl (fun _ => EX.nilCheck rfl) ?_
      refine QW.val rfl rfl (fun _ => EX.fieldAddr (off := 0) Try.underlying54 rfl rfl ti3 rfl rfl) ?_
      refine QW.val rfl rfl (fun _ => EX.load Try.underlying3 rfl rfl ((hv.cells.drewN _).cell_of rfl)) ?_
      refine QW.val rfl rfl (fun _ => by first | exact EX.geqN rfl rfl | exact EX.geqZ rfl rfl) ?_
      refine QW.val rfl rfl (fun _ => EX.pickF rfl rfl) ?_
      refine QW.nil (fun nq => ?_)
      refine KW.condD rfl (fun a2 => ?_) (fun a2 => ?_)
      · have e : D.write i s = (D, 191) := by unfold Dv.write; rw [hd, if_neg (by simp), if_pos (.inr a2)]
        refine KW.seq (KW.region ?_)
        refine OW.val rfl rfl (EX.assign rfl) ?_
        refine OW.nil ?_
        refine KW.ret (ret1 rfl rfl ?_)
        rw [e]
        exact ⟨rfl, h2.ext (Ext.drewN _ _), t2.trans (Tm.of_ext (Ext.drewN _ _) _ _)⟩
      · have hr : ¬ (i < 0 ∨ (D.cap : Int) ≤ i) := by omega
        have h3 := h2.ext (Ext.drewN w2 nq)
        have t3 : Tm w (w2.drewN nq) B dty := t2.trans (Tm.of_ext (Ext.drewN _ _) _ _)
        obtain ⟨j, rfl⟩ := Int.eq_ofNat_of_zero_le (show 0 ≤ i by omega)
        refine KW.skip (KW.seq (KW.seq (KW.region ?_)))
        refine OW.val rfl rfl (EX.load Try.underlying9 rfl rfl ((hs2.drewN _).cell_of rfl)) ?_
        refine OW.val rfl rfl (EX.lenS Try.underlying9 rfl) ?_
        refine OW.val rfl rfl (by first | exact EX.neqN (b := 512) rfl rfl | exact EX.neqZ rfl rfl) ?_
        refine OW.nil ?_
        refine KW.condD rfl (fun a3 => ?_) (fun a3 => ?_)
        · have e : D.write (j : Int) s = (D, 2) := by unfold Dv.write; rw [hd, if_neg (by simp), if_neg hr, if_pos a3]
          refine KW.seq (KW.region ?_)
          refine OW.val rfl rfl (EX.assign rfl) ?_
          refine OW.nil ?_
          refine KW.ret (ret1 rfl rfl ?_)
          rw [e]
          exact ⟨rfl, h3, t3⟩
        · have e : D.write (j : Int) s = D.does (some (.write j s)) := by unfold Dv.write; rw [hd, if_neg (by simp), if_neg hr, if_neg a3]; rfl
          refine KW.skip (KW.seq (KW.region ?_))
          refine OW.val rfl rfl (EX.move rfl) ?_
          refine OW.val rfl rfl (EX.makeFunc rfl rfl) ?_
          refine OW.call rfl rfl rfl (does_c h3 hD _ (some (.write j s)) (fun q => by cases q) (fun d q => by cases q; exact ⟨⟨bi, bs, rfl, hi2.drewN _, hs2.drewN _⟩, by omega, by omega⟩) hs.calls hs.pend hs.at_ hs.keep) ?_
          rintro _ w4 ⟨rfl, h4, t4⟩
          refine OW.val rfl rfl (EX.assign rfl) ?_
          refine OW.nil ?_
          refine KW.ret (ret1 rfl rfl ?_)
          rw [e]
          exact ⟨rfl, h4, t3.trans t4⟩
  · have e : D.write i s = (D, 190) := by unfold Dv.write; rw [hd]; rfl
    rw [if_pos rfl]
    refine KW.as 11 (.bool true) rfl (congrArg Value.bool (decide_eq_true (by decide))) ?_
    refine KW.condT rfl (KW.seq (KW.region ?_))
    refine OW.val rfl rfl (EX.move rfl) ?_
    refine OW.val rfl rfl (EX.assign rfl) ?_
    refine OW.nil ?_
    refine KW.ret (ret1 rfl rfl ?_)
    rw [e]
    exact ⟨rfl, h2, t2⟩
theorem cut_d (h : DevAt w B b D) (hD : D.Ok) (hs : Small D) (i : Int) (i0 : -9223372036854775808 ≤ i) (i1 : i ≤ 9223372036854775807) :
    Ret Try.prog 26 [.pointer (some ⟨b, 0, none⟩), .int .i64 i] w fun v w' => v = .int .i64 (((D.cut i).2 : Nat) : Int) ∧ DevAt w' B b (D.cut i).1 ∧ Tm w w' B dty := by
  have hnow := hD.now
  refine Ret.enter Try.func26 rfl Try.ntmps26 (by kernel_rfl) rfl ?_
  refine KW.seq (KW.region ?_)
  refine OW.boxB rfl rfl rfl rfl ?_
  rintro bi w2 hge1 hi2 hx1
  refine OW.val rfl rfl (EX.assign rfl) ?_
  refine OW.nil ?_
  refine KW.seq (KW.seq (KW.region ?_))
  refine OW.val rfl rfl (EX.move rfl) ?_
  have h2 := h.ext hx1
  have t2 : Tm w w2 B dty := Tm.of_ext hx1 B dty
  refine OW.call rfl rfl rfl (alive_d h2 hD) ?_
  rintro _ _ ⟨rfl, rfl⟩
  refine OW.val rfl rfl (EX.assign rfl) ?_
  refine OW.nil ?_
  refine KW.seq (KW.region ?_)
  refine OW.val rfl rfl (EX.move rfl) ?_
  refine OW.val rfl rfl (by first | exact EX.neqN (b := 0) rfl rfl | exact EX.neqZ rfl rfl) ?_
  refine OW.nil ?_
  rcases hd : D.dead with _ | _
  · rw [if_neg (by simp)]
    refine KW.as 9 (.bool false) rfl (congrArg Value.bool (decide_eq_false (by decide))) ?_
    refine KW.condF rfl (KW.skip (KW.seq (KW.seq ?_)))
    refine KW.regionQ (by kernel_rfl) (by kernel_rfl) ?_
    refine QW.val rfl rfl (fun _ => EX.load Try.underlying3 rfl rfl ((hi2.drewN _).cell_of rfl)) ?_
    refine QW.val rfl rfl (fun _ => by first | exact EX.lssN (b := 0) rfl rfl | exact EX.lssZ rfl rfl) ?_
    refine QW.val rfl rfl (fun _ => EX.move rfl) ?_
    refine QW.splitD 13 rfl (fun a1 => ?_) (fun a1 => ?_)
    · have e : D.cut i = (D, 191) := by unfold Dv.cut; rw [hd, if_neg (by simp), if_pos (.inl a1)]
      refine QW.pass rfl rfl ?_
      refine QW.pass rfl rfl ?_
      refine QW.pass rfl rfl ?_
      refine QW.pass rfl rfl ?_
      refine QW.val rfl rfl (fun _ => EX.pickT rfl rfl) ?_
      refine QW.nil (fun nq => ?_)
      refine KW.condT rfl (KW.seq (KW.region ?_))
      refine OW.val rfl rfl (EX.assign rfl) ?_
      refine OW.nil ?_
      refine KW.ret (ret1 rfl rfl ?_)
      rw [e]
      exact ⟨rfl, h2.ext (Ext.drewN _ _), t2.trans (Tm.of_ext (Ext.drewN _ _) _ _)⟩
    · skip
      refine QW.val rfl rfl (fun _ => EX.load Try.underlying3 rfl rfl ((hi2.drewN _).cell_of rfl)) ?_
      refine QW.val rfl rfl (fun _ => EX.move rfl) ?_
      refine QW.call rfl rfl rfl (fun _ => RetQ.of (len_d (h2.ext (Ext.drewN _ _)) hD)) ?_
      refine QW.val rfl rfl (fun _ => by first | exact EX.gtrN rfl rfl | exact EX.gtrZ rfl rfl) ?_
      refine QW.val rfl rfl (fun _ => EX.pickF rfl rfl) ?_
      refine QW.nil (fun nq => ?_)
      refine KW.condD rfl (fun a2 => ?_) (fun a2 => ?_)
      · have e : D.cut i = (D, 191) := by unfold Dv.cut; rw [hd, if_neg (by simp), if_pos (.inr a2)]
        refine KW.seq (KW.region ?_)
        refine OW.val rfl rfl (EX.assign rfl) ?_
        refine OW.nil ?_
        refine KW.ret (ret1 rfl rfl ?_)
        rw [e]
        exact ⟨rfl, h2.ext (Ext.drewN _ _), t2.trans (Tm.of_ext (Ext.drewN _ _) _ _)⟩
      · have hr : ¬ (i < 0 ∨ ((D.now.length / 512 : Nat) : Int) < i) := by omega
        have h3 := h2.ext (Ext.drewN w2 nq)
        have t3 : Tm w (w2.drewN nq) B dty := t2.trans (Tm.of_ext (Ext.drewN _ _) _ _)
        obtain ⟨j, rfl⟩ := Int.eq_ofNat_of_zero_le (show 0 ≤ i by omega)
        have e : D.cut (j : Int) = D.does (some (.cut j)) := by unfold Dv.cut; rw [hd, if_neg (by simp), if_neg hr]; rfl
        refine KW.skip (KW.seq (KW.region ?_))
        refine OW.val rfl rfl (EX.move rfl) ?_
        refine OW.val rfl rfl (EX.makeFunc rfl rfl) ?_
        refine OW.call rfl rfl rfl (does_c h3 hD _ (some (.cut j)) (fun q => by cases q) (fun d q => by cases q; exact ⟨⟨bi, rfl, hi2.drewN _⟩, (show j ≤ D.cap by omega)⟩) hs.calls hs.pend hs.at_ hs.keep) ?_
        rintro _ w4 ⟨rfl, h4, t4⟩
        refine OW.val rfl rfl (EX.assign rfl) ?_
        refine OW.nil ?_
        refine KW.ret (ret1 rfl rfl ?_)
        rw [e]
        exact ⟨rfl, h4, t3.trans t4⟩
  · have e : D.cut i = (D, 190) := by unfold Dv.cut; rw [hd]; rfl
    rw [if_pos rfl]
    refine KW.as 9 (.bool true) rfl (congrArg Value.bool (decide_eq_true (by decide))) ?_
    refine KW.condT rfl (KW.seq (KW.region ?_))
    refine OW.val rfl rfl (EX.move rfl) ?_
    refine OW.val rfl rfl (EX.assign rfl) ?_
    refine OW.nil ?_
    refine KW.ret (ret1 rfl rfl ?_)
    rw [e]
    exact ⟨rfl, h2, t2⟩
theorem plan_d (h : DevAt w B b D) (hD : D.Ok) (a : Int) (i0 : -9223372036854775808 ≤ a) (i1 : a ≤ 9223372036854775807) (A : Option Addr) (c C : Nat) (k : List Bool) (hsl : Sl w C A (boolsV k)) (hA : A = none → boolsV k = []) (hk : k.length ≤ 140737488351232) :
    Ret Try.prog 18 [.pointer (some ⟨b, 0, none⟩), .agg [.int .i64 a, .slice A k.length c].toArray] w fun v w' => v = .int .i64 (((D.plan a k).2 : Nat) : Int) ∧ DevAt w' B b (D.plan a k).1 ∧ Tm w w' B dty := by
  refine Ret.enter Try.func18 rfl Try.ntmps18 (by kernel_rfl) rfl ?_
  refine KW.seq (KW.region ?_)
  refine OW.boxS rfl rfl rfl ?_
  rintro bf w2 hge1 hf2 hx1
  refine OW.val rfl rfl (EX.assign rfl) ?_
  refine OW.nil ?_
  refine KW.seq (KW.seq (KW.region ?_))
  refine OW.val rfl rfl (EX.move rfl) ?_
  have h2 := h.ext hx1
  have t2 : Tm w w2 B dty := Tm.of_ext hx1 B dty
  refine OW.call rfl rfl rfl (alive_d h2 hD) ?_
  rintro _ _ ⟨rfl, rfl⟩
  refine OW.val rfl rfl (EX.assign rfl) ?_
  refine OW.nil ?_
  refine KW.seq (KW.region ?_)
  refine OW.val rfl rfl (EX.move rfl) ?_
  refine OW.val rfl rfl (by first | exact EX.neqN (b := 0) rfl rfl | exact EX.neqZ rfl rfl) ?_
  refine OW.nil ?_
  rcases hd : D.dead with _ | _
  · rw [if_neg (by simp)]
    refine KW.as 9 (.bool false) rfl (congrArg Value.bool (decide_eq_false (by decide))) ?_
    refine KW.condF rfl (KW.skip (KW.seq (KW.seq (KW.region ?_))))
    refine OW.val rfl rfl (EX.fieldAddr (off := 0) Try.underlying39 rfl rfl ti3 rfl rfl) ?_
    refine OW.val rfl rfl (EX.load Try.underlying3 rfl rfl (hf2.cell_of rfl)) ?_
    refine OW.val rfl rfl (by first | exact EX.lssN (b := 0) rfl rfl | exact EX.lssZ rfl rfl) ?_
    refine OW.nil ?_
    refine KW.condD rfl (fun a1 => ?_) (fun a1 => ?_)
    · have e : D.plan a k = (D, 2) := by unfold Dv.plan; rw [hd, if_neg (by simp), if_pos a1]
      refine KW.seq (KW.region ?_)
      refine OW.val rfl rfl (EX.assign rfl) ?_
      refine OW.nil ?_
      refine KW.ret (ret1 rfl rfl ?_)
      rw [e]
      exact ⟨rfl, h2, t2⟩
    · obtain ⟨j, rfl⟩ := Int.eq_ofNat_of_zero_le (show 0 ≤ a by omega)
      have e : D.plan (j : Int) k = ({ D with at_ := j, keep := k }, 0) := by unfold Dv.plan; rw [hd, if_neg (by simp), if_neg a1]; rfl
      have h3 := h2.ext (Ext.drew w2)
      have t3 : Tm w w2.drew B dty := t2.trans (Tm.of_ext (Ext.drew _) _ _)
      obtain ⟨vk, vn, vp, vq, vs, hv⟩ := id h3
      have hclone := cloneT_c A c (boolsV k) _ w2.drew ((hsl.ext hx1).ext (Ext.drew w2)) hA (boolsV_one k) (by rw [boolsV_length]; omega)
      rw [boolsV_length] at hclone
      refine KW.skip (KW.seq ?_)
      refine KW.regionG (N := 10) (fun w' => Bk w' bf 39 [.int .i64 (j : Int), .slice A k.length c]) (by kernel_rfl) rfl ?_
      have hS := hf2.drew
      refine GW.val 0 rfl (by kernel_rfl) (by kernel_rfl) (by kernel_rfl) rfl rfl hS (fun w' hS' => EX.move rfl) ?_
      refine GW.val 1 rfl (by kernel_rfl) (by kernel_rfl) (by kernel_rfl) rfl rfl hS (fun w' hS' => EX.fieldAddr (off := 0) Try.underlying39 rfl rfl ti3 rfl rfl) ?_
      refine GW.val 2 rfl (by kernel_rfl) (by kernel_rfl) (by kernel_rfl) rfl rfl hS (fun w' hS' => EX.load Try.underlying3 rfl rfl (hS'.cell_of rfl)) ?_
      refine GW.val 3 rfl (by kernel_rfl) (by kernel_rfl) (by kernel_rfl) rfl rfl hS (fun w' hS' => EX.fieldAddr (off := 1) Try.underlying39 rfl rfl ti34 rfl rfl) ?_
      refine GW.val 4 rfl (by kernel_rfl) (by kernel_rfl) (by kernel_rfl) rfl rfl hS (fun w' hS' => EX.load Try.underlying34 rfl rfl (hS'.cell_of rfl)) ?_
      refine GW.call 5 rfl (by kernel_rfl) rfl rfl rfl (hclone) ?_
      rintro v7 w7 ⟨hown7, hx7⟩
      refine ⟨hS.ext hx7, fun hS => ?_⟩
      refine GW.val 6 rfl (by kernel_rfl) (by kernel_rfl) (by kernel_rfl) rfl rfl hS (fun w' hS' => EX.buildS (pl := [(0, 1), (1, 1)]) (ks := [0, 1]) (is := [0, 1]) (zs := [.int .i64 0, .slice none 0 0]) Try.underlying39 ti39 (by kernel_rfl) rfl rfl rfl (by first | rfl | (simp only [List.all_cons, List.all_nil, Bool.and_true, Bool.true_and, Bool.and_eq_true, Value.oneCell']; repeat (first | assumption | exact Own.one (by assumption) | constructor))) (by simp only [setAll, List.set_cons_zero, List.set_cons_succ]; rfl)) ?_
      refine GW.val 7 rfl (by kernel_rfl) (by kernel_rfl) (by kernel_rfl) rfl rfl hS (fun w' hS' => EX.nilCheck rfl) ?_
      refine GW.val 8 rfl (by kernel_rfl) (by kernel_rfl) (by kernel_rfl) rfl rfl hS (fun w' hS' => EX.fieldAddr (off := 4) Try.underlying54 rfl rfl ti39 rfl rfl) ?_
      have hd7 := hv.ext hx7
      refine GW.storeS 9 rfl (by kernel_rfl) rfl ti39 rfl rfl rfl (by first | rfl | (simp only [List.all_cons, List.all_nil, Bool.and_true, Bool.true_and, Bool.and_eq_true, Value.oneCell']; repeat (first | assumption | exact Own.one (by assumption) | constructor))) (hd7.cells) (by simp) ?_
      rintro w8 hb8 hm8
      refine ⟨hS.mo hm8 (by simp; exact (hd7.cells.ne hS (by decide)).symm), fun hS => ?_⟩
      refine GW.done (by kernel_rfl) ?_
      refine KW.seq (KW.region ?_)
      refine OW.val rfl rfl (EX.assign rfl) ?_
      refine OW.nil ?_
      refine KW.ret (ret1 rfl rfl ?_)
      rw [e]
      refine ⟨rfl, ⟨_, _, _, _, _, Dev.after (D' := { D with at_ := j, keep := k }) hv.lo hd7.cells hm8 hb8 hd7.kept hd7.now hd7.apart hd7.pend hd7.chs (hown7.base (fun q hq => by have q1 := (hown7.lt q hq).1; have q2 := hv.cells.lt; have q3 := hv.lo; omega))⟩, ?_⟩
      exact (t3.trans (Tm.of_ext hx7 B dty)).trans (Dev.tmD hv.lo hd7.cells hm8)
  · have e : D.plan a k = (D, 190) := by unfold Dv.plan; rw [hd]; rfl
    rw [if_pos rfl]
    refine KW.as 9 (.bool true) rfl (congrArg Value.bool (decide_eq_true (by decide))) ?_
    refine KW.condT rfl (KW.seq (KW.region ?_))
    refine OW.val rfl rfl (EX.move rfl) ?_
    refine OW.val rfl rfl (EX.assign rfl) ?_
    refine OW.nil ?_
    refine KW.ret (ret1 rfl rfl ?_)
    rw [e]
    exact ⟨rfl, h2, t2⟩
end
end Go.Proofs.Ytdjcgffhnakeeaa
