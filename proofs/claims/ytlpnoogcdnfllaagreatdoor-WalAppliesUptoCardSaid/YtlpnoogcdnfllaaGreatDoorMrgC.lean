/-
  What the statements rest on, part 3 of 4: many small texts, one behind the other.
-/
import Derived.Test.YtlpnoogcdnfllaaGreatDoorMrgB
import Derived.Scope
import Derived.Lib.Bytealg
import Derived.Lib.Split
import Derived.Lib.SplitLaws
import Derived.Lib.IndexBytes
import Derived.Lib.IndexLaws
import Derived.Lib.CountLaws
import Derived.Maps.RangeRun
import Derived.Carry
import Derived.MapKept
import Derived.ChangeMaps4
import Derived.Shelf.SlSortCmp.NoneTotal
import Derived.Sort.Statements
import Derived.Test.YtlpnoogcdnfllaaGreatDoorProg
import Derived.Shelf.SlGeneric
import Derived.Ground.SlsfProg
set_option linter.unusedSimpArgs false
set_option linter.unusedVariables false
set_option linter.unnecessarySimpa false
namespace Go.Proofs.YtlpnoogcdnfllaaGreatDoor
open Go.RowKit Dsk
def _root_.Go.Proofs.YtlpnoogcdnfllaaGreatDoor.Dsk.Dv.write (D : Dv) (i : Int) (s : List UInt8) : Dv × Nat :=
  if D.dead then (D, 190) else if i < 0 ∨ (D.cap : Int) ≤ i then (D, 191) else if s.length ≠ 512 then (D, 2) else D.does (some (.write i.toNat s))
def _root_.Go.Proofs.YtlpnoogcdnfllaaGreatDoor.Dsk.Dv.cut (D : Dv) (n : Int) : Dv × Nat :=
  if D.dead then (D, 190) else if n < 0 ∨ ((D.now.length / 512 : Nat) : Int) < n then (D, 191) else D.does (some (.cut n.toNat))
def _root_.Go.Proofs.YtlpnoogcdnfllaaGreatDoor.Dsk.Dv.sync (D : Dv) : Dv × Nat := if D.dead then (D, 190) else D.does none
def _root_.Go.Proofs.YtlpnoogcdnfllaaGreatDoor.Dsk.Dv.plan (D : Dv) (a : Int) (k : List Bool) : Dv × Nat :=
  if D.dead then (D, 190) else if a < 0 then (D, 2) else ({ D with at_ := a.toNat, keep := k }, 0)
section
variable {w : World} {B b : Nat} {D : Dv}
theorem len_d (h : DevAt w B b D) (hD : D.Ok) : Ret Tryz.prog 12 [.pointer (some ⟨b, 0, none⟩)] w fun v w' => v = .int .i64 ((D.now.length / 512 : Nat) : Int) ∧ w = w' := by
  have h0 := h
  obtain ⟨vk, vn, vp, vq, vs, h⟩ := h
  have q1 := hD.now
  have q2 := hD.cap
  obtain ⟨A, c, rfl, hc, hsl⟩ := h.now.slice
  refine Ret.enter Tryz.func12 rfl Tryz.ntmps12 (by kernel_rfl) rfl ?_
  refine KW.seq (KW.region ?_)
  refine OW.val rfl rfl (EX.assign rfl) ?_
  refine OW.nil ?_
  refine KW.seq (KW.seq (KW.region ?_))
  refine OW.val rfl rfl (EX.move rfl) ?_
  refine OW.call rfl rfl rfl (none_d h0 hD) ?_
  rintro _ _ ⟨rfl, rfl⟩
  refine OW.nil ?_
  refine KW.condF rfl (KW.skip (KW.seq (KW.region ?_)))
  refine OW.val rfl rfl (EX.move rfl) ?_
  refine OW.val rfl rfl (EX.nilCheck rfl) ?_
  refine OW.val rfl rfl (EX.fieldAddr (off := 2) Tryz.underlying74 rfl rfl ti59 rfl rfl) ?_
  refine OW.val rfl rfl (EX.load Tryz.underlying59 rfl rfl (h.cells.cell_of rfl)) ?_
  refine OW.val rfl rfl (EX.lenA Tryz.underlying59 rfl) ?_
  refine OW.val rfl rfl (EX.quoN (b := 512) (m := 9223372036854775807) rfl rfl rfl (by omega)) ?_
  refine OW.val rfl rfl (EX.assign rfl) ?_
  refine OW.nil ?_
  refine KW.ret (ret1 rfl rfl ?_)
  exact ⟨rfl, rfl⟩
theorem capacity_d (h : DevAt w B b D) (hD : D.Ok) : Ret Tryz.prog 20 [.pointer (some ⟨b, 0, none⟩)] w fun v w' => v = .int .i64 (D.cap : Int) ∧ w = w' := by
  have h0 := h
  obtain ⟨vk, vn, vp, vq, vs, h⟩ := h
  refine Ret.enter Tryz.func20 rfl Tryz.ntmps20 (by kernel_rfl) rfl ?_
  refine KW.seq (KW.region ?_)
  refine OW.val rfl rfl (EX.assign rfl) ?_
  refine OW.nil ?_
  refine KW.seq (KW.seq (KW.region ?_))
  refine OW.val rfl rfl (EX.move rfl) ?_
  refine OW.call rfl rfl rfl (none_d h0 hD) ?_
  rintro _ _ ⟨rfl, rfl⟩
  refine OW.nil ?_
  refine KW.condF rfl (KW.skip (KW.seq (KW.region ?_)))
  refine OW.val rfl rfl (EX.move rfl) ?_
  refine OW.val rfl rfl (EX.nilCheck rfl) ?_
  refine OW.val rfl rfl (EX.fieldAddr (off := 0) Tryz.underlying74 rfl rfl ti3 rfl rfl) ?_
  refine OW.val rfl rfl (EX.load Tryz.underlying3 rfl rfl (h.cells.cell_of rfl)) ?_
  refine OW.val rfl rfl (EX.assign rfl) ?_
  refine OW.nil ?_
  refine KW.ret (ret1 rfl rfl ?_)
  exact ⟨rfl, rfl⟩
theorem dead_d (h : DevAt w B b D) (hD : D.Ok) : Ret Tryz.prog 26 [.pointer (some ⟨b, 0, none⟩)] w fun v w' => v = .bool D.dead ∧ w = w' := by
  have h0 := h
  obtain ⟨vk, vn, vp, vq, vs, h⟩ := h
  refine Ret.enter Tryz.func26 rfl Tryz.ntmps26 (by kernel_rfl) rfl ?_
  refine KW.seq (KW.region ?_)
  refine OW.val rfl rfl (EX.assign rfl) ?_
  refine OW.nil ?_
  refine KW.seq ?_
  refine KW.region ?_
  refine OW.val rfl rfl (EX.move rfl) ?_
  refine OW.call rfl rfl rfl (none_d h0 hD) ?_
  rintro _ _ ⟨rfl, rfl⟩
  refine OW.val rfl rfl (by first | exact EX.notD rfl | exact EX.notB rfl) ?_
  refine OW.val rfl rfl (EX.move rfl) ?_
  refine OW.val rfl rfl (EX.move rfl) ?_
  refine OW.val rfl rfl (EX.nilCheck rfl) ?_
  refine OW.val rfl rfl (EX.fieldAddr (off := 6) Tryz.underlying74 rfl rfl ti4 rfl rfl) ?_
  refine OW.val rfl rfl (EX.load Tryz.underlying4 rfl rfl (h.cells.cell_of rfl)) ?_
  refine OW.val rfl rfl (EX.pickT rfl rfl) ?_
  refine OW.val rfl rfl (EX.assign rfl) ?_
  refine OW.nil ?_
  refine KW.ret (ret1 rfl rfl ?_)
  exact ⟨rfl, rfl⟩
end
structure Small (D : Dv) : Prop where
  calls : D.calls ≤ 1000000
  pend : D.pend.length ≤ 1000000
  at_ : D.at_ ≤ 9223372036854775807
  keep : D.keep.length ≤ 140737488355328
section
variable {w : World} {B b : Nat} {D : Dv}
theorem sync_d (h : DevAt w B b D) (hD : D.Ok) (hs : Small D) : Ret Tryz.prog 25 [.pointer (some ⟨b, 0, none⟩)] w fun v w' => v = .int .i64 ((D.sync.2 : Nat) : Int) ∧ DevAt w' B b D.sync.1 ∧ Tm w w' B dty := by
  refine Ret.enter Tryz.func25 rfl Tryz.ntmps25 (by kernel_rfl) rfl ?_
  refine KW.seq (KW.region ?_)
  refine OW.val rfl rfl (EX.assign rfl) ?_
  refine OW.nil ?_
  refine KW.seq (KW.seq (KW.region ?_))
  refine OW.val rfl rfl (EX.move rfl) ?_
  refine OW.call rfl rfl rfl (alive_d h hD) ?_
  rintro _ _ ⟨rfl, rfl⟩
  refine OW.val rfl rfl (EX.assign rfl) ?_
  refine OW.nil ?_
  refine KW.seq (KW.region ?_)
  refine OW.val rfl rfl (EX.move rfl) ?_
  refine OW.val rfl rfl (by first | exact EX.neqN (b := 0) rfl rfl | exact EX.neqZ rfl rfl) ?_
  refine OW.nil ?_
  rcases hd : D.dead with _ | _
  · have e : D.sync = D.does none := by unfold Dv.sync; rw [hd]; rfl
    rw [if_neg (by simp)]
    refine KW.as 7 (.bool false) rfl (congrArg Value.bool (decide_eq_false (by decide))) ?_
    refine KW.condF rfl (KW.skip (KW.seq (KW.region ?_)))
    refine OW.val rfl rfl (EX.move rfl) ?_
    refine OW.call rfl rfl rfl (does_c h hD .nilFunc none (fun _ => rfl) (fun d q => by cases q) hs.calls hs.pend hs.at_ hs.keep) ?_
    rintro _ w' ⟨rfl, h1, h2⟩
    refine OW.val rfl rfl (EX.assign rfl) ?_
    refine OW.nil ?_
    refine KW.ret (ret1 rfl rfl ?_)
    rw [e]
    exact ⟨rfl, h1, h2⟩
  · have e : D.sync = (D, 190) := by unfold Dv.sync; rw [hd]; rfl
    rw [if_pos rfl]
    refine KW.as 7 (.bool true) rfl (congrArg Value.bool (decide_eq_true (by decide))) ?_
    refine KW.condT rfl (KW.seq (KW.region ?_))
    refine OW.val rfl rfl (EX.move rfl) ?_
    refine OW.val rfl rfl (EX.assign rfl) ?_
    refine OW.nil ?_
    refine KW.ret (ret1 rfl rfl ?_)
    rw [e]
    exact ⟨rfl, h, Tm.refl _ _ _⟩
theorem write_x {vk vn vp vq : Value} {vs : List Value} (hv0 : Dev w B b D vk vn vp vq vs) (hD : D.Ok) (hs : Small D) (i : Int) (i0 : -9223372036854775808 ≤ i) (i1 : i ≤ 9223372036854775807) (s : List UInt8) (hsl : s.length ≤ 140737488355328) :
    Ret Tryz.prog 24 [.pointer (some ⟨b, 0, none⟩), .int .i64 i, str s] w fun v w' => v = .int .i64 (((D.write i s).2 : Nat) : Int) ∧ DevAt w' B b (D.write i s).1 ∧ Tm w w' B dty ∧ Kp w w' b vk vn vp := by
  have h := hv0.at_
  refine Ret.enter Tryz.func24 rfl Tryz.ntmps24 (by kernel_rfl) rfl ?_
  refine KW.seq (KW.region ?_)
  refine OW.boxB rfl rfl rfl rfl ?_
  rintro bi w1 hge1 hi1 hx1
  refine OW.boxB rfl rfl rfl rfl ?_
  rintro bs w2 hge2 hs2 hx2
  refine OW.val rfl rfl (EX.assign rfl) ?_
  refine OW.nil ?_
  refine KW.seq (KW.seq (KW.region ?_))
  refine OW.val rfl rfl (EX.move rfl) ?_
  have hi2 := hi1.ext hx2
  have h2 := h.ext (hx1.trans hx2)
  have t2 : Tm w w2 B dty := Tm.of_ext (hx1.trans hx2) B dty
  refine OW.call rfl rfl rfl (alive_d h2 hD) ?_
  rintro _ _ ⟨rfl, rfl⟩
  refine OW.val rfl rfl (EX.assign rfl) ?_
  refine OW.nil ?_
  refine KW.seq (KW.region ?_)
  refine OW.val rfl rfl (EX.move rfl) ?_
  refine OW.val rfl rfl (by first | exact EX.neqN (b := 0) rfl rfl | exact EX.neqZ rfl rfl) ?_
  refine OW.nil ?_
  rcases hd : D.dead with _ | _
  · rw [if_neg (by simp)]
    refine KW.as 11 (.bool false) rfl (congrArg Value.bool (decide_eq_false (by decide))) ?_
    refine KW.condF rfl (KW.skip (KW.seq (KW.seq ?_)))
    have hv := hv0.ext (hx1.trans hx2)
    have kp2 := (Kp.refl w b vk vn vp).ext (hx1.trans hx2)
    refine KW.regionQ (by kernel_rfl) (by kernel_rfl) ?_
    refine QW.val rfl rfl (fun _ => EX.load Tryz.underlying3 rfl rfl ((hi2.drewN _).cell_of rfl)) ?_
    refine QW.val rfl rfl (fun _ => by first | exact EX.lssN (b := 0) rfl rfl | exact EX.lssZ rfl rfl) ?_
    refine QW.val rfl rfl (fun _ => EX.move rfl) ?_
    refine QW.splitD 15 rfl (fun a1 => ?_) (fun a1 => ?_)
    · have e : D.write i s = (D, 191) := by unfold Dv.write; rw [hd, if_neg (by simp), if_pos (.inl a1)]
      refine QW.pass rfl rfl ?_
      refine QW.pass rfl rfl ?_
      refine QW.pass rfl rfl ?_
      refine QW.pass rfl rfl ?_
      refine QW.pass rfl rfl ?_
      refine QW.pass rfl rfl ?_
      refine QW.val rfl rfl (fun _ => EX.pickT rfl rfl) ?_
      refine QW.nil (fun nq => ?_)
      refine KW.condT rfl (KW.seq (KW.region ?_))
      refine OW.val rfl rfl (EX.assign rfl) ?_
      refine OW.nil ?_
      refine KW.ret (ret1 rfl rfl ?_)
      rw [e]
      exact ⟨rfl, h2.ext (Ext.drewN _ _), t2.trans (Tm.of_ext (Ext.drewN _ _) _ _), kp2.ext (Ext.drewN _ _)⟩
    · skip
      refine QW.val rfl rfl (fun _ => EX.load Tryz.underlying3 rfl rfl ((hi2.drewN _).cell_of rfl)) ?_
      refine QW.val rfl rfl (fun _ => EX.move rfl) ?_
      refine QW.val rfl rfl (fun _ => EX.nilCheck rfl) ?_
      refine QW.val rfl rfl (fun _ => EX.fieldAddr (off := 0) Tryz.underlying74 rfl rfl ti3 rfl rfl) ?_
      refine QW.val rfl rfl (fun _ => EX.load Tryz.underlying3 rfl rfl ((hv.cells.drewN _).cell_of rfl)) ?_
      refine QW.val rfl rfl (fun _ => by first | exact EX.geqN rfl rfl | exact EX.geqZ rfl rfl) ?_
      refine QW.val rfl rfl (fun _ => EX.pickF rfl rfl) ?_
      refine QW.nil (fun nq => ?_)
      refine KW.condD rfl (fun a2 => ?_) (fun a2 => ?_)
      · have e : D.write i s = (D, 191) := by unfold Dv.write; rw [hd, if_neg (by simp), if_pos (.inr a2)]
        refine KW.seq (KW.region ?_)
        refine OW.val rfl rfl (EX.assign rfl) ?_
        refine OW.nil ?_
        refine KW.ret (ret1 rfl rfl ?_)
        rw [e]
        exact ⟨rfl, h2.ext (Ext.drewN _ _), t2.trans (Tm.of_ext (Ext.drewN _ _) _ _), kp2.ext (Ext.drewN _ _)⟩
      · have hr : ¬ (i < 0 ∨ (D.cap : Int) ≤ i) := by omega
        have h3 := h2.ext (Ext.drewN w2 nq)
        have t3 : Tm w (w2.drewN nq) B dty := t2.trans (Tm.of_ext (Ext.drewN _ _) _ _)
        obtain ⟨j, rfl⟩ := Int.eq_ofNat_of_zero_le (show 0 ≤ i by omega)
        refine KW.skip (KW.seq (KW.seq (KW.region ?_)))
        refine OW.val rfl rfl (EX.load Tryz.underlying9 rfl rfl ((hs2.drewN _).cell_of rfl)) ?_
        refine OW.val rfl rfl (EX.lenS Tryz.underlying9 rfl) ?_
        refine OW.val rfl rfl (by first | exact EX.neqN (b := 512) rfl rfl | exact EX.neqZ rfl rfl) ?_
        refine OW.nil ?_
        refine KW.condD rfl (fun a3 => ?_) (fun a3 => ?_)
        · have e : D.write (j : Int) s = (D, 2) := by unfold Dv.write; rw [hd, if_neg (by simp), if_neg hr, if_pos a3]
          refine KW.seq (KW.region ?_)
          refine OW.val rfl rfl (EX.assign rfl) ?_
          refine OW.nil ?_
          refine KW.ret (ret1 rfl rfl ?_)
          rw [e]
          exact ⟨rfl, h3, t3, kp2.ext (Ext.drewN _ _)⟩
        · have e : D.write (j : Int) s = D.does (some (.write j s)) := by unfold Dv.write; rw [hd, if_neg (by simp), if_neg hr, if_neg a3]; rfl
          refine KW.skip (KW.seq (KW.region ?_))
          refine OW.val rfl rfl (EX.move rfl) ?_
          refine OW.val rfl rfl (EX.makeFunc rfl rfl) ?_
          refine OW.call rfl rfl rfl (does_x (hv.ext (Ext.drewN w2 nq)) hD _ (some (.write j s)) (fun q => by cases q) (fun d q => by cases q; exact ⟨⟨bi, bs, rfl, hi2.drewN _, hs2.drewN _⟩, by omega, by omega⟩) hs.calls hs.pend hs.at_ hs.keep) ?_
          rintro _ w4 ⟨rfl, h4, t4, k4⟩
          refine OW.val rfl rfl (EX.assign rfl) ?_
          refine OW.nil ?_
          refine KW.ret (ret1 rfl rfl ?_)
          rw [e]
          exact ⟨rfl, h4, t3.trans t4, fun g T l a1 a2 a3 a4 hb => k4 g T l a1 a2 a3 a4 ((kp2.ext (Ext.drewN _ _)) g T l a1 a2 a3 a4 hb)⟩
  · have e : D.write i s = (D, 190) := by unfold Dv.write; rw [hd]; rfl
    rw [if_pos rfl]
    refine KW.as 11 (.bool true) rfl (congrArg Value.bool (decide_eq_true (by decide))) ?_
    refine KW.condT rfl (KW.seq (KW.region ?_))
    refine OW.val rfl rfl (EX.move rfl) ?_
    refine OW.val rfl rfl (EX.assign rfl) ?_
    refine OW.nil ?_
    refine KW.ret (ret1 rfl rfl ?_)
    rw [e]
    exact ⟨rfl, h2, t2, (Kp.refl w b vk vn vp).ext (hx1.trans hx2)⟩
theorem write_d (h : DevAt w B b D) (hD : D.Ok) (hs : Small D) (i : Int) (i0 : -9223372036854775808 ≤ i) (i1 : i ≤ 9223372036854775807) (s : List UInt8) (hsl : s.length ≤ 140737488355328) :
    Ret Tryz.prog 24 [.pointer (some ⟨b, 0, none⟩), .int .i64 i, str s] w fun v w' => v = .int .i64 (((D.write i s).2 : Nat) : Int) ∧ DevAt w' B b (D.write i s).1 ∧ Tm w w' B dty := by
  obtain ⟨vk, vn, vp, vq, vs, hv⟩ := h
  exact (write_x hv hD hs i i0 i1 s hsl).mono fun _ _ q => ⟨q.1, q.2.1, q.2.2.1⟩
end
end Go.Proofs.YtlpnoogcdnfllaaGreatDoor
namespace Go.Proofs.YtlpnoogcdnfllaaGreatDoor.Wal
open Go.RowKit Rec Pth Dsk
abbrev By := List UInt8
structure Nt where
  kind : Int
  mem : M
  deriving DecidableEq
def bare (p : By) : M := ⟨p, 0, 0, 0, 0⟩
def noteD (n : Nt) : Option By :=
  if n.kind = 1 then (if mayM n.mem then some (memberT n.mem) else none)
  else if n.kind = 2 then (if checkP n.mem.path = 0 ∧ n.mem = bare n.mem.path then some n.mem.path else none)
  else none
def noteB (n : Nt) : By := (noteD n).getD []
def mayN (n : Nt) : Prop := noteD n ≠ none
instance (n : Nt) : Decidable (mayN n) := by unfold mayN; infer_instance
def recs (gen : Nat) : Nat → List Nt → List By
  | _, [] => []
  | i, n :: l => text n.kind.toNat gen i (noteB n) :: recs gen (i + 1) l
def txs (gen at_ : Nat) (l : List Nt) : List By := recs gen at_ l ++ [text 3 gen (at_ + l.length) [UInt8.ofNat l.length]]
theorem recs_length (gen : Nat) : ∀ (l : List Nt) (i : Nat), (recs gen i l).length = l.length
  | [], _ => rfl
  | n :: l, i => by simp [recs, recs_length gen l]
theorem recs_snoc (gen : Nat) (n : Nt) : ∀ (l : List Nt) (i : Nat), recs gen i (l ++ [n]) = recs gen i l ++ [text n.kind.toNat gen (i + l.length) (noteB n)]
  | [], i => rfl
  | m :: l, i => by
    rw [List.cons_append, recs, recs, recs_snoc gen n l, List.cons_append, List.length_cons, show i + 1 + l.length = i + (l.length + 1) by omega]
def writes : Dv → Nat → List By → Dv × Nat
  | D, _, [] => (D, 0)
  | D, i, s :: l => if (D.write i s).2 = 0 then writes (D.write i s).1 (i + 1) l else D.write i s
def badW (gen at_ : Int) (n : Nat) : Prop := gen < 0 ∨ 4611686018427387904 < gen ∨ at_ < 0 ∨ 20 < at_ ∨ n = 0 ∨ 20 - at_ ≤ n
instance (gen at_ : Int) (n : Nat) : Decidable (badW gen at_ n) := by unfold badW; infer_instance
def appendW (D : Dv) (gen at_ : Int) (l : List Nt) : Dv × Int × Nat :=
  if badW gen at_ l.length ∨ ∃ n ∈ l, ¬ mayN n then (D, 0, 210)
  else
    let r := writes D (10 + at_.toNat) (txs gen.toNat at_.toNat l)
    if r.2 = 0 then (if r.1.sync.2 = 0 then (r.1.sync.1, at_ + l.length + 1, 0) else (r.1.sync.1, 0, r.1.sync.2)) else (r.1, 0, r.2)
def noteOf (x : R) : Option Nt :=
  if x.kind = 1 then (if (memL (x.data.length + 1) x.data []).2 = 0 ∧ (memL (x.data.length + 1) x.data []).1.length = 1 then some ⟨1, (memL (x.data.length + 1) x.data []).1.getD 0 (bare [])⟩ else none)
  else if x.kind = 2 then (if checkP x.data = 0 then some ⟨2, bare x.data⟩ else none)
  else none
def sec (s : By) (i : Nat) : By := (s.drop (i * 512)).take 512
def rep (gen : Int) (rd : Nat → By) (m : Nat) : Nat → Nat → List Nt → List (List Nt) → Nat → List (List Nt) × Nat
  | 0, _, _, out, b => (out, b)
  | f + 1, i, op, out, b =>
    if i < m then
      let x := decodeR (rd i)
      if x.2 ≠ 0 ∨ x.1.gen ≠ gen ∨ x.1.index ≠ i then (out, b)
      else if x.1.kind = 3 then (if op = [] ∨ x.1.data ≠ [UInt8.ofNat op.length] then (out, b) else rep gen rd m f (i + 1) [] (out ++ [op]) (i + 1))
      else match noteOf x.1 with
        | some n => rep gen rd m f (i + 1) (op ++ [n]) out b
        | none => (out, b)
    else (out, b)
def logN (s : By) : Nat := min 20 (s.length / 512 - 10)
def replay (s : By) (gen : Int) : List (List Nt) × Nat := rep gen (fun i => sec s (10 + i)) (logN s) 21 0 [] [] 0
def badG (gen : Int) : Prop := gen < 0 ∨ 4611686018427387904 < gen
instance (gen : Int) : Decidable (badG gen) := by unfold badG; infer_instance
def replayD (D : Dv) (gen : Int) : (List (List Nt) × Nat) × Nat := if badG gen then (([], 0), 210) else if D.dead then (([], 0), 190) else (replay D.now gen, 0)
theorem blk_put {s t : By} {a b n : Nat} (ht : t.length = n) (ha : a + n ≤ s.length) (h : b + n ≤ a ∨ b = a ∨ a + n ≤ b) : ((s.take a ++ t ++ s.drop (a + n)).drop b).take n = if b = a then t else (s.drop b).take n := by
  have l1 : (s.take a).length = a := by rw [List.length_take]; omega
  rcases h with h1 | h1 | h1
  · by_cases h2 : b = a
    · have : n = 0 := by omega
      subst this
      rw [if_pos h2, List.take_zero, List.eq_nil_of_length_eq_zero ht]
    · rw [if_neg h2, List.append_assoc, List.drop_append_of_le_length (by omega), List.take_append_of_le_length (by rw [List.length_drop]; omega), List.drop_take, List.take_take, Nat.min_eq_left (by omega)]
  · subst h1
    rw [if_pos rfl, List.append_assoc, List.drop_left' l1, List.take_left' ht]
  · have l2 : (s.take a ++ t).length = a + n := by rw [List.length_append, l1, ht]
    have e : (s.take a ++ t ++ s.drop (a + n)).drop b = s.drop b := by
      rw [List.drop_append, List.drop_eq_nil_of_le (by omega), List.nil_append, List.drop_drop, l2, show a + n + (b - (a + n)) = b by omega]
    rw [e]
    by_cases h2 : b = a
    · have : n = 0 := by omega
      subst this
      rw [if_pos h2, List.take_zero, List.eq_nil_of_length_eq_zero ht]
    · rw [if_neg h2]
theorem sec_put {s t : By} {i j : Nat} (h : (i + 1) * 512 ≤ s.length) (ht : t.length = 512) : sec (s.take (i * 512) ++ t ++ s.drop (i * 512 + 512)) j = if j = i then t else sec s j := by
  have e := blk_put (s := s) (a := i * 512) (b := j * 512) ht (by omega) (by omega)
  unfold sec
  rw [e]
  by_cases h1 : j = i
  · rw [if_pos h1, if_pos (by rw [h1])]
  · rw [if_neg h1, if_neg (by omega)]
theorem ap_write (i : Nat) (t s : By) : (Ch.write i t).ap s = (s ++ zeros ((i + 1) * 512 - s.length)).take (i * 512) ++ t ++ (s ++ zeros ((i + 1) * 512 - s.length)).drop (i * 512 + t.length) := rfl
theorem sec_write {s t : By} {i j : Nat} (hm : s.length % 512 = 0) (ht : t.length = 512) (hj : j = i ∨ j < s.length / 512) : sec ((Ch.write i t).ap s) j = if j = i then t else sec s j := by
  have hz : ∀ z : By, sec s j = sec (s ++ z) j ∨ ¬ j < s.length / 512 := fun z => by
    by_cases h : j < s.length / 512
    · left
      unfold sec
      rw [List.drop_append_of_le_length (by omega), List.take_append_of_le_length (by rw [List.length_drop]; omega)]
    · exact .inr h
  have e := sec_put (s := s ++ zeros ((i + 1) * 512 - s.length)) (i := i) (j := j) (by rw [List.length_append, zeros_length]; omega) ht
  rw [ap_write, ht, e]
  split
  · rfl
  · rename_i h
    rcases hz (zeros ((i + 1) * 512 - s.length)) with h1 | h1
    · exact h1.symm
    · exact absurd (hj.resolve_left h) h1
theorem len_write {s t : By} {i : Nat} (ht : t.length = 512) (hm : s.length % 512 = 0) : ((Ch.write i t).ap s).length = max s.length ((i + 1) * 512) := by
  rw [ap_write]
  simp only [List.length_append, List.length_take, List.length_drop, zeros_length, ht]
  omega
theorem check_len {s : By} (h1 : checkP s = 0) : s.length ≤ 120 := by
  unfold checkP at h1
  split at h1
  · rename_i e
    unfold cleanP at e
    split at e
    · rename_i h2
      simp only [Prod.mk.injEq, and_true] at e
      rw [e] at h2
      exact h2.2.2.2
    · simp at e
  · simp at h1
theorem noteB_len {n : Nt} (h : mayN n) : (noteB n).length ≤ 131 ∧ (n.kind = 1 ∨ n.kind = 2) := by
  unfold mayN at h
  unfold noteB
  unfold noteD at h ⊢
  by_cases h1 : n.kind = 1
  · rw [if_pos h1] at h ⊢
    by_cases h2 : mayM n.mem
    · rw [if_pos h2]
      have := may_path h2
      exact ⟨by show (memberT n.mem).length ≤ _; rw [memberT_length]; omega, .inl h1⟩
    · rw [if_neg h2] at h
      exact absurd rfl h
  · rw [if_neg h1] at h ⊢
    by_cases h2 : n.kind = 2
    · rw [if_pos h2] at h ⊢
      by_cases h3 : checkP n.mem.path = 0 ∧ n.mem = bare n.mem.path
      · rw [if_pos h3]
        have := check_len h3.1
        exact ⟨by show n.mem.path.length ≤ _; omega, .inr h2⟩
      · rw [if_neg h3] at h
        exact absurd rfl h
    · rw [if_neg h2] at h
      exact absurd rfl h
theorem noteOf_back {n : Nt} (h : mayN n) (hs : n.mem.sum ≤ 4294967295) (g i : Int) : noteOf ⟨n.kind.toNat, g, i, noteB n⟩ = some n := by
  unfold mayN at h
  unfold noteB
  unfold noteD at h ⊢
  obtain ⟨k, m⟩ := n
  simp only at h hs ⊢
  by_cases h1 : k = 1
  · subst h1
    rw [if_pos rfl] at h ⊢
    by_cases h2 : mayM m
    · rw [if_pos h2]
      have e := memL_back [m] ((memberT m).length + 1) [] (fun x hx => by rw [List.mem_singleton.1 hx]; exact ⟨h2, hs⟩) (by simp [allT])
      have e2 : allT [m] = memberT m := by simp [allT]
      rw [e2] at e
      have e3 : noteOf ⟨1, g, i, memberT m⟩ = some ⟨1, m⟩ := by
        unfold noteOf
        simp only [if_true]
        rw [e]
        rfl
      exact e3
    · rw [if_neg h2] at h
      exact absurd rfl h
  · rw [if_neg h1] at h ⊢
    by_cases h2 : k = 2
    · subst h2
      rw [if_pos rfl] at h ⊢
      by_cases h3 : checkP m.path = 0 ∧ m = bare m.path
      · rw [if_pos h3]
        have e3 : noteOf ⟨2, g, i, m.path⟩ = some ⟨2, m⟩ := by
          unfold noteOf
          simp only [if_true]
          rw [if_neg (by decide), if_pos h3.1, ← h3.2]
        exact e3
      · rw [if_neg h3] at h
        exact absurd rfl h
    · rw [if_neg h2] at h
      exact absurd rfl h
structure Rd (s : By) (k : Nat) (g i : Nat) (d : By) : Prop where
  eq : decodeR s = (⟨k, g, i, d⟩, 0)
theorem rd_text {k g i : Nat} {d : By} (hk : 1 ≤ k ∧ k ≤ 255) (hg : g ≤ 4611686018427387904) (hi : i ≤ 2147483647) (hd : d.length ≤ 486) : Rd (text k g i d) k g i d := by
  refine ⟨?_⟩
  have hb : ¬ bad k (g : Int) (i : Int) d := by unfold bad; omega
  have e : encodeR k (g : Int) (i : Int) d = (text k g i d, 0) := by
    unfold encodeR
    rw [if_neg hb]
    rfl
  exact dec_enc hk.2 e
section
variable {gen : Nat} {rd : Nat → By} {m : Nat}
theorem rep_note {f i : Nat} {op : List Nt} {out : List (List Nt)} {b : Nat} {n : Nt} (hn : mayN n) (hs : n.mem.sum ≤ 4294967295) (hr : Rd (rd i) n.kind.toNat gen i (noteB n)) (hi : i < m) :
    rep gen rd m (f + 1) i op out b = rep gen rd m f (i + 1) (op ++ [n]) out b := by
  have hk := (noteB_len hn).2
  rw [rep, if_pos hi, hr.eq]
  simp only
  rw [if_neg (by simp), if_neg (by omega), noteOf_back hn hs]
theorem rep_end {f i : Nat} {op : List Nt} {out : List (List Nt)} {b : Nat} (ho : op ≠ []) (hr : Rd (rd i) 3 gen i [UInt8.ofNat op.length]) (hi : i < m) :
    rep gen rd m (f + 1) i op out b = rep gen rd m f (i + 1) [] (out ++ [op]) (i + 1) := by
  rw [rep, if_pos hi, hr.eq]
  simp only
  rw [if_neg (by simp), if_pos trivial, if_neg (by simp [ho])]
theorem rep_over {f i : Nat} {op : List Nt} {out : List (List Nt)} {b : Nat} (hi : m ≤ i) : rep gen rd m f i op out b = (out, b) := by
  cases f with
  | zero => rfl
  | succ f => rw [rep, if_neg (by omega)]
def Good (l : List Nt) : Prop := ∀ n ∈ l, mayN n ∧ n.mem.sum ≤ 4294967295
theorem rd_recs {g : Nat} (hg : g ≤ 4611686018427387904) : ∀ (l : List Nt) (i : Nat), Good l → i + l.length ≤ 2147483647 → ∀ k (hk : k < l.length), Rd ((recs g i l).getD k []) (l[k]).kind.toNat g (i + k) (noteB l[k])
  | [], i, _, _, k, hk => by simp at hk
  | n :: l, i, hl, hi, 0, hk => by
    have h := noteB_len (hl n (by simp)).1
    simp only [List.length_cons] at hi
    exact rd_text (by omega) hg (by omega) (by omega)
  | n :: l, i, hl, hi, k + 1, hk => by
    have h := rd_recs hg l (i + 1) (fun x hx => hl x (by simp [hx])) (by simp only [List.length_cons] at hi; omega) k (by simpa using hk)
    rw [show i + 1 + k = i + (k + 1) by omega] at h
    exact h
theorem rep_recs : ∀ (l : List Nt) (f i : Nat) (op : List Nt) (out : List (List Nt)) (b : Nat), Good l → (∀ k (hk : k < l.length), Rd (rd (i + k)) (l[k]).kind.toNat gen (i + k) (noteB l[k])) → i + l.length ≤ m →
    rep gen rd m (f + l.length) i op out b = rep gen rd m f (i + l.length) (op ++ l) out b
  | [], f, i, op, out, b, _, _, _ => by simp
  | n :: l, f, i, op, out, b, hl, hr, hm => by
    simp only [List.length_cons] at hm
    have h0 : Rd (rd i) n.kind.toNat gen i (noteB n) := hr 0 (by simp)
    have ih := rep_recs l f (i + 1) (op ++ [n]) out b (fun x hx => hl x (by simp [hx])) (fun k hk => by
      have := hr (k + 1) (by simp; omega)
      rw [show i + (k + 1) = i + 1 + k by omega] at this
      exact this) (by omega)
    rw [List.length_cons, ← Nat.add_assoc, rep_note (hl n (by simp)).1 (hl n (by simp)).2 h0 (by omega), ih, List.append_assoc, show i + 1 + l.length = i + (l.length + 1) by omega]
    rfl
theorem txs_length (g i : Nat) (l : List Nt) : (txs g i l).length = l.length + 1 := by simp [txs, recs_length]
theorem txs_note (g i : Nat) (l : List Nt) {k : Nat} (h : k < l.length) : (txs g i l).getD k [] = (recs g i l).getD k [] := by
  unfold txs
  simp only [List.getD_eq_getElem?_getD]
  rw [List.getElem?_append_left (by rw [recs_length]; exact h)]
theorem txs_end (g i : Nat) (l : List Nt) : (txs g i l).getD l.length [] = text 3 g (i + l.length) [UInt8.ofNat l.length] := by
  unfold txs
  simp only [List.getD_eq_getElem?_getD]
  rw [List.getElem?_append_right (by rw [recs_length]; exact Nat.le_refl _), recs_length, Nat.sub_self]
  rfl
theorem rep_tx {l : List Nt} {f i : Nat} {out : List (List Nt)} {b : Nat} (hg : gen ≤ 4611686018427387904) (hl : Good l) (hne : l ≠ []) (hr : ∀ k, k < l.length + 1 → rd (i + k) = (txs gen i l).getD k []) (hm : i + l.length + 1 ≤ m) (hm2 : m ≤ 20) :
    rep gen rd m (f + (l.length + 1)) i [] out b = rep gen rd m f (i + l.length + 1) [] (out ++ [l]) (i + l.length + 1) := by
  rw [show f + (l.length + 1) = (f + 1) + l.length by omega, rep_recs l (f + 1) i [] out b hl (fun k hk => by
    rw [hr k (by omega), txs_note gen i l hk]
    exact rd_recs hg l i hl (by omega) k hk) (by omega), List.nil_append]
  refine rep_end hne ?_ (by omega)
  rw [hr l.length (by omega), txs_end]
  exact rd_text (by decide) hg (by omega) (by simp)
def lay (g : Nat) : Nat → List (List Nt) → List By
  | _, [] => []
  | i, l :: ls => txs g i l ++ lay g (i + l.length + 1) ls
def total (ls : List (List Nt)) : Nat := (ls.map (fun l => l.length + 1)).sum
theorem total_cons (l : List Nt) (ls : List (List Nt)) : total (l :: ls) = l.length + 1 + total ls := by simp [total]
theorem lay_length (g : Nat) : ∀ (ls : List (List Nt)) (i : Nat), (lay g i ls).length = total ls
  | [], _ => rfl
  | l :: ls, i => by rw [lay, List.length_append, txs_length, lay_length g ls, total_cons]
theorem lay_snoc (g : Nat) (l : List Nt) : ∀ (ls : List (List Nt)) (i : Nat), lay g i (ls ++ [l]) = lay g i ls ++ txs g (i + total ls) l
  | [], i => by simp [lay, total]
  | x :: ls, i => by
    rw [List.cons_append, lay, lay, lay_snoc g l ls, total_cons, List.append_assoc, show i + x.length + 1 + total ls = i + (x.length + 1 + total ls) by omega]
def Goods (ls : List (List Nt)) : Prop := ∀ l ∈ ls, Good l ∧ l ≠ []
theorem rep_all (hg : gen ≤ 4611686018427387904) (hm2 : m ≤ 20) : ∀ (ls : List (List Nt)) (f i : Nat) (out : List (List Nt)) (b : Nat), Goods ls → (∀ k, k < total ls → rd (i + k) = (lay gen i ls).getD k []) → i + total ls ≤ m →
    rep gen rd m (f + total ls) i [] out b = rep gen rd m f (i + total ls) [] (out ++ ls) (if ls = [] then b else i + total ls)
  | [], f, i, out, b, _, _, _ => by simp [total]
  | l :: ls, f, i, out, b, hl, hr, hm => by
    rw [total_cons] at hm hr
    have h1 := hl l (by simp)
    have ih := rep_all hg hm2 ls f (i + l.length + 1) (out ++ [l]) (i + l.length + 1) (fun x hx => hl x (by simp [hx])) (fun k hk => by
      have := hr (l.length + 1 + k) (by omega)
      rw [lay, List.getD_eq_getElem?_getD, List.getElem?_append_right (by rw [txs_length]; omega), txs_length, show l.length + 1 + k - (l.length + 1) = k by omega, show i + (l.length + 1 + k) = i + l.length + 1 + k by omega] at this
      rw [this, List.getD_eq_getElem?_getD]) (by omega)
    have e1 : out ++ [l] ++ ls = out ++ l :: ls := by simp
    have e2 : (if ls = [] then i + l.length + 1 else i + l.length + 1 + total ls) = i + (l.length + 1 + total ls) := by
      by_cases e : ls = []
      · subst e
        rw [if_pos rfl]
        simp [total]
        omega
      · rw [if_neg e]
        omega
    have e3 : i + l.length + 1 + total ls = i + (l.length + 1 + total ls) := by omega
    rw [total_cons, show f + (l.length + 1 + total ls) = (f + total ls) + (l.length + 1) by omega, rep_tx hg h1.1 h1.2 (fun k hk => by
      rw [hr k (by omega), lay]
      simp only [List.getD_eq_getElem?_getD]
      rw [List.getElem?_append_left (by rw [txs_length]; exact hk)]) (by omega) hm2, ih, e1, e2, e3, if_neg (List.cons_ne_nil _ _)]
end
end Go.Proofs.YtlpnoogcdnfllaaGreatDoor.Wal
namespace Go.Proofs.YtlpnoogcdnfllaaGreatDoor
open Go.RowKit Dsk
def _root_.Go.Proofs.YtlpnoogcdnfllaaGreatDoor.Dsk.fresh (cap : Nat) (s : List UInt8) : Dv := { cap := cap, kept := s, now := s, pend := [], at_ := 0, keep := [], dead := false, calls := 0 }
theorem fresh_ok {cap : Nat} {s : List UInt8} (h : 1 ≤ cap ∧ cap ≤ 4096) (h1 : s.length % 512 = 0) (h2 : s.length / 512 ≤ cap) : (fresh cap s).Ok :=
  ⟨h, by show s.length ≤ 512 * cap; omega, by show s.length ≤ 512 * cap; omega, h1, h1, fun c hc => by simp [fresh] at hc⟩
def _root_.Go.Proofs.YtlpnoogcdnfllaaGreatDoor.Dsk.may (c : Int) (s : List UInt8) : Prop := 1 ≤ c ∧ c ≤ 4096 ∧ s.length % 512 = 0 ∧ ((s.length / 512 : Nat) : Int) ≤ c
theorem Own.ofBytes {w : World} {B g cap : Nat} {s : List UInt8} {rs : List Value} (hb : Bk w g 5 (bytesV s ++ rs)) (hB : B ≤ g) (hc : s.length ≤ cap) (hm : cap ≤ maxLen) (hl : s.length + rs.length = cap) : Own w B 5 1 (.slice (some ⟨g, 0, none⟩) s.length cap) s.length (bytesV s) :=
  ⟨by simp [bytesV], .inr ⟨g, cap, rs, rfl, hB, hb, by rw [bytesV_length]; omega, hc, hm⟩⟩
theorem load_s (c : Int) (c0 : -9223372036854775808 ≤ c) (c1 : c ≤ 9223372036854775807) (s : List UInt8) (hs : s.length ≤ 140737488355328) (w : World) :
    Ret Tryz.prog 19 [.int .i64 c, str s] w fun v w' => ∃ (p : Value) (e : Nat), v = .tuple #[p, .int .i64 (e : Int)] ∧ Ext w w' ∧ ((¬ may c s ∧ p = .pointer none ∧ e = 2) ∨ (may c s ∧ ∃ b, p = .pointer (some ⟨b, 0, none⟩) ∧ e = 0 ∧ DevAt w' w.heap.size b (fresh c.toNat s))) := by
  refine Ret.enter Tryz.func19 rfl Tryz.ntmps19 (by kernel_rfl) rfl ?_
  refine KW.seq (KW.region ?_)
  refine OW.val rfl rfl (EX.assign rfl) ?_
  refine OW.val rfl rfl (EX.assign rfl) ?_
  refine OW.nil ?_
  refine KW.seq (KW.seq ?_)
  refine KW.cut1 (fun (_u : Unit) => True) (fun (_u : Unit) => [(0, .int .i64 (c : Int)), (1, str (s)), (24, .bool (decide (¬ (1 ≤ c ∧ c ≤ 4096 ∧ s.length % 512 = 0 ∧ ((s.length / 512 : Nat) : Int) ≤ c))))]) (fun (_u : Unit) => w) ?_ ?_
  · refine KW.region ?_
    refine OW.val rfl rfl (EX.move rfl) ?_
    refine OW.val rfl rfl (by first | exact EX.lssN (b := 1) rfl rfl | exact EX.lssZ rfl rfl) ?_
    refine OW.val rfl rfl (EX.move rfl) ?_
    refine OW.splitD 8 rfl (fun a1 => ?_) (fun a1 => ?_)
    · refine OW.pass rfl rfl ?_
      refine OW.pass rfl rfl ?_
      refine OW.val rfl rfl (EX.pickT rfl rfl) ?_
      refine OW.val rfl rfl (EX.move rfl) ?_
      refine OW.pass rfl rfl ?_
      refine OW.pass rfl rfl ?_
      refine OW.pass rfl rfl ?_
      refine OW.pass rfl rfl ?_
      refine OW.val rfl rfl (EX.pickT rfl rfl) ?_
      refine OW.val rfl rfl (EX.move rfl) ?_
      refine OW.pass rfl rfl ?_
      refine OW.pass rfl rfl ?_
      refine OW.pass rfl rfl ?_
      refine OW.pass rfl rfl ?_
      refine OW.pass rfl rfl ?_
      refine OW.val rfl rfl (EX.pickT rfl rfl) ?_
      refine OW.nil ?_
      refine KW.as 24 (.bool (decide (¬ (1 ≤ c ∧ c ≤ 4096 ∧ s.length % 512 = 0 ∧ ((s.length / 512 : Nat) : Int) ≤ c)))) rfl (by rw [decide_eq_true]; omega) ?_
      refine KW.meet1 (()) ⟨rfl, rfl, rfl, trivial⟩ rfl ?_
      trivial
    · refine OW.val rfl rfl (EX.move rfl) ?_
      refine OW.val rfl rfl (by first | exact EX.gtrN (b := 4096) rfl rfl | exact EX.gtrZ rfl rfl) ?_
      refine OW.val rfl rfl (EX.pickF rfl rfl) ?_
      refine OW.val rfl rfl (EX.move rfl) ?_
      refine OW.splitD 12 rfl (fun a2 => ?_) (fun a2 => ?_)
      · refine OW.pass rfl rfl ?_
        refine OW.pass rfl rfl ?_
        refine OW.pass rfl rfl ?_
        refine OW.pass rfl rfl ?_
        refine OW.val rfl rfl (EX.pickT rfl rfl) ?_
        refine OW.val rfl rfl (EX.move rfl) ?_
        refine OW.pass rfl rfl ?_
        refine OW.pass rfl rfl ?_
        refine OW.pass rfl rfl ?_
        refine OW.pass rfl rfl ?_
        refine OW.pass rfl rfl ?_
        refine OW.val rfl rfl (EX.pickT rfl rfl) ?_
        refine OW.nil ?_
        refine KW.as 24 (.bool (decide (¬ (1 ≤ c ∧ c ≤ 4096 ∧ s.length % 512 = 0 ∧ ((s.length / 512 : Nat) : Int) ≤ c)))) rfl (by rw [decide_eq_true]; omega) ?_
        refine KW.meet1 (()) ⟨rfl, rfl, rfl, trivial⟩ rfl ?_
        trivial
      · refine OW.val rfl rfl (EX.move rfl) ?_
        refine OW.val rfl rfl (EX.lenS Tryz.underlying9 rfl) ?_
        refine OW.val rfl rfl (by first | exact EX.remN (b := 512) rfl rfl (by omega) | exact EX.remZ rfl rfl (by decide)) ?_
        refine OW.val rfl rfl (by first | exact EX.neqN (b := 0) rfl rfl | exact EX.neqZ rfl rfl) ?_
        refine OW.val rfl rfl (EX.pickF rfl rfl) ?_
        refine OW.val rfl rfl (EX.move rfl) ?_
        refine OW.splitD 18 rfl (fun a3 => ?_) (fun a3 => ?_)
        · refine OW.pass rfl rfl ?_
          refine OW.pass rfl rfl ?_
          refine OW.pass rfl rfl ?_
          refine OW.pass rfl rfl ?_
          refine OW.pass rfl rfl ?_
          refine OW.val rfl rfl (EX.pickT rfl rfl) ?_
          refine OW.nil ?_
          refine KW.as 24 (.bool (decide (¬ (1 ≤ c ∧ c ≤ 4096 ∧ s.length % 512 = 0 ∧ ((s.length / 512 : Nat) : Int) ≤ c)))) rfl (by rw [decide_eq_true]; omega) ?_
          refine KW.meet1 (()) ⟨rfl, rfl, rfl, trivial⟩ rfl ?_
          trivial
        · refine OW.val rfl rfl (EX.move rfl) ?_
          refine OW.val rfl rfl (EX.lenS Tryz.underlying9 rfl) ?_
          refine OW.val rfl rfl (EX.quoN (b := 512) (m := 9223372036854775807) rfl rfl rfl (by omega)) ?_
          refine OW.val rfl rfl (EX.move rfl) ?_
          refine OW.val rfl rfl (by first | exact EX.gtrN rfl rfl | exact EX.gtrZ rfl rfl) ?_
          refine OW.val rfl rfl (EX.pickF rfl rfl) ?_
          refine OW.nil ?_
          refine KW.as 24 (.bool (decide (¬ (1 ≤ c ∧ c ≤ 4096 ∧ s.length % 512 = 0 ∧ ((s.length / 512 : Nat) : Int) ≤ c)))) rfl (congrArg Value.bool (decide_eq_decide.2 (by omega))) ?_
          refine KW.meet1 (()) ⟨rfl, rfl, rfl, trivial⟩ rfl ?_
          trivial
  · rintro _ _
    refine KW.condD rfl (fun hm => ?_) (fun hm => ?_)
    · refine KW.seq (KW.region ?_)
      refine OW.val rfl rfl (EX.assign rfl) ?_
      refine OW.val rfl rfl (EX.assign rfl) ?_
      refine OW.nil ?_
      refine KW.ret (ret2 rfl rfl rfl ?_)
      exact ⟨_, 2, rfl, Ext.refl _, .inl ⟨hm, rfl, rfl⟩⟩
    · have hmay : may c s := Classical.not_not.1 hm
      obtain ⟨m1, m2, m3, m4⟩ := id hmay
      obtain ⟨j, rfl⟩ := Int.eq_ofNat_of_zero_le (show 0 ≤ c by omega)
      refine KW.skip (KW.seq (KW.region ?_))
      refine OW.val rfl rfl (EX.move rfl) ?_
      refine OW.val rfl rfl (EX.move rfl) ?_
      refine OW.bytesOf rfl rfl Tryz.underlying9 Tryz.underlying59 Tryz.underlying5 rfl (by omega) ?_
      rintro cp rs w1 hb1 hc1 hm1 hl1 hx1
      refine OW.val rfl rfl (EX.move rfl) ?_
      refine OW.bytesOf rfl rfl Tryz.underlying9 Tryz.underlying59 Tryz.underlying5 rfl (by omega) ?_
      rintro cp2 rs2 w2 hb2 hc2 hm2 hl2 hx2
      refine OW.val rfl rfl (EX.buildS (pl := [(0, 1), (1, 1), (2, 1), (3, 1), (4, 2), (6, 1), (7, 1)]) (ks := [0, 1, 2]) (is := [0, 1, 2]) (zs := [.int .i64 0, .slice none 0 0, .slice none 0 0, .slice none 0 0, .int .i64 0, .slice none 0 0, .bool false, .int .i64 0]) Tryz.underlying74 ti74 (by kernel_rfl) rfl rfl rfl (by first | rfl | (simp only [List.all_cons, List.all_nil, Bool.and_true, Bool.true_and, Bool.and_eq_true, Value.oneCell']; repeat (first | assumption | exact Own.one (by assumption) | constructor))) (by simp only [setAll, List.set_cons_zero, List.set_cons_succ]; rfl)) ?_
      refine OW.boxS rfl rfl rfl ?_
      rintro b w3 hge hb3 hx3
      refine OW.val rfl rfl (EX.assign rfl) ?_
      refine OW.val rfl rfl (EX.assign rfl) ?_
      refine OW.nil ?_
      refine KW.ret (ret2 rfl rfl rfl ?_)
      have e1 := Own.ofBytes hb1 (Nat.le_refl _) hc1 hm1 hl1
      have z1 := hx1.size
      have z2 := hx2.size
      have e2 : Own w2 w.heap.size 5 1 _ _ _ := Own.ofBytes hb2 z1 hc2 hm2 hl2
      have l1 := hb1.lt
      refine ⟨_, 0, rfl, (hx1.trans hx2).trans hx3, .inr ⟨hmay, b, rfl, rfl, _, _, _, _, [], ⟨by omega, hb3, (e1.ext hx2).ext hx3, e2.ext hx3, ?_, Own.nil _ _ _ _, trivial, Own.nil _ _ _ _⟩⟩⟩
      intro k hk hk'
      simp [Value.ownBlock] at hk hk'
      omega
theorem new_s (c : Int) (c0 : -9223372036854775808 ≤ c) (c1 : c ≤ 9223372036854775807) (w : World) :
    Ret Tryz.prog 8 [.int .i64 c] w fun v w' => ∃ (p : Value) (e : Nat), v = .tuple #[p, .int .i64 (e : Int)] ∧ Ext w w' ∧ ((¬ may c [] ∧ p = .pointer none ∧ e = 2) ∨ (may c [] ∧ ∃ b, p = .pointer (some ⟨b, 0, none⟩) ∧ e = 0 ∧ DevAt w' w.heap.size b (fresh c.toNat []))) := by
  refine Ret.enter Tryz.func8 rfl Tryz.ntmps8 (by kernel_rfl) rfl ?_
  refine KW.seq (KW.region ?_)
  refine OW.val rfl rfl (EX.assign rfl) ?_
  refine OW.val rfl rfl (EX.assign rfl) ?_
  refine OW.nil ?_
  refine KW.seq (KW.region ?_)
  refine OW.val rfl rfl (EX.move rfl) ?_
  refine OW.call rfl rfl rfl (load_s c c0 c1 [] (by simp) w) ?_
  rintro _ w1 ⟨p, e, rfl, hx, hor⟩
  refine OW.val rfl rfl (EX.extract rfl rfl) ?_
  refine OW.val rfl rfl (EX.extract rfl rfl) ?_
  refine OW.val rfl rfl (EX.assign rfl) ?_
  refine OW.val rfl rfl (EX.assign rfl) ?_
  refine OW.nil ?_
  refine KW.ret (ret2 rfl rfl rfl ?_)
  exact ⟨p, e, rfl, hx, hor⟩
section
variable {D : Dv}
theorem write_ok (h : D.Ok) (i : Int) (s : List UInt8) : (D.write i s).1.Ok := by
  unfold Dv.write
  split
  · exact h
  · split
    · exact h
    · split
      · exact h
      · rename_i h1 h2
        refine does_ok h fun d hd => ?_
        cases hd
        exact ⟨by omega, by simpa using h2⟩
end
def A0 : Dv := fresh 4 []
def A1 : Dv := (A0.write 2 (sector 120 false)).1
def A2 : Dv := A1.sync.1
def A3 : Dv := (A2.write 4 (sector 120 false)).1
def A4 : Dv := (A3.plan 2 [false, true]).1
def A5 : Dv := (A4.write 2 (sector 121 false)).1
def A6 : Dv := (A5.write 0 (sector 121 false)).1
theorem e1 : (A0.write 2 (sector 120 false)).1 = A1 := rfl
theorem e2 : A1.sync.1 = A2 := rfl
theorem e3 : (A2.write 4 (sector 120 false)).1 = A3 := rfl
theorem e4 : (A3.plan 2 [false, true]).1 = A4 := rfl
end Go.Proofs.YtlpnoogcdnfllaaGreatDoor
namespace Go.Proofs.YtlpnoogcdnfllaaGreatDoor
open Go.RowKit
section
variable {P : Program} {n : Nat} {σ : Sig} {w : World} {x y : Operand} {t e ty T T' : TypeId} {b o : Nat} {z v : Value} {s bs : Nat} {l : List Value}
theorem run_eq_arr2 {a0 a1 b0 b1 : Value} {q0 q1 : Bool} {d : TypeDesc} (ht : P.underlying t = some (.array 2 e)) (he : P.underlying e = some d) (hf : flat d = true) (hi : TI P e z 1 bs)
    (h0 : ∀ k, (Op.equalIn (k + 1) e a0 b0).run P w = .ok q0 w) (h1 : ∀ k, (Op.equalIn (k + 1) e a1 b1).run P w = .ok q1 w) (k : Nat) : (Op.equalIn (k + 1 + 1) t (.agg #[a0, a1]) (.agg #[b0, b1])).run P w = .ok (q0 && q1) w := by
  have hr : List.range' 0 2 = [0, 1] := rfl
  rw [Op.equalIn]
  simp only [Sem.run_bind, run_underlying ht, Result.andThen_ok, run_sizeOf hi]
  cases q0 <;> cases q1 <;> simp [Std.Legacy.Range.forIn_eq_forIn_range', Std.Legacy.Range.size, hr, part, run_isAgg he, hf, h0 k, h1 k, Sem.run_bind]
inductive FE (P : Program) (w : World) (xs ys : List Value) : List Field → List Bool → Prop
  | nil : FE P w xs ys [] []
  | cons {f : Field} {fs : List Field} {q : Bool} {qs : List Bool} {u v : Value} (hn : f.name ≠ "_") (hx : (part f.type xs.toArray f.offset).run P w = .ok u w) (hy : (part f.type ys.toArray f.offset).run P w = .ok v w)
      (he : ∀ k, (Op.equalIn (k + 1 + 1 + 1) f.type u v).run P w = .ok q w) (hr : FE P w xs ys fs qs) : FE P w xs ys (f :: fs) (q :: qs)
theorem FE.run {xs ys : List Value} (k : Nat) : ∀ {fs : List Field} {qs : List Bool}, FE P w xs ys fs qs → (Op.eqFields (k + 1 + 1 + 1) xs.toArray ys.toArray fs).run P w = .ok (qs.all id) w
  | _, _, .nil => by simp [Op.eqFields]
  | f :: fs, q :: qs, .cons (u := u) (v := v) hn h1 h2 he hr => by
    have ih := FE.run k hr
    simp only [Op.eqFields]
    rw [if_pos hn]
    simp only [Sem.run_bind, h1, h2, he k, Result.andThen_ok]
    cases q
    · simp
    · simpa using ih
theorem FE.one {f : Field} {fs : List Field} {q : Bool} {qs : List Bool} {xs ys : List Value} {u v : Value} {d : TypeDesc} (hn : f.name ≠ "_") (hd : P.underlying f.type = some d) (hfl : flat d = true) (hx : xs[f.offset]? = some u) (hy : ys[f.offset]? = some v)
    (he : ∀ k, (Op.equalIn (k + 1) f.type u v).run P w = .ok q w) (hr : FE P w xs ys fs qs) : FE P w xs ys (f :: fs) (q :: qs) :=
  .cons hn (by simp [part, Sem.run_bind, run_isAgg hd, hfl, hx]) (by simp [part, Sem.run_bind, run_isAgg hd, hfl, hy]) (fun k => he (k + 1 + 1)) hr
theorem FE.two {f : Field} {fs : List Field} {q0 q1 : Bool} {qs : List Bool} {xs ys : List Value} {a0 a1 b0 b1 : Value} {d : TypeDesc} {bs' : Nat} {z' : Value} (hn : f.name ≠ "_") (hd : P.underlying f.type = some (.array 2 e)) (ht : TI P f.type z' 2 bs') (he : P.underlying e = some d) (hf : flat d = true) (hi : TI P e z 1 bs)
    (hx : (xs.drop f.offset).take 2 = [a0, a1]) (hy : (ys.drop f.offset).take 2 = [b0, b1])
    (h0 : ∀ k, (Op.equalIn (k + 1) e a0 b0).run P w = .ok q0 w) (h1 : ∀ k, (Op.equalIn (k + 1) e a1 b1).run P w = .ok q1 w) (hr : FE P w xs ys fs qs) : FE P w xs ys (f :: fs) ((q0 && q1) :: qs) :=
  .cons hn (by simp [part, Sem.run_bind, run_isAgg hd, flat, run_sizeOf ht, hx]) (by simp [part, Sem.run_bind, run_isAgg hd, flat, run_sizeOf ht, hy]) (fun k => run_eq_arr2 hd he hf hi h0 h1 (k + 1)) hr
theorem FE.str {f : Field} {fs : List Field} {fs' : Array Field} {qs qs' : List Bool} {xs ys us vs : List Value} {m bs' : Nat} {z' : Value} (hn : f.name ≠ "_") (hd : P.underlying f.type = some (.struct fs')) (hp : P.stoodInHeld f.type = false) (ht : TI P f.type z' m bs')
    (hx : (xs.drop f.offset).take m = us) (hy : (ys.drop f.offset).take m = vs) (h : FEqs P w us vs fs'.toList qs') (hr : FE P w xs ys fs qs) : FE P w xs ys (f :: fs) ((qs'.all id) :: qs) := by
  have hf : P.fieldsOf f.type = fs' := by unfold Program.fieldsOf; rw [hd]
  refine .cons (u := .agg us.toArray) (v := .agg vs.toArray) hn (by simp [part, Sem.run_bind, run_isAgg hd, flat, run_sizeOf ht, hx]) (by simp [part, Sem.run_bind, run_isAgg hd, flat, run_sizeOf ht, hy]) (fun k => ?_) hr
  rw [run_equalIn_agg w _ f.type _ _ (by rw [hf]; exact hd) hp, hf, h.run]
theorem EX.neqV {fs : Array Field} {xs ys : List Value} {qs : List Bool} {r : Bool} (hu : P.underlying t = some (.struct fs)) (hp : P.stoodInHeld t = false) (hm : P.eqGuardType P.depth t = false) (hx : ev σ x = some (.agg xs.toArray)) (hy : ev σ y = some (.agg ys.toArray))
    (h : FE P w xs ys fs.toList qs) (hr : (!qs.all id) = r) : EX P n σ (.binOp .neq t x y T) ty w (.bool r) w := by
  subst hr
  have hf : P.fieldsOf t = fs := by unfold Program.fieldsOf; rw [hu]
  refine EX.bin hx hy (run_eqGuard_agg w _ t x y _ _ hm) ?_
  rw [run_neq_struct, show (10000 : Nat) = 9996 + 1 + 1 + 1 + 1 from rfl, run_equalIn_agg w _ t _ _ (by rw [hf]; exact hu) hp, hf, h.run]
  rfl
end
section
variable {P : Program} {R : Act → World → Prop} {k : List KI} {n : Nat} {σ : Sig} {w : World}
theorem pst_goto {l : Nat} : ∀ (k : List KI) (a : Act) (w : World), pst P R k (.goto l) a w → False
  | [], _, _, h => h
  | .code _ :: k, a, w, h => pst_goto k a w h
  | .blk _ :: k, a, w, h => pst_goto k a w h
  | .asr _ :: k, a, w, h => pst_goto k a w h
theorem KW.scope {c : Code} (h : KW P R (.code c :: k) n σ w) : KW P R (.code (.scope c) :: k) n σ w := fun a ha => by
  refine wp_scope_straight ?_
  intro b k' cs
  obtain ⟨e, a₁, w₁, hq, harr⟩ := h a ha b k' cs
  refine ⟨e, a₁, w₁, ?_, harr⟩
  cases e with
  | goto l => exact pst_goto k _ _ hq
  | normal => exact hq
  | exit id => exact hq
  | ret => exact hq
  | panic ch => exact hq
  | outgrown => exact hq
end
end Go.Proofs.YtlpnoogcdnfllaaGreatDoor
namespace Go.Proofs.YtlpnoogcdnfllaaGreatDoor
open Go.RowKit
theorem flat_get {α : Type} {cells : α → List Value} {c : Nat} (hc : ∀ a, (cells a).length = c) : ∀ (l : List α) (i j : Nat) (hi : i < l.length) (u : Value), (cells l[i])[j]? = some u → (l.flatMap cells)[i * c + j]? = some u
  | a :: l, 0, j, hi, u, hu => by
    have hj : j < (cells a).length := (List.getElem?_eq_some_iff.1 hu).1
    rw [Nat.zero_mul, Nat.zero_add, List.flatMap_cons, List.getElem?_append_left hj]
    exact hu
  | a :: l, i + 1, j, hi, u, hu => by
    rw [List.flatMap_cons, List.getElem?_append_right (by rw [hc, Nat.succ_mul]; omega), hc, show (i + 1) * c + j - c = i * c + j by rw [Nat.succ_mul]; omega]
    exact flat_get hc l i j (by simpa using hi) u hu
theorem Sl.flat {α : Type} {cells : α → List Value} {c : Nat} {w : World} {B : Nat} {A : Option Addr} {l : List α} (h : Sl w B A (l.flatMap cells)) (hc : ∀ a, (cells a).length = c) (h0 : 0 < c) {i : Nat} (hi : i < l.length) :
    ∃ b o, A = some ⟨b, o, none⟩ ∧ b < B ∧ ∀ j u, (cells l[i])[j]? = some u → w.cell? ⟨b, o + i * c + j, none⟩ = some u := by
  have hlt : 0 < (cells l[i]).length := by rw [hc]; exact h0
  have hp : 0 < (l.flatMap cells).length := by
    have := (List.getElem?_eq_some_iff.1 (flat_get hc l i 0 hi _ (List.getElem?_eq_getElem hlt))).1
    omega
  obtain ⟨b, o, e, hb, hcell⟩ := h.at_ hp
  exact ⟨b, o, e, hb, fun j u hu => by rw [Nat.add_assoc]; exact hcell _ _ (flat_get hc l i j hi u hu)⟩
theorem fold_at (off : Nat) : ∀ (vs : List Value) (k : Nat) (pre post : List Value), pre.length = off + k → vs.length ≤ post.length →
    (vs.zipIdx k).foldl (fun (cs : Array Value) (x : Value × Nat) => cs.setIfInBounds (off + x.2) x.1) (pre ++ post).toArray = (pre ++ vs ++ post.drop vs.length).toArray
  | [], k, pre, post, _, _ => by simp
  | v :: vs, k, pre, p :: post, hp, h => by
    have ih := fold_at off vs (k + 1) (pre ++ [v]) post (by simp [hp]; omega) (by simpa using h)
    have hset : (pre ++ p :: post).toArray.setIfInBounds (off + k) v = ((pre ++ [v]) ++ post).toArray := by simp [← hp]
    simp only [List.zipIdx_cons, List.foldl_cons]
    rw [hset, ih]
    simp
  | v :: vs, k, pre, [], hp, h => by simp at h
theorem fill_agg (s : Nat) : ∀ (vss : List (List Value)) (i : Nat) (pre post : List Value), pre.length = i * s → (∀ v ∈ vss, v.length = s) → post.length = vss.length * s →
    Instr.fill (fun i => some (i * s, s)) (pre ++ post).toArray ((vss.zipIdx i).map fun (v, j) => (j, Value.agg v.toArray)) = some (pre ++ vss.flatten).toArray
  | [], i, pre, post, hp, _, hl => by
    have : post = [] := List.eq_nil_of_length_eq_zero (by simpa using hl)
    subst this
    simp [Instr.fill]
  | v :: vss, i, pre, post, hp, h1, hl => by
    have hv := h1 v (by simp)
    have hl' : post.length = vss.length * s + s := by rw [hl, List.length_cons, Nat.succ_mul]
    have ih := fill_agg s vss (i + 1) (pre ++ v) (post.drop s) (by rw [List.length_append, hp, hv, Nat.succ_mul]) (fun u hu => h1 u (by simp [hu])) (by rw [List.length_drop]; omega)
    have hf := fold_at (i * s) v 0 pre post (by omega) (by omega)
    simp only [List.zipIdx_cons, List.map_cons, Instr.fill, Value.cells, List.size_toArray]
    have hn : ¬ (v.length ≠ s ∨ i * s + v.length > (pre ++ post).length) := by rw [List.length_append]; omega
    simp only [ne_eq, Bool.or_eq_true, decide_eq_true_eq]
    rw [if_neg (by simpa using hn)]
    have hz : v.toArray.zipIdx.foldl (fun cs (x : Value × Nat) => cs.setIfInBounds (i * s + x.2) x.1) (pre ++ post).toArray = ((pre ++ v) ++ post.drop s).toArray := by
      rw [← Array.foldl_toList, Array.toList_zipIdx]
      rw [hv] at hf
      exact hf
    rw [hz]
    simpa using ih
section
variable {P : Program} {n : Nat} {σ : Sig} {w w0 : World} {x y : Operand} {t e ty T : TypeId} {s bs : Nat} {R : Act → World → Prop} {ops : Array Oper} {rest : List Oper} {k : List KI} {pos : String} {after : Array Edge} {g : Option (Nat × Bool)} {d fuel : Nat} {S : World → Prop} {listed : Array Bool}
theorem EX.buildSliceG {z : Value} {parts : Array (Nat × Operand)} (len : Nat) (vss : List (List Value)) (ht : P.underlying t = some (.slice e)) (hi : TI P e z s bs) (hzs : z.cells.size = s) (hs0 : 0 < s)
    (hv : evs σ (parts.toList.map (·.2)) = some (vss.map fun v => Value.agg v.toArray)) (hp : parts.toList.map (·.1) = List.range' 0 parts.toList.length) (hl : vss.length = len) (h1 : ∀ v ∈ vss, v.length = s) (hlen : len * s ≤ 16777216) :
    EX P n σ (.buildSlice t len parts) ty w (.slice (some ⟨w.heap.size, 0, none⟩) len len) (w.alloc (.cells vss.flatten.toArray e)) := fun A ha dst pos after g => by
  have hpv : (parts.map fun (p : Nat × Operand) => (p.1, A.eval p.2)).toList = vss.zipIdx.map fun (v, j) => (j, Value.agg v.toArray) := by
    have h2 := ha.evs hv
    apply List.ext_getElem?
    intro j
    have e1 := congrArg (·[j]?) h2
    have e2 := congrArg (·[j]?) hp
    simp only [List.getElem?_map] at e1 e2
    simp only [Array.toList_map, List.getElem?_map, List.getElem?_zipIdx]
    have hlp : parts.toList.length = vss.length := by
      have := congrArg List.length h2
      simpa using this
    by_cases hj : j < vss.length
    · rw [List.getElem?_eq_getElem (by omega : j < parts.toList.length)] at e1 e2 ⊢
      rw [List.getElem?_eq_getElem hj] at e1 ⊢
      simp only [Option.map_some, Option.some.injEq] at e1 e2 ⊢
      rw [List.getElem?_range' (by omega)] at e2
      simp only [Option.some.injEq] at e2
      rw [e1, e2]
      simp
    · rw [List.getElem?_eq_none (by omega : parts.toList.length ≤ j), List.getElem?_eq_none (by omega : vss.length ≤ j)]
      rfl
  have hn : ¬ (len * s > 2 ^ 24) := by omega
  generalize hzz : ((Array.range (len * s)).map fun j => z.cells[j % z.cells.size]!) = zz
  have hzl : zz.size = len * s := by rw [← hzz]; simp
  obtain ⟨zl⟩ := zz
  have hf := fill_agg s vss 0 [] zl (by simp) h1 (by rw [hl]; simpa using hzl)
  simp only [List.nil_append] at hf
  simp only [execOp, Sem.run_bind]
  have hb : (Instr.buildSlice t len (parts.map fun (p : Nat × Operand) => (p.1, A.eval p.2))).run P w = .ok (.slice (some ⟨w.heap.size, 0, none⟩) len len) (w.alloc (.cells vss.flatten.toArray e)) := by
    simp only [Instr.buildSlice, Sem.run_bind, run_underlying ht, run_sizeOf hi, Result.andThen_ok, if_neg hn, hpv, Sem.run_pure]
    by_cases h0 : len * s = 0
    · have hlen0 : len = 0 := by
        rcases Nat.mul_eq_zero.1 h0 with h | h
        · exact h
        · omega
      subst hlen0
      have hv0 : vss = [] := List.eq_nil_of_length_eq_zero hl
      subst hv0
      simp [Instr.fill, newRow, newObj, Sem.run_bind, Sem.run, Array.range_zero']
    · rw [if_neg h0]
      simp only [Sem.run_bind, run_zeroValue hi, Result.andThen_ok, Sem.run_pure, hzz, hf]
      simp [newRow, newObj, Sem.run_bind, Sem.run]
  rw [show (parts.map fun (x : Nat × Operand) => match x with | (i, x) => (i, A.eval x)) = (parts.map fun (x : Nat × Operand) => (x.1, A.eval x.2)) from rfl, hb]
  rfl
theorem OW.buildG {z : Value} {parts : Array (Nat × Operand)} (len : Nat) (vss : List (List Value)) (hg : wantS ops σ g = some true) (hd : Nat.blt d n = true) (ht : P.underlying T = some (.slice e)) (hi : TI P e z s bs) (hzs : z.cells.size = s) (hs0 : 0 < s)
    (hv : evs σ (parts.toList.map (·.2)) = some (vss.map fun v => Value.agg v.toArray)) (hp : parts.toList.map (·.1) = List.range' 0 parts.toList.length) (hl : vss.length = len) (h1 : ∀ v ∈ vss, v.length = s) (hlen : len * s ≤ 16777216)
    (h : ∀ b w', w.heap.size ≤ b → Bk w' b e vss.flatten → Ext w w' → OW P R ops rest k n ((d, .slice (some ⟨b, 0, none⟩) len len) :: σ) w') : OW P R ops (⟨some d, .buildSlice T len parts, ty, pos, after, g⟩ :: rest) k n σ w :=
  OW.val hg hd (EX.buildSliceG len vss ht hi hzs hs0 hv hp hl h1 hlen) (h _ _ (Nat.le_refl _) (Bk.new w e _) (Ext.alloc w _))
theorem GW.buildG (i : Nat) {z : Value} {parts : Array (Nat × Operand)} (len : Nat) (vss : List (List Value)) (hi' : ops[i]? = some ⟨some d, .buildSlice T len parts, ty, pos, after, g⟩) (hr : Region.ready .any ops listed = [i]) (hg : wantS ops σ g = some true) (hd : Nat.blt d n = true) (ht : P.underlying T = some (.slice e)) (hi : TI P e z s bs) (hzs : z.cells.size = s) (hs0 : 0 < s)
    (hv : evs σ (parts.toList.map (·.2)) = some (vss.map fun v => Value.agg v.toArray)) (hp : parts.toList.map (·.1) = List.range' 0 parts.toList.length) (hl : vss.length = len) (h1 : ∀ v ∈ vss, v.length = s) (hlen : len * s ≤ 16777216)
    (h : ∀ b w', w.heap.size ≤ b → Bk w' b e vss.flatten → Ext w w' → S w' ∧ (S w' → GW P R ops S fuel (listed.setIfInBounds i true) k n ((d, .slice (some ⟨b, 0, none⟩) len len) :: σ) w')) : GW P R ops S (fuel + 1) listed k n σ w :=
  GW.new i hi' hr hg hd (EX.buildSliceG len vss ht hi hzs hs0 hv hp hl h1 hlen) (h _ _ (Nat.le_refl _) (Bk.new w e _) (Ext.alloc w _))
theorem GO.buildG (i : Nat) {z : Value} {parts : Array (Nat × Operand)} (len : Nat) (vss : List (List Value)) (hi' : ops[i]? = some ⟨some d, .buildSlice T len parts, ty, pos, after, g⟩) (hg : wantS ops σ g = some true) (hd : Nat.blt d n = true) (ht : P.underlying T = some (.slice e)) (hi : TI P e z s bs) (hzs : z.cells.size = s) (hs0 : 0 < s)
    (hv : evs σ (parts.toList.map (·.2)) = some (vss.map fun v => Value.agg v.toArray)) (hp : parts.toList.map (·.1) = List.range' 0 parts.toList.length) (hl : vss.length = len) (h1 : ∀ v ∈ vss, v.length = s) (hlen : len * s ≤ 16777216)
    (h : ∀ b w', w.heap.size ≤ b → Bk w' b e vss.flatten → Ext w w' → S w' ∧ (S w' → GW P R ops S fuel (listed.setIfInBounds i true) k n ((d, .slice (some ⟨b, 0, none⟩) len len) :: σ) w')) : GO P R ops S fuel listed k n σ w i :=
  GO.new i hi' hg hd (EX.buildSliceG len vss ht hi hzs hs0 hv hp hl h1 hlen) (h _ _ (Nat.le_refl _) (Bk.new w e _) (Ext.alloc w _))
end
section
variable {P : Program} {fn : Func} {Q : Value → World → Prop} {n : Nat} {σ : Sig} {w : World}
theorem retC1 {t : Nat} {T T' : TypeId} {b s bs : Nat} {z : Value} {d : TypeDesc} {l : List Value} (hs : fn.results = #[.cell t T]) (hu : P.underlying T = some d) (hd : flat d = false) (hi : TI P T z s bs) (hv : lk σ t = some (.pointer (some ⟨b, 0, none⟩)))
    (hb : Bk w b T' l) (hl : l.length = s) (hq : Q (.agg l.toArray) w) : ∀ a, Fr n σ a → bodyPost P fn (fun e w' => ∃ v, e = .returned v ∧ Q v w') .ret a w :=
  ret_of (fun a ha => by
    have h := EX.loadBk (P := P) (n := n) (σ := σ) (x := .tmp t) (ty := 0) hu hd hi hv hb hl a ha none "" #[] none
    have h1 : (loadVar T ⟨b, 0, none⟩).run P w = .ok (.agg l.toArray) w := by
      have et : a.eval (.tmp t) = .pointer (some ⟨b, 0, none⟩) := ha.ev (x := .tmp t) hv
      simp only [execOp, et, Instr.loadAt, Instr.sureAddr, Sem.run_bind, Sem.run_pure, Result.andThen_ok] at h
      cases hr : (loadVar T ⟨b, 0, none⟩).run P w with
      | ok v w' => rw [hr] at h; simpa using h
      | halt q w' => rw [hr] at h; simp at h
    have e1 := ha.val t _ hv
    simp only [results, hs]
    simp [Sem.run_bind, e1, asAddr, h1]) hq
end
end Go.Proofs.YtlpnoogcdnfllaaGreatDoor
namespace Go.Proofs.YtlpnoogcdnfllaaGreatDoor
open Go.RowKit Rec Pth Dsk Wal
def _root_.Go.Proofs.YtlpnoogcdnfllaaGreatDoor.Wal.Nt.cells (n : Nt) : List Value := .int .i64 n.kind :: n.mem.cells
abbrev ntsV (l : List Nt) : List Value := l.flatMap Nt.cells
theorem Bk.part {w : World} {b : Nat} {T : TypeId} {l l2 : List Value} {o : Nat} (h : Bk w b T l) (e : (l.drop o).take l2.length = l2) : ∀ j u, l2[j]? = some u → w.cell? ⟨b, o + j, none⟩ = some u := by
  intro j u hj
  apply h.cell_of
  have hlt : j < l2.length := (List.getElem?_eq_some_iff.1 hj).1
  rw [← e, List.getElem?_take, if_pos hlt, List.getElem?_drop] at hj
  exact hj
theorem mem_eq (a b : M) : ([decide (a.path = b.path), decide (a.start = b.start), decide (a.sectors = b.sectors), decide (a.size = b.size), decide ((a.sum : Int) = (b.sum : Int))].all id) = decide (a = b) := by
  obtain ⟨a1, a2, a3, a4, a5⟩ := a
  obtain ⟨b1, b2, b3, b4, b5⟩ := b
  have e : ((a5 : Int) = (b5 : Int)) ↔ a5 = b5 := by omega
  rw [Bool.eq_iff_iff]
  simp only [e, List.all_cons, List.all_nil, id, Bool.and_true, Bool.and_eq_true, decide_eq_true_eq, M.mk.injEq]
theorem nt_ne (a b : Nt) : (!([decide (a.kind = b.kind), ([decide (a.mem.path = b.mem.path), decide (a.mem.start = b.mem.start), decide (a.mem.sectors = b.mem.sectors), decide (a.mem.size = b.mem.size), decide ((a.mem.sum : Int) = (b.mem.sum : Int))].all id)].all id)) = decide (a ≠ b) := by
  rw [mem_eq]
  obtain ⟨a1, a2⟩ := a
  obtain ⟨b1, b2⟩ := b
  rw [Bool.eq_iff_iff]
  by_cases c1 : a1 = b1 <;> by_cases c2 : a2 = b2 <;> simp [c1, c2]
theorem data1 {m : M} : noteD ⟨1, m⟩ = if mayM m then some (memberT m) else none := by unfold noteD; rw [if_pos rfl]
theorem data2 {m : M} : noteD ⟨2, m⟩ = if checkP m.path = 0 ∧ m = bare m.path then some m.path else none := by unfold noteD; rw [if_neg (show ¬ (2 : Int) = 1 by decide), if_pos rfl]
theorem data3 {k : Int} {m : M} (h1 : k ≠ 1) (h2 : k ≠ 2) : noteD ⟨k, m⟩ = none := by unfold noteD; rw [if_neg h1, if_neg h2]
theorem may_of {n : Nt} {s : List UInt8} (h : noteD n = some s) : mayN n ∧ noteB n = s := by
  refine ⟨?_, ?_⟩
  · unfold mayN; rw [h]; simp
  · unfold noteB; rw [h]; rfl
theorem may_no {n : Nt} (h : noteD n = none) : ¬ mayN n := by unfold mayN; rw [h]; simp
def Told (n : Nt) (v : Value) : Prop := ∃ s, v = .tuple #[str s, .bool (decide (mayN n))] ∧ (mayN n → s = noteB n)
theorem told_yes {n : Nt} {s : List UInt8} (h : noteD n = some s) : Told n (.tuple #[str s, .bool true]) := ⟨s, by rw [decide_eq_true (may_of h).1], fun _ => (may_of h).2.symm⟩
theorem told_no {n : Nt} (s : List UInt8) (h : noteD n = none) : Told n (.tuple #[str s, .bool false]) := ⟨s, by rw [decide_eq_false (may_no h)], fun q => absurd q (may_no h)⟩
set_option maxRecDepth 20000 in
theorem data_s (n : Nt) (hn : n.mem.Ok) (w : World) : Ret Tryz.prog 22 [.agg n.cells.toArray] w fun v w' => Told n v ∧ Ext w w' := by
  obtain ⟨kd, m⟩ := n
  have hn' : m.Ok := hn
  refine Ret.enter Tryz.func22 rfl Tryz.ntmps22 (by kernel_rfl) rfl ?_
  refine KW.seq (KW.region ?_)
  refine OW.boxS rfl rfl rfl ?_
  rintro nb w1 hge1 hb1 hx1
  refine OW.val rfl rfl (EX.assign rfl) ?_
  refine OW.val rfl rfl (EX.assign rfl) ?_
  refine OW.nil ?_
  refine KW.seq (KW.seq (KW.region ?_))
  refine OW.val rfl rfl (EX.fieldAddr (off := 0) Tryz.underlying39 rfl rfl ti3 rfl rfl) ?_
  replace hb1 : Bk w1 nb 39 (Nt.cells ⟨kd, m⟩) := hb1
  have hsub := hb1.part (o := 1) (l2 := m.cells) rfl
  refine OW.val rfl rfl (EX.load Tryz.underlying3 rfl rfl (hb1.cell_of rfl)) ?_
  refine OW.nil ?_
  refine KW.block (KW.seq (KW.region ?_))
  refine OW.val rfl rfl (by first | exact EX.eqlN (b := 1) rfl rfl | exact EX.eqlZ rfl rfl) ?_
  refine OW.val rfl rfl (EX.assign rfl) ?_
  refine OW.nil ?_
  refine KW.condD rfl (fun h1 => ?_) (fun h1 => ?_)
  · have h1' : kd = 1 := h1
    subst h1'
    refine KW.seq (KW.region ?_)
    refine OW.val rfl rfl (EX.fieldAddr (off := 1) Tryz.underlying39 rfl rfl ti27 rfl rfl) ?_
    refine OW.val rfl rfl (EX.loadA (l := m.cells) Tryz.underlying27 rfl ti27 rfl rfl hsub) ?_
    refine OW.call rfl rfl rfl (member_s m hn' w1) ?_
    rintro _ w2 ⟨rfl, hx2⟩
    refine OW.val rfl rfl (EX.move rfl) ?_
    refine OW.val rfl rfl (EX.extract rfl rfl) ?_
    refine OW.val rfl rfl (EX.extract rfl rfl) ?_
    refine OW.val rfl rfl (EX.assign rfl) ?_
    refine OW.val rfl rfl (EX.assign rfl) ?_
    refine OW.nil ?_
    refine KW.seq (KW.region ?_)
    refine OW.val rfl rfl (EX.move rfl) ?_
    refine OW.val rfl rfl (EX.move rfl) ?_
    refine OW.val rfl rfl (by first | exact EX.eqlN (b := 0) rfl rfl | exact EX.eqlZ rfl rfl) ?_
    refine OW.val rfl rfl (EX.assign rfl) ?_
    refine OW.val rfl rfl (EX.assign rfl) ?_
    refine OW.nil ?_
    refine KW.ret (ret2 rfl rfl rfl ?_)
    refine ⟨?_, hx1.trans hx2⟩
    by_cases h : mayM m
    · rw [memberM_some h]
      exact told_yes (by rw [data1, if_pos h])
    · rw [memberM_none h]
      exact told_no _ (by rw [data1, if_neg h])
  · have h1' : ¬ kd = 1 := h1
    refine KW.seq (KW.region ?_)
    refine OW.val rfl rfl (by first | exact EX.eqlN (b := 2) rfl rfl | exact EX.eqlZ rfl rfl) ?_
    refine OW.val rfl rfl (EX.assign rfl) ?_
    refine OW.nil ?_
    refine KW.condD rfl (fun h2 => ?_) (fun h2 => ?_)
    · have h2' : kd = 2 := h2
      subst h2'
      refine KW.seq (KW.region ?_)
      refine OW.val rfl rfl (EX.fieldAddr (off := 1) Tryz.underlying39 rfl rfl ti27 rfl rfl) ?_
      refine OW.val rfl rfl (EX.fieldAddr (off := 0) Tryz.underlying27 rfl rfl ti9 rfl rfl) ?_
      refine OW.val rfl rfl (EX.load Tryz.underlying9 rfl rfl (hb1.cell_of rfl)) ?_
      refine OW.val rfl rfl (EX.assign rfl) ?_
      refine OW.nil ?_
      refine KW.seq ?_
      by_cases hc : checkP m.path = 0
      · have cp := check_s m.path hn'.path
        rw [hc] at cp
        refine KW.regionG (N := 13) (fun w' => Ext w w' ∧ Bk w' nb 39 (Nt.cells ⟨2, m⟩)) (by kernel_rfl) rfl ?_
        have hS := (⟨hx1.trans (Ext.drew _), hb1.drew⟩ : Ext w w1.drew ∧ Bk w1.drew nb 39 (Nt.cells ⟨2, m⟩))
        refine GW.val 0 rfl (by kernel_rfl) (by kernel_rfl) (by kernel_rfl) rfl rfl hS (fun w' hS' => EX.move rfl) ?_
        refine GW.val 1 rfl (by kernel_rfl) (by kernel_rfl) (by kernel_rfl) rfl rfl hS (fun w' hS' => EX.move rfl) ?_
        refine GW.call 2 rfl (by kernel_rfl) rfl rfl rfl (cp w1.drew) ?_
        rintro _ w2 ⟨rfl, hx2⟩
        refine ⟨⟨hS.1.trans hx2, hS.2.ext hx2⟩, fun hS => ?_⟩
        refine GW.val 3 rfl (by kernel_rfl) (by kernel_rfl) (by kernel_rfl) rfl rfl hS (fun w' hS' => by first | exact EX.eqlN (b := 0) rfl rfl | exact EX.eqlZ rfl rfl) ?_
        refine GW.val 4 rfl (by kernel_rfl) (by kernel_rfl) (by kernel_rfl) rfl rfl hS (fun w' hS' => EX.move rfl) ?_
        refine GW.as 29 (.bool true) rfl (congrArg Value.bool (decide_eq_true (rfl))) ?_
        refine GW.val 5 rfl (by kernel_rfl) (by kernel_rfl) (by kernel_rfl) rfl rfl hS (fun w' hS' => EX.fieldAddr (off := 1) Tryz.underlying39 rfl rfl ti27 rfl rfl) ?_
        refine GW.val 6 rfl (by kernel_rfl) (by kernel_rfl) (by kernel_rfl) rfl rfl hS (fun w' hS' => EX.loadA (l := m.cells) Tryz.underlying27 rfl ti27 rfl rfl (hS'.2.part (o := 1) (l2 := m.cells) rfl)) ?_
        refine GW.val 7 rfl (by kernel_rfl) (by kernel_rfl) (by kernel_rfl) rfl rfl hS (fun w' hS' => EX.move rfl) ?_
        refine GW.val 8 rfl (by kernel_rfl) (by kernel_rfl) (by kernel_rfl) rfl rfl hS (fun w' hS' => EX.buildS (pl := [(0, 1), (1, 1), (2, 1), (3, 1), (4, 1)]) (ks := [0]) (is := [0]) (zs := [str [], .int .i64 0, .int .i64 0, .int .i64 0, .int .u32 0]) Tryz.underlying27 ti27 (by kernel_rfl) rfl rfl rfl (by first | rfl | (simp only [List.all_cons, List.all_nil, Bool.and_true, Bool.true_and, Bool.and_eq_true, Value.oneCell']; repeat (first | assumption | exact Own.one (by assumption) | constructor))) (by simp only [setAll, List.set_cons_zero, List.set_cons_succ]; rfl)) ?_
        refine GW.val 9 rfl (by kernel_rfl) (by kernel_rfl) (by kernel_rfl) rfl rfl hS (fun w' hS' => EX.eqlG Tryz.underlying27 (by kernel_rfl) (by kernel_rfl) rfl rfl (.cons (by decide) Tryz.underlying9 rfl rfl rfl (eq_str Tryz.underlying9) (.cons (by decide) Tryz.underlying3 rfl rfl rfl (eq_int Tryz.underlying3) (.cons (by decide) Tryz.underlying3 rfl rfl rfl (eq_int Tryz.underlying3) (.cons (by decide) Tryz.underlying3 rfl rfl rfl (eq_int Tryz.underlying3) (.cons (by decide) Tryz.underlying25 rfl rfl rfl (eq_int Tryz.underlying25) .nil))))) rfl) ?_
        refine GW.val 10 rfl (by kernel_rfl) (by kernel_rfl) (by kernel_rfl) rfl rfl hS (fun w' hS' => EX.pickT rfl rfl) ?_
        refine GW.val 11 rfl (by kernel_rfl) (by kernel_rfl) (by kernel_rfl) rfl rfl hS (fun w' hS' => EX.assign rfl) ?_
        refine GW.val 12 rfl (by kernel_rfl) (by kernel_rfl) (by kernel_rfl) rfl rfl hS (fun w' hS' => EX.assign rfl) ?_
        refine GW.done (by kernel_rfl) ?_
        refine KW.ret (ret2 rfl rfl rfl ?_)
        refine ⟨?_, hS.1⟩
        have e := mem_eq m (bare m.path)
        by_cases h : m = bare m.path
        · rw [decide_eq_true h] at e
          refine (congrArg (Told ⟨2, m⟩) ?_).mpr (told_yes (s := m.path) (by rw [data2, if_pos ⟨hc, h⟩]))
          exact congrArg (fun q => Value.tuple #[str m.path, .bool q]) e
        · rw [decide_eq_false h] at e
          refine (congrArg (Told ⟨2, m⟩) ?_).mpr (told_no m.path (by rw [data2, if_neg (fun q => h q.2)]))
          exact congrArg (fun q => Value.tuple #[str m.path, .bool q]) e
      · have hc2 : checkP m.path = 140 := (checkP_or _).resolve_left hc
        have cp := check_s m.path hn'.path
        rw [hc2] at cp
        refine KW.regionG (N := 13) (fun w' => Ext w w' ∧ Bk w' nb 39 (Nt.cells ⟨2, m⟩)) (by kernel_rfl) rfl ?_
        have hS := (⟨hx1.trans (Ext.drew _), hb1.drew⟩ : Ext w w1.drew ∧ Bk w1.drew nb 39 (Nt.cells ⟨2, m⟩))
        refine GW.val 0 rfl (by kernel_rfl) (by kernel_rfl) (by kernel_rfl) rfl rfl hS (fun w' hS' => EX.move rfl) ?_
        refine GW.val 1 rfl (by kernel_rfl) (by kernel_rfl) (by kernel_rfl) rfl rfl hS (fun w' hS' => EX.move rfl) ?_
        refine GW.call 2 rfl (by kernel_rfl) rfl rfl rfl (cp w1.drew) ?_
        rintro _ w2 ⟨rfl, hx2⟩
        refine ⟨⟨hS.1.trans hx2, hS.2.ext hx2⟩, fun hS => ?_⟩
        refine GW.val 3 rfl (by kernel_rfl) (by kernel_rfl) (by kernel_rfl) rfl rfl hS (fun w' hS' => by first | exact EX.eqlN (b := 0) rfl rfl | exact EX.eqlZ rfl rfl) ?_
        refine GW.val 4 rfl (by kernel_rfl) (by kernel_rfl) (by kernel_rfl) rfl rfl hS (fun w' hS' => EX.move rfl) ?_
        refine GW.as 29 (.bool false) rfl (congrArg Value.bool (decide_eq_false (by decide))) ?_
        refine GW.pass 5 rfl (by kernel_rfl) (by kernel_rfl) (by kernel_rfl) rfl rfl hS ?_
        refine GW.pass 6 rfl (by kernel_rfl) (by kernel_rfl) (by kernel_rfl) rfl rfl hS ?_
        refine GW.pass 7 rfl (by kernel_rfl) (by kernel_rfl) (by kernel_rfl) rfl rfl hS ?_
        refine GW.pass 8 rfl (by kernel_rfl) (by kernel_rfl) (by kernel_rfl) rfl rfl hS ?_
        refine GW.pass 9 rfl (by kernel_rfl) (by kernel_rfl) (by kernel_rfl) rfl rfl hS ?_
        refine GW.val 10 rfl (by kernel_rfl) (by kernel_rfl) (by kernel_rfl) rfl rfl hS (fun w' hS' => EX.pickF rfl rfl) ?_
        refine GW.val 11 rfl (by kernel_rfl) (by kernel_rfl) (by kernel_rfl) rfl rfl hS (fun w' hS' => EX.assign rfl) ?_
        refine GW.val 12 rfl (by kernel_rfl) (by kernel_rfl) (by kernel_rfl) rfl rfl hS (fun w' hS' => EX.assign rfl) ?_
        refine GW.done (by kernel_rfl) ?_
        refine KW.ret (ret2 rfl rfl rfl ?_)
        exact ⟨told_no m.path (by rw [data2, if_neg (fun q => hc q.1)]), hS.1⟩
    · have h2' : ¬ kd = 2 := h2
      refine KW.skip (KW.leave (KW.seq (KW.region ?_)))
      refine OW.val rfl rfl (EX.assign rfl) ?_
      refine OW.val rfl rfl (EX.assign rfl) ?_
      refine OW.nil ?_
      refine KW.ret (ret2 rfl rfl rfl ?_)
      exact ⟨told_no [] (data3 h1' h2'), hx1⟩
end Go.Proofs.YtlpnoogcdnfllaaGreatDoor
namespace Go.Proofs.YtlpnoogcdnfllaaGreatDoor.Pth
open Go.Lib
theorem split_parts : ∀ (k : Nat) (s : List UInt8), count s [47] = k → splitK [47] 0 k s = parts s
  | 0, s, hk => by
    have hn : ∀ c ∈ s, c ≠ 47 := by
      intro c hc e
      subst e
      have hi := index_one s 47
      rcases Int.lt_or_le (index s [47]) 0 with h | h
      · have := index_ge s [47]
        have h1 : indexByte s 47 = -1 := by rw [← hi]; omega
        obtain ⟨j, hj⟩ := List.getElem?_of_mem hc
        exact indexByte_none h1 j hj
      · obtain ⟨i, hi'⟩ := Int.eq_ofNat_of_zero_le h
        have := count_hit (s := s) (sub := [47]) (by simp) hi'
        omega
    rw [splitK, parts_whole s hn]
  | k + 1, s, hk => by
    have hne : ¬ index s [47] = -1 := fun h => by rw [count_miss h] at hk; omega
    have hge := index_ge s [47]
    obtain ⟨i, hi⟩ := Int.eq_ofNat_of_zero_le (show 0 ≤ index s [47] by omega)
    have hc := count_hit (s := s) (sub := [47]) (by simp) hi
    have hb : indexByte s 47 = i := by rw [← index_one]; exact hi
    obtain ⟨h1, h2⟩ := indexByte_some hb
    have hlt : i < s.length := (List.getElem?_eq_some_iff.1 h1).1
    have hs : s = s.take i ++ 47 :: s.drop (i + 1) := by
      have e := List.take_append_drop i s
      rw [List.drop_eq_getElem_cons hlt] at e
      have e2 : s[i] = 47 := by
        have := List.getElem?_eq_getElem hlt
        rw [this] at h1
        exact Option.some.inj h1
      rw [e2] at e
      exact e.symm
    have hn : ∀ c ∈ s.take i, c ≠ 47 := by
      intro c hc' e
      subst e
      obtain ⟨j, hj⟩ := List.getElem?_of_mem hc'
      have hji : j < i := by
        have := (List.getElem?_eq_some_iff.1 hj).1
        rw [List.length_take] at this
        omega
      rw [List.getElem?_take_of_lt hji] at hj
      exact h2 j hji hj
    have hbe : ¬ (index s [47] == -1) = true := fun e => hne (beq_iff_eq.1 e)
    rw [splitK, if_neg hbe, show (index s [47]).toNat = i by omega, Nat.add_zero]
    have ih := split_parts k (s.drop (i + 1)) (by simp only [List.length_singleton] at hc; omega)
    rw [show i + [(47 : UInt8)].length = i + 1 from rfl, ih]
    conv => rhs; rw [hs]
    rw [parts_slash _ _ hn]
def cmpL : Txts → Txts → Int
  | [], [] => 0
  | [], _ :: _ => -1
  | _ :: _, [] => 1
  | x :: xs, y :: ys => if x = y then cmpL xs ys else compareBytes x y
def cmpP (a b : List UInt8) : Int := cmpL (parts a) (parts b)
theorem cb_eq : ∀ x y : List UInt8, compareBytes x y = 0 ↔ x = y
  | [], [] => by simp [compareBytes]
  | [], _ :: _ => by simp [compareBytes]
  | _ :: _, [] => by simp [compareBytes]
  | a :: x, b :: y => by
    have ih := cb_eq x y
    unfold compareBytes
    split
    · rename_i h
      have : a ≠ b := fun e => by subst e; exact absurd h (by simp)
      simp [this]
    · split
      · rename_i h
        have : a ≠ b := fun e => by subst e; exact absurd h (by simp)
        simp [this]
      · rename_i h1 h2
        have : a = b := by
          have h1' : ¬ a.toNat < b.toNat := h1
          have h2' : ¬ b.toNat < a.toNat := h2
          exact UInt8.toNat_inj.1 (by omega)
        subst this
        rw [ih]
        simp
theorem cb_val : ∀ x y : List UInt8, compareBytes x y = -1 ∨ compareBytes x y = 0 ∨ compareBytes x y = 1
  | [], [] => by simp [compareBytes]
  | [], _ :: _ => by simp [compareBytes]
  | _ :: _, [] => by simp [compareBytes]
  | a :: x, b :: y => by
    unfold compareBytes
    split
    · simp
    · split
      · simp
      · exact cb_val x y
theorem cb_neg : ∀ x y : List UInt8, compareBytes y x = - compareBytes x y
  | [], [] => by simp [compareBytes]
  | [], _ :: _ => by simp [compareBytes]
  | _ :: _, [] => by simp [compareBytes]
  | a :: x, b :: y => by
    have ih := cb_neg x y
    unfold compareBytes
    by_cases h1 : a < b
    · have h1' : a.toNat < b.toNat := h1
      have h2 : ¬ b < a := fun h => by have h' : b.toNat < a.toNat := h; omega
      simp [h1, h2]
    · by_cases h2 : b < a
      · simp [h1, h2]
      · simp [h1, h2, ih]
theorem cb_trans : ∀ x y z : List UInt8, compareBytes x y ≤ 0 → compareBytes y z ≤ 0 → compareBytes x z ≤ 0
  | [], y, [], _, _ => by simp [compareBytes]
  | [], y, _ :: _, _, _ => by simp [compareBytes]
  | a :: x, [], z, h, _ => by simp [compareBytes] at h
  | a :: x, b :: y, [], _, h => by simp [compareBytes] at h
  | a :: x, b :: y, c :: z, h1, h2 => by
    have ih := cb_trans x y z
    unfold compareBytes at h1 h2 ⊢
    have lt : ∀ p q : UInt8, (p < q) = (p.toNat < q.toNat) := fun _ _ => rfl
    simp only [lt] at h1 h2 ⊢
    split at h1
    · split at h2
      · rw [if_pos (by omega)]; decide
      · split at h2
        · omega
        · rw [if_pos (by omega)]; decide
    · split at h1
      · omega
      · split at h2
        · rw [if_pos (by omega)]; decide
        · split at h2
          · omega
          · rw [if_neg (by omega), if_neg (by omega)]
            exact ih h1 h2
theorem cmpL_val : ∀ x y : Txts, cmpL x y = -1 ∨ cmpL x y = 0 ∨ cmpL x y = 1
  | [], [] => by simp [cmpL]
  | [], _ :: _ => by simp [cmpL]
  | _ :: _, [] => by simp [cmpL]
  | a :: x, b :: y => by
    unfold cmpL
    split
    · exact cmpL_val x y
    · exact cb_val a b
theorem cmpL_eq : ∀ x y : Txts, cmpL x y = 0 ↔ x = y
  | [], [] => by simp [cmpL]
  | [], _ :: _ => by simp [cmpL]
  | _ :: _, [] => by simp [cmpL]
  | a :: x, b :: y => by
    unfold cmpL
    split
    · rename_i h; rw [cmpL_eq x y]; simp [h]
    · rename_i h
      rw [cb_eq]
      simp [h]
theorem cmpL_neg : ∀ x y : Txts, cmpL y x = - cmpL x y
  | [], [] => by simp [cmpL]
  | [], _ :: _ => by simp [cmpL]
  | _ :: _, [] => by simp [cmpL]
  | a :: x, b :: y => by
    unfold cmpL
    by_cases h : a = b
    · rw [if_pos h.symm, if_pos h]; exact cmpL_neg x y
    · rw [if_neg (fun e => h e.symm), if_neg h]; exact cb_neg a b
theorem cmpL_trans : ∀ x y z : Txts, cmpL x y ≤ 0 → cmpL y z ≤ 0 → cmpL x z ≤ 0
  | [], y, [], _, _ => by simp [cmpL]
  | [], y, _ :: _, _, _ => by simp [cmpL]
  | a :: x, [], z, h, _ => by simp [cmpL] at h
  | a :: x, b :: y, [], _, h => by simp [cmpL] at h
  | a :: x, b :: y, c :: z, h1, h2 => by
    have ih := cmpL_trans x y z
    unfold cmpL at h1 h2 ⊢
    by_cases e1 : a = b
    · subst e1
      rw [if_pos rfl] at h1
      by_cases e2 : a = c
      · rw [if_pos e2] at h2 ⊢
        exact ih h1 h2
      · rw [if_neg e2] at h2 ⊢
        exact h2
    · rw [if_neg e1] at h1
      by_cases e2 : b = c
      · subst e2
        rw [if_neg e1]
        exact h1
      · rw [if_neg e2] at h2
        have h3 := cb_trans a b c h1 h2
        by_cases e3 : a = c
        · subst e3
          have h4 := cb_neg a b
          have h5 : compareBytes a b = 0 := by omega
          exact absurd ((cb_eq a b).1 h5) e1
        · rw [if_neg e3]
          exact h3
def glue : Txts → List UInt8
  | [] => []
  | [x] => x
  | x :: y :: l => x ++ 47 :: glue (y :: l)
theorem glue_parts : ∀ s, glue (parts s) = s
  | [] => rfl
  | c :: s => by
    have ih := glue_parts s
    rw [parts_cons]
    split
    · rename_i h
      subst h
      rcases hp : parts s with _ | ⟨p, r⟩
      · exact absurd hp (parts_ne s)
      · rw [hp] at ih
        simp [glue, ih]
    · rcases hp : parts s with _ | ⟨p, r⟩
      · exact absurd hp (parts_ne s)
      · rw [hp] at ih
        cases r with
        | nil => simp [glue] at ih ⊢; exact ih
        | cons q r => simp [glue] at ih ⊢; exact ih
theorem cmpP_eq (a b : List UInt8) : cmpP a b = 0 ↔ a = b := by
  unfold cmpP
  rw [cmpL_eq]
  constructor
  · intro h
    rw [← glue_parts a, ← glue_parts b, h]
  · rintro rfl; rfl
end Go.Proofs.YtlpnoogcdnfllaaGreatDoor.Pth
namespace Go.Proofs.YtlpnoogcdnfllaaGreatDoor
open Go.RowKit Pth
def MLen (w : World) : Prop := ∃ m : Int, w.cell? ⟨0, 0, none⟩ = some (.int .i64 m)
theorem MLen.ext {w w' : World} (h : MLen w) (hx : Ext w w') : MLen w' := by
  obtain ⟨m, hm⟩ := h
  refine ⟨m, ?_⟩
  have hlt : 0 < w.heap.size := World.block_lt_of_cell? w _ hm
  have := hx.block _ hlt
  unfold World.cell? at hm ⊢
  rwa [this]
theorem parts_len (s : List UInt8) : (parts s).length ≤ s.length + 1 := by
  have h1 := wt_len (parts s)
  rwa [wt_parts] at h1
theorem compare_c (x y : List UInt8) (w : World) : Ret Tryz.prog 34 [str x, str y] w fun v w' => v = .int .i64 (Go.Lib.compareBytes x y) ∧ w = w' := by
  have hn : (!(Tryz.f34.name == "runtime.NumGoroutine") && Tryz.f34.body.isSome) = true := by kernel_rfl
  refine (Ret.of_calls Tryz.func34 hn ((Tryz.strings_Compare ⟨x.toArray⟩ ⟨y.toArray⟩ w).mono (fun e w' q => q))).mono ?_
  rintro v w' ⟨rfl, rfl⟩
  exact ⟨rfl, rfl⟩
theorem RetQ.of1 {P : Program} {f : FuncId} {args : List Value} {w : World} {v : Value} (h : Ret P f args w fun v' w' => v' = v ∧ w = w') : RetQ P f args w v :=
  h.mono fun _ _ ⟨h1, h2⟩ => ⟨h1, 0, by subst h2; rfl⟩
theorem cmpL_skip : ∀ (i : Nat) (x y : Txts), (∀ j, j < i → x[j]? = y[j]?) → i ≤ x.length → i ≤ y.length → cmpL x y = cmpL (x.drop i) (y.drop i)
  | 0, x, y, _, _, _ => rfl
  | i + 1, [], y, _, h, _ => by simp at h
  | i + 1, x, [], _, _, h => by simp at h
  | i + 1, a :: x, b :: y, h, h1, h2 => by
    have h0 := h 0 (by omega)
    simp only [List.getElem?_cons_zero, Option.some.injEq] at h0
    subst h0
    rw [cmpL, if_pos rfl]
    simp only [List.drop_succ_cons]
    exact cmpL_skip i x y (fun j hj => by have := h (j + 1) (by omega); simpa using this) (by simpa using h1) (by simpa using h2)
theorem cmpL_at {x y : Txts} {i : Nat} (hs : ∀ j, j < i → x[j]? = y[j]?) (h1 : i < x.length) (h2 : i < y.length) (hne : x[i] ≠ y[i]) : cmpL x y = Go.Lib.compareBytes x[i] y[i] := by
  rw [cmpL_skip i x y hs (by omega) (by omega), List.drop_eq_getElem_cons h1, List.drop_eq_getElem_cons h2, cmpL, if_neg hne]
theorem cmpL_end {x y : Txts} {i : Nat} (hs : ∀ j, j < i → x[j]? = y[j]?) (hi : i = min x.length y.length) : cmpL x y = if x.length < y.length then -1 else if y.length < x.length then 1 else 0 := by
  rw [cmpL_skip i x y hs (by omega) (by omega)]
  rcases hx : x.drop i with _ | ⟨a, x'⟩
  · rcases hy : y.drop i with _ | ⟨b, y'⟩
    · have e1 := congrArg List.length hx
      have e2 := congrArg List.length hy
      simp only [List.length_drop, List.length_nil] at e1 e2
      rw [if_neg (by omega), if_neg (by omega)]
      rfl
    · have e1 := congrArg List.length hx
      have e2 := congrArg List.length hy
      simp only [List.length_drop, List.length_nil, List.length_cons] at e1 e2
      rw [if_pos (by omega)]
      rfl
  · rcases hy : y.drop i with _ | ⟨b, y'⟩
    · have e1 := congrArg List.length hx
      have e2 := congrArg List.length hy
      simp only [List.length_drop, List.length_nil, List.length_cons] at e1 e2
      rw [if_neg (by omega), if_pos (by omega)]
      rfl
    · have e1 := congrArg List.length hx
      have e2 := congrArg List.length hy
      simp only [List.length_drop, List.length_cons] at e1 e2
      omega
theorem same_snoc {x y : Txts} {i : Nat} (hs : ∀ j, j < i → x[j]? = y[j]?) (h1 : i < x.length) (h2 : i < y.length) (h : x[i] = y[i]) : ∀ j, j < i + 1 → x[j]? = y[j]? := fun j hj => by
  by_cases e : j = i
  · subst e
    rw [List.getElem?_eq_getElem h1, List.getElem?_eq_getElem h2, h]
  · exact hs j (by omega)
theorem less_cb : ∀ x y : List UInt8, lessB x y = decide (Go.Lib.compareBytes x y = -1)
  | [], [] => rfl
  | [], _ :: _ => rfl
  | _ :: _, [] => rfl
  | a :: x, b :: y => by
    have ih := less_cb x y
    unfold lessB at ih ⊢
    unfold Op.bytesLess Go.Lib.compareBytes
    rw [ih]
    by_cases h1 : a < b
    · simp [h1]
    · by_cases h2 : b < a
      · have h3 : a ≠ b := fun e => h1 (by subst e; exact h2)
        simp [h1, h2, h3]
      · have h3 : a = b := by
          have h1' : ¬ a.toNat < b.toNat := h1
          have h2' : ¬ b.toNat < a.toNat := h2
          exact UInt8.toNat_inj.1 (by omega)
        subst h3
        simp
set_option maxRecDepth 20000 in
theorem rcmp_s (a b : List UInt8) (ha : a.length ≤ 2000000) (hb : b.length ≤ 2000000) (w : World) :
    Ret Tryz.prog 35 [str a, str b] w fun v w' => v = .int .i64 (cmpP a b) ∧ Ext w w' := by
  have la := parts_len a
  have lb := parts_len b
  have pa : 0 < (parts a).length := List.length_pos_iff.2 (parts_ne a)
  have pb : 0 < (parts b).length := List.length_pos_iff.2 (parts_ne b)
  refine Ret.enter Tryz.func35 rfl Tryz.ntmps35 (by kernel_rfl) rfl ?_
  refine KW.seq (KW.region ?_)
  refine OW.val rfl rfl (EX.assign rfl) ?_
  refine OW.nil ?_
  refine KW.seq (KW.region ?_)
  refine OW.val rfl rfl (EX.move rfl) ?_
  refine OW.call rfl rfl rfl (rparts_s a (by omega) w) ?_
  rintro va w1 ⟨hoa, hx1⟩
  refine OW.val rfl rfl (EX.move rfl) ?_
  refine OW.call rfl rfl rfl (rparts_s b (by omega) w1) ?_
  rintro vb w2 ⟨hob, hx2⟩
  refine OW.val rfl rfl (EX.assign rfl) ?_
  refine OW.val rfl rfl (EX.assign rfl) ?_
  refine OW.nil ?_
  refine KW.seq (KW.seq (KW.region ?_))
  refine OW.val rfl rfl (EX.assign rfl) ?_
  refine OW.nil ?_
  refine KW.block ?_
  obtain ⟨ga, ca, ra, rfl, _, hba, _, _, _⟩ := (hoa.ext hx2).blk (by rw [txtsV_length]; exact pa)
  obtain ⟨gb, cb, rb, rfl, _, hbb, _, _, _⟩ := hob.blk (by rw [txtsV_length]; exact pb)
  have x2 := hx1.trans hx2
  clear hoa hob
  unfold cmpP
  generalize hX : parts a = X at hba la
  generalize hY : parts b = Y at hbb lb
  refine KW.loop2 (fun (i : Nat) (wr : World) => i ≤ X.length ∧ i ≤ Y.length ∧ (∀ j, j < i → X[j]? = Y[j]?) ∧ Ext w2 wr) (fun (i : Nat) (wr : World) => [(5, .slice (some ⟨ga, 0, none⟩) X.length ca), (6, .slice (some ⟨gb, 0, none⟩) Y.length cb), (7, .int .i64 ((i : Nat) : Int))]) (fun (i : Nat) (wr : World) => wr) (fun (i : Nat) (wr : World) => X.length - i) (0) (w2) ⟨rfl, rfl, rfl, trivial⟩ rfl ?_ ?_
  · exact ⟨by omega, by omega, fun j hj => by omega, Ext.refl _⟩
  · rintro i wr ⟨hi, hi2, hs, hxr⟩
    have xr := x2.trans hxr
    have hbr := hba.ext hxr
    have hcr := hbb.ext hxr
    have hend : i = min X.length Y.length → cmpL X Y = if X.length < Y.length then -1 else if Y.length < X.length then 1 else 0 := cmpL_end hs
    refine KW.seq (KW.seq ?_)
    refine KW.region ?_
    refine OW.val rfl rfl (EX.move rfl) ?_
    refine OW.val rfl rfl (EX.move rfl) ?_
    refine OW.val rfl rfl (EX.lenA Tryz.underlying54 rfl) ?_
    refine OW.val rfl rfl (by first | exact EX.lssN rfl rfl | exact EX.lssZ rfl rfl) ?_
    refine OW.val rfl rfl (EX.move rfl) ?_
    refine OW.splitD 16 rfl (fun c1 => ?_) (fun c1 => ?_)
    · refine OW.val rfl rfl (EX.move rfl) ?_
      refine OW.val rfl rfl (EX.move rfl) ?_
      refine OW.val rfl rfl (EX.lenA Tryz.underlying54 rfl) ?_
      refine OW.val rfl rfl (by first | exact EX.lssN rfl rfl | exact EX.lssZ rfl rfl) ?_
      refine OW.val rfl rfl (EX.pickT rfl rfl) ?_
      refine OW.nil ?_
      refine KW.condD rfl (fun c2 => ?_) (fun c2 => ?_)
      · have g1 : (txtsV X ++ ra)[i]? = some (str X[i]) := by rw [List.getElem?_append_left (by rw [txtsV_length]; exact c1)]; exact txtsV_get c1
        have g2 : (txtsV Y ++ rb)[i]? = some (str Y[i]) := by rw [List.getElem?_append_left (by rw [txtsV_length]; exact c2)]; exact txtsV_get c2
        refine KW.skip (KW.seq (KW.block (KW.seq (KW.seq ?_))))
        refine KW.regionQ (by kernel_rfl) (by kernel_rfl) ?_
        refine QW.val rfl rfl (fun _ => EX.move rfl) ?_
        refine QW.val rfl rfl (fun _ => EX.move rfl) ?_
        refine QW.val rfl rfl (fun _ => by first | exact EX.indexAddrS0 Tryz.underlying54 ti9 rfl rfl (by omega) | exact EX.indexAddrS1 Tryz.underlying54 ti9 rfl rfl (by omega)) ?_
        refine QW.val rfl rfl (fun _ => EX.load Tryz.underlying9 rfl rfl ((hbr.drewN _).cell_of g1)) ?_
        refine QW.val rfl rfl (fun _ => EX.move rfl) ?_
        refine QW.val rfl rfl (fun _ => EX.move rfl) ?_
        refine QW.val rfl rfl (fun _ => by first | exact EX.indexAddrS0 Tryz.underlying54 ti9 rfl rfl (by omega) | exact EX.indexAddrS1 Tryz.underlying54 ti9 rfl rfl (by omega)) ?_
        refine QW.val rfl rfl (fun _ => EX.load Tryz.underlying9 rfl rfl ((hcr.drewN _).cell_of g2)) ?_
        refine QW.val rfl rfl (fun _ => EX.lssS rfl rfl) ?_
        refine QW.nil (fun nq => ?_)
        rw [less_cb]
        refine KW.condD rfl (fun l1 => ?_) (fun l1 => ?_)
        · have hne : X[i] ≠ Y[i] := fun e => by rw [(Go.Proofs.YtlpnoogcdnfllaaGreatDoor.Pth.cb_eq _ _).2 e] at l1; omega
          have hcm := cmpL_at hs c1 c2 hne
          refine KW.seq (KW.region ?_)
          refine OW.val rfl rfl (EX.assign rfl) ?_
          refine OW.nil ?_
          refine KW.ret (ret1 rfl rfl ?_)
          rw [hcm, l1]
          exact ⟨rfl, xr.trans (Ext.drewN _ _)⟩
        · have hbd := hbr.drewN nq
          have hcd := hcr.drewN nq
          refine KW.skip (KW.seq ?_)
          refine KW.regionQ (by kernel_rfl) (by kernel_rfl) ?_
          refine QW.val rfl rfl (fun _ => EX.move rfl) ?_
          refine QW.val rfl rfl (fun _ => EX.move rfl) ?_
          refine QW.val rfl rfl (fun _ => by first | exact EX.indexAddrS0 Tryz.underlying54 ti9 rfl rfl (by omega) | exact EX.indexAddrS1 Tryz.underlying54 ti9 rfl rfl (by omega)) ?_
          refine QW.val rfl rfl (fun _ => EX.load Tryz.underlying9 rfl rfl ((hbd.drewN _).cell_of g1)) ?_
          refine QW.val rfl rfl (fun _ => EX.move rfl) ?_
          refine QW.val rfl rfl (fun _ => EX.move rfl) ?_
          refine QW.val rfl rfl (fun _ => by first | exact EX.indexAddrS0 Tryz.underlying54 ti9 rfl rfl (by omega) | exact EX.indexAddrS1 Tryz.underlying54 ti9 rfl rfl (by omega)) ?_
          refine QW.val rfl rfl (fun _ => EX.load Tryz.underlying9 rfl rfl ((hcd.drewN _).cell_of g2)) ?_
          refine QW.val rfl rfl (fun _ => EX.gtrS rfl rfl) ?_
          refine QW.nil (fun nq => ?_)
          refine KW.as 41 (.bool (decide (X[i] ≠ Y[i]))) rfl (congrArg Value.bool (by rw [less_cb, decide_eq_false l1, Bool.false_or, Bool.eq_iff_iff]; simp)) ?_
          refine KW.condD rfl (fun hne => ?_) (fun hne => ?_)
          · have hcm := cmpL_at hs c1 c2 hne
            have hv : Go.Lib.compareBytes X[i] Y[i] = 1 := by
              rcases cb_val X[i] Y[i] with h | h | h
              · exact absurd h l1
              · exact absurd ((cb_eq _ _).1 h) hne
              · exact h
            refine KW.seq (KW.region ?_)
            refine OW.val rfl rfl (EX.assign rfl) ?_
            refine OW.nil ?_
            refine KW.ret (ret1 rfl rfl ?_)
            rw [hcm, hv]
            exact ⟨rfl, (xr.trans (Ext.drewN _ _)).trans (Ext.drewN _ _)⟩
          · have hsn := same_snoc hs c1 c2 (by simpa using hne)
            refine KW.skip (KW.leave (KW.region ?_))
            refine OW.val rfl rfl (EX.move rfl) ?_
            refine OW.val rfl rfl (by first | exact EX.addN (b := 1) (m := 9223372036854775807) rfl rfl rfl (by omega) | exact EX.addZ (m := 9223372036854775807) rfl rfl rfl rfl (by omega)) ?_
            refine OW.val rfl rfl (EX.assign rfl) ?_
            refine OW.nil ?_
            refine KW.back2 (i + 1) ((wr.drewN _).drewN _) ⟨rfl, rfl, rfl, trivial⟩ rfl ?_ (by omega)
            exact ⟨by omega, by omega, hsn, (hxr.trans (Ext.drewN _ _)).trans (Ext.drewN _ _)⟩
      · have hce := hend (by omega)
        refine KW.exit rfl (KW.seq (KW.seq (KW.region ?_)))
        refine OW.val rfl rfl (EX.move rfl) ?_
        refine OW.val rfl rfl (EX.lenA Tryz.underlying54 rfl) ?_
        refine OW.val rfl rfl (EX.move rfl) ?_
        refine OW.val rfl rfl (EX.lenA Tryz.underlying54 rfl) ?_
        refine OW.val rfl rfl (by first | exact EX.lssN rfl rfl | exact EX.lssZ rfl rfl) ?_
        refine OW.nil ?_
        refine KW.condD rfl (fun k1 => ?_) (fun k1 => ?_)
        · omega
        · rw [if_neg k1] at hce
          refine KW.skip (KW.seq (KW.seq (KW.region ?_)))
          refine OW.val rfl rfl (EX.move rfl) ?_
          refine OW.val rfl rfl (EX.lenA Tryz.underlying54 rfl) ?_
          refine OW.val rfl rfl (EX.move rfl) ?_
          refine OW.val rfl rfl (EX.lenA Tryz.underlying54 rfl) ?_
          refine OW.val rfl rfl (by first | exact EX.gtrN rfl rfl | exact EX.gtrZ rfl rfl) ?_
          refine OW.nil ?_
          refine KW.condD rfl (fun k2 => ?_) (fun k2 => ?_)
          · rw [if_pos (by omega)] at hce
            refine KW.seq (KW.region ?_)
            refine OW.val rfl rfl (EX.assign rfl) ?_
            refine OW.nil ?_
            refine KW.ret (ret1 rfl rfl ?_)
            rw [hce]
            exact ⟨rfl, xr⟩
          · omega
    · have hce := hend (by omega)
      refine OW.pass rfl rfl ?_
      refine OW.pass rfl rfl ?_
      refine OW.pass rfl rfl ?_
      refine OW.pass rfl rfl ?_
      refine OW.val rfl rfl (EX.pickF rfl rfl) ?_
      refine OW.nil ?_
      refine KW.condF rfl (KW.exit rfl (KW.seq (KW.seq (KW.region ?_))))
      refine OW.val rfl rfl (EX.move rfl) ?_
      refine OW.val rfl rfl (EX.lenA Tryz.underlying54 rfl) ?_
      refine OW.val rfl rfl (EX.move rfl) ?_
      refine OW.val rfl rfl (EX.lenA Tryz.underlying54 rfl) ?_
      refine OW.val rfl rfl (by first | exact EX.lssN rfl rfl | exact EX.lssZ rfl rfl) ?_
      refine OW.nil ?_
      refine KW.condD rfl (fun k1 => ?_) (fun k1 => ?_)
      · rw [if_pos k1] at hce
        refine KW.seq (KW.region ?_)
        refine OW.val rfl rfl (EX.assign rfl) ?_
        refine OW.nil ?_
        refine KW.ret (ret1 rfl rfl ?_)
        rw [hce]
        exact ⟨rfl, xr⟩
      · rw [if_neg k1] at hce
        refine KW.skip (KW.seq (KW.seq (KW.region ?_)))
        refine OW.val rfl rfl (EX.move rfl) ?_
        refine OW.val rfl rfl (EX.lenA Tryz.underlying54 rfl) ?_
        refine OW.val rfl rfl (EX.move rfl) ?_
        refine OW.val rfl rfl (EX.lenA Tryz.underlying54 rfl) ?_
        refine OW.val rfl rfl (by first | exact EX.gtrN rfl rfl | exact EX.gtrZ rfl rfl) ?_
        refine OW.nil ?_
        refine KW.condD rfl (fun k2 => ?_) (fun k2 => ?_)
        · omega
        · rw [if_neg (by omega)] at hce
          refine KW.skip (KW.seq (KW.region ?_))
          refine OW.val rfl rfl (EX.assign rfl) ?_
          refine OW.nil ?_
          refine KW.ret (ret1 rfl rfl ?_)
          rw [hce]
          exact ⟨rfl, xr⟩
end Go.Proofs.YtlpnoogcdnfllaaGreatDoor
namespace Go.Proofs.YtlpnoogcdnfllaaGreatDoor
open Go.RowKit
section
variable {P : Program} {R : Act → World → Prop} {ops : Array Oper} {rest : List Oper} {k : List KI} {n : Nat} {σ : Sig} {w : World} {x y : Operand} {t e ty ty1 : TypeId} {pos pos1 : String} {after after1 : Array Edge} {gd gd1 : Option (Nat × Bool)} {d d1 : Nat} {s bs B : Nat}
theorem EX.remZ {k : IntKind} {a b : Int} {t' : TypeId} (hx : ev σ x = some (.int k a)) (hy : ev σ y = some (.int k b)) (h : b ≠ 0) : EX P n σ (.binOp .rem t x y t') ty w (.int k (a.tmod b)) w :=
  EX.binI hx hy (by
    unfold binOp
    simp only [ne_eq, not_true_eq_false, if_false, Op.intDiv, if_neg h]
    rfl)
theorem Mo.append {w w1 w' : World} {row : Option Nat} (hx : Ext w w1) (h : w1.grownBy w' row) : Mo w w' row.toList :=
  (Mo.of_ext hx _).trans (Mo.grown h fun k e => by rw [e]; simp)
theorem Tm.fresh {w w1 w2 : World} {B : Nat} {p : TypeId → Bool} {S : List Nat} (h : Tm w w1 B p) (hm : Mo w1 w2 S) (hS : ∀ k ∈ S, w.heap.size ≤ k) : Tm w w2 B p := by
  obtain ⟨S0, h0, hp⟩ := h
  refine ⟨S0, Mo.fresh (S := S0 ++ S) ((h0.mono (by simp; exact fun k hk => .inl hk)).trans (hm.mono (by simp; exact fun k hk => .inr hk))) ?_, hp⟩
  intro k hk hlt
  rcases List.mem_append.1 hk with q | q
  · exact q
  · have := hS k q
    omega
theorem OW.pushSB (B : Nat) {z : Value} (hg1 : wantS ops σ gd1 = some true) (hd1 : Nat.blt d1 n = true) (hg : ∀ u, wantS ops ((d1, u) :: σ) gd = some true) (hd : Nat.blt d n = true) (ht : P.underlying t = some (.slice e)) (hi : TI P e z s bs) (hzs : z.cells.size = s) (hs0 : 0 < s) (hs : s ≤ 16777216)
    {v : Value} {vs : List Value} {l : Nat} {xs : List Value} (hy : ev σ y = some (.agg vs.toArray)) (hl : vs.length = s) (hx : ∀ q, ev ((d1, q) :: σ) x = some v) (hu : vs.all (·.oneCell') = true) (hB : B ≤ w.heap.size) (hown : Own w B e s v l xs)
    (h63 : l + 1 ≤ maxLen) (hbytes : (l + 1) * bs ≤ 140737488355328)
    (h : ∀ q v' w', Own w' B e s v' (l + 1) (xs ++ vs) → Mo w w' v.ownBlock.toList → (v'.ownBlock = v.ownBlock ∨ ∃ g, v'.ownBlock = some g ∧ w.heap.size ≤ g) → OW P R ops rest k n ((d, v') :: (d1, q) :: σ) w') :
    OW P R ops (⟨some d1, .buildSlice t 1 #[(0, y)], ty1, pos1, after1, gd1⟩ :: ⟨some d, .call { callee := .builtin .append, args := #[x, .tmp d1], argTypes := #[t, t] }, ty, pos, after, gd⟩ :: rest) k n σ w := by
  refine OW.val hg1 hd1 (EX.buildSlice1 ht hi hzs hs0 hs hy hl) ?_
  have hx1 : Ext w (w.alloc (.cells vs.toArray e)) := Ext.alloc w _
  have hb := Bk.new w e vs
  refine OW.append B (hg _) hd ht hi hzs hs0 (hx _) (lk_cons_same _ _ _) (hown.alloc _) (Src.of_sl ht (Sl.of_bk hb hb.lt) (by omega) (fun u hm => List.all_eq_true.1 hu u hm) hs0) h63 hbytes (Nat.le_trans hB hx1.size) ?_
  intro v' w' h1 h2 h3
  exact h _ v' w' h1 (Mo.append hx1 h2) (h3.imp id fun e => ⟨_, e, hx1.size⟩)
theorem OW.pushB (B : Nat) {z : Value} (hg1 : wantS ops σ gd1 = some true) (hd1 : Nat.blt d1 n = true) (hg : ∀ u, wantS ops ((d1, u) :: σ) gd = some true) (hd : Nat.blt d n = true) (ht : P.underlying t = some (.slice e)) (hi : TI P e z 1 bs) (hz1 : z.oneCell' = true)
    {v u : Value} {l : Nat} {xs : List Value} (hy : ev σ y = some u) (hx : ∀ q, ev ((d1, q) :: σ) x = some v) (hu : u.oneCell' = true) (hB : B ≤ w.heap.size) (hown : Own w B e 1 v l xs)
    (h63 : l + 1 ≤ maxLen) (hbytes : (l + 1) * bs ≤ 140737488355328)
    (h : ∀ q v' w', Own w' B e 1 v' (l + 1) (xs ++ [u]) → Mo w w' v.ownBlock.toList → (v'.ownBlock = v.ownBlock ∨ ∃ g, v'.ownBlock = some g ∧ w.heap.size ≤ g) → OW P R ops rest k n ((d, v') :: (d1, q) :: σ) w') :
    OW P R ops (⟨some d1, .buildSlice t 1 #[(0, y)], ty1, pos1, after1, gd1⟩ :: ⟨some d, .call { callee := .builtin .append, args := #[x, .tmp d1], argTypes := #[t, t] }, ty, pos, after, gd⟩ :: rest) k n σ w := by
  refine OW.val hg1 hd1 (EX.buildSlice (vs := [u]) 1 ht hi hz1 (by simp [evs, hy]) rfl rfl (by simp [hu]) (by decide)) ?_
  have hx1 : Ext w (w.alloc (.cells [u].toArray e)) := Ext.alloc w _
  have hb := Bk.new w e [u]
  refine OW.append B (hg _) hd ht hi (by rw [oneCell_cells hz1]; rfl) (by decide) (hx _) (lk_cons_same _ _ _) (hown.alloc _) (Src.of_sl ht (Sl.of_bk hb hb.lt) rfl (by simpa using hu) (by decide)) h63 hbytes (Nat.le_trans hB hx1.size) ?_
  intro v' w' h1 h2 h3
  exact h _ v' w' h1 (Mo.append hx1 h2) (h3.imp id fun e => ⟨_, e, hx1.size⟩)
end
section
variable {P : Program} {R : Act → World → Prop} {ops : Array Oper} {S : World → Prop} {fuel : Nat} {listed : Array Bool} {k : List KI} {n : Nat} {σ : Sig} {w : World} {x y : Operand} {t t' e ty : TypeId} {pos : String} {after : Array Edge} {gd : Option (Nat × Bool)} {d : Nat}
theorem GW.append (i B : Nat) {z : Value} {s bs : Nat} (hi' : ops[i]? = some ⟨some d, .call { callee := .builtin .append, args := #[x, y], argTypes := #[t, t'] }, ty, pos, after, gd⟩) (hr : Region.ready .any ops listed = [i])
    (hg : wantS ops σ gd = some true) (hd : Nat.blt d n = true) (ht : P.underlying t = some (.slice e)) (hi : TI P e z s bs) (hzs : z.cells.size = s) (hs0 : 0 < s)
    {v xv : Value} {m l : Nat} {xs news : List Value} (hx : ev σ x = some v) (hy : ev σ y = some xv) (hown : Own w B e s v l xs) (hsrc : Src P s t' xv m news w)
    (h63 : l + m ≤ maxLen) (hbytes : (l + m) * bs ≤ 140737488355328) (hB : B ≤ w.heap.size)
    (h : ∀ v' w', Own w' B e s v' (l + m) (xs ++ news) → w.grownBy w' v.ownBlock → (v'.ownBlock = v.ownBlock ∨ v'.ownBlock = some w.heap.size) → S w' ∧ (S w' → GW P R ops S fuel (listed.setIfInBounds i true) k n ((d, v') :: σ) w')) : GW P R ops S (fuel + 1) listed k n σ w := by
  obtain ⟨v', w', hrun, h2, h3, h4⟩ := run_append (P := P) B t t' ty e ht hi hzs hs0 hown hsrc h63 hbytes hB
  refine GW.new i hi' hr hg hd (v := v') (w' := w') ?_ (h v' w' h2 h3 h4)
  intro A ha dst pos after g
  simp only [execOp, resolve, invoke, builtin, Sem.run_bind, Sem.run_pure, Result.andThen_ok, List.map_toArray, List.map_cons, List.map_nil, ha.ev hx, ha.ev hy, hrun]
end
end Go.Proofs.YtlpnoogcdnfllaaGreatDoor
namespace Go.Proofs.YtlpnoogcdnfllaaGreatDoor
open Go.RowKit Go.MapKept
open Go.ChangeMaps (setBlock)
abbrev Ents := List (List UInt8 × Value)
structure Mp (w : World) (b : Nat) (es : Array MapEntry) (c : Nat) (l : Ents) : Prop where
  blk : w.heap[b]? = some (.map es c)
  st : Stamped es c
  kv : es.toList.map (fun e => (e.key, e.val)) = l.map (fun p => (str p.1, p.2))
def putA {α : Type} (l : List (List UInt8 × α)) (s : List UInt8) (v : α) : List (List UInt8 × α) := if s ∈ l.map (·.1) then l.map (fun p => if p.1 = s then (s, v) else p) else l ++ [(s, v)]
def delA {α : Type} (l : List (List UInt8 × α)) (s : List UInt8) : List (List UInt8 × α) := l.filter (fun p => decide (p.1 ≠ s))
theorem str_inj {a b : List UInt8} (h : str a = str b) : a = b := by
  injection h with h
  injection h with h
  injection h
section
variable {w w' : World} {b c : Nat} {es : Array MapEntry} {l : Ents}
theorem Mp.lt (h : Mp w b es c l) : b < w.heap.size := by
  rcases Nat.lt_or_ge b w.heap.size with h' | h'
  · exact h'
  · have := h.blk
    simp [Array.getElem?_eq_none h'] at this
theorem Mp.of_block (h : Mp w b es c l) (hb : w'.heap[b]? = w.heap[b]?) : Mp w' b es c l := ⟨hb.trans h.blk, h.st, h.kv⟩
theorem Mp.ext (h : Mp w b es c l) (hx : Ext w w') : Mp w' b es c l := h.of_block (hx.block b h.lt)
theorem Mp.mo {S : List Nat} (h : Mp w b es c l) (hm : Mo w w' S) (hb : b ∉ S) : Mp w' b es c l := h.of_block (hm.block b h.lt hb)
theorem Mp.len (h : Mp w b es c l) : es.toList.length = l.length := by
  have := congrArg List.length h.kv
  simpa using this
theorem Mp.at {j : Nat} {e : MapEntry} (h : Mp w b es c l) (he : es.toList[j]? = some e) : ∃ p, l[j]? = some p ∧ e.key = str p.1 ∧ e.val = p.2 := by
  have h1 := congrArg (fun z => z[j]?) h.kv
  simp only [List.getElem?_map, he, Option.map_some] at h1
  obtain ⟨p, h2, h3⟩ := Option.map_eq_some_iff.1 h1.symm
  injection h3 with h4 h5
  exact ⟨p, h2, h4.symm, h5.symm⟩
theorem Mp.mem {e : MapEntry} (h : Mp w b es c l) (he : e ∈ es.toList) : ∃ p ∈ l, e.key = str p.1 ∧ e.val = p.2 := by
  obtain ⟨j, hj⟩ := List.mem_iff_getElem?.1 he
  obtain ⟨p, h1, h2⟩ := h.at hj
  exact ⟨p, List.mem_of_getElem? h1, h2⟩
theorem Mp.keys (h : Mp w b es c l) : (l.map (·.1)).Nodup := by
  have h1 : (es.toList.map (·.key)) = l.map (fun p => str p.1) := by
    have := congrArg (List.map Prod.fst) h.kv
    simpa [List.map_map, Function.comp_def] using this
  have h2 := h.st.2.2
  rw [h1] at h2
  have h3 : l.map (fun p => str p.1) = (l.map (·.1)).map str := by rw [List.map_map]; rfl
  rw [h3] at h2
  exact List.Pairwise.of_map str (fun a b hab e => hab (congrArg str e)) h2
theorem mo_setBlock (w : World) (b : Nat) (o : Obj) : Mo w (setBlock w b o) [b] := ⟨rfl, rfl, rfl, by simp [setBlock], fun k _ hk => by simp at hk; simp [setBlock, Array.getElem?_setIfInBounds_ne (Ne.symm hk)]⟩
theorem setBlock_at {o : Obj} (h : b < w.heap.size) : (setBlock w b o).heap[b]? = some o := by simp [setBlock, h]
theorem putA_at : ∀ {l : Ents} {j : Nat} {p : List UInt8 × Value} (v : Value), (l.map (·.1)).Nodup → l[j]? = some p → putA l p.1 v = l.set j (p.1, v)
  | l, j, p, v, hn, hj => by
    have hm : p.1 ∈ l.map (·.1) := List.mem_map.2 ⟨p, List.mem_of_getElem? hj, rfl⟩
    unfold putA
    rw [if_pos hm]
    apply List.ext_getElem?
    intro k
    rw [List.getElem?_map, List.getElem?_set]
    by_cases e : j = k
    · subst e
      have hl : j < l.length := (List.getElem?_eq_some_iff.1 hj).1
      rw [hj, if_pos rfl]
      simp [hl]
    · rw [if_neg e]
      cases hk : l[k]? with
      | none => rfl
      | some q =>
        have : q.1 ≠ p.1 := fun z => by
          have h1 : (l.map (·.1))[k]? = some p.1 := by rw [List.getElem?_map, hk, ← z]; rfl
          have h2 : (l.map (·.1))[j]? = some p.1 := by rw [List.getElem?_map, hj]; rfl
          obtain ⟨i1, g1⟩ := List.getElem?_eq_some_iff.1 h1
          obtain ⟨i2, g2⟩ := List.getElem?_eq_some_iff.1 h2
          exact e ((List.getElem_inj hn).1 (g2.trans g1.symm))
        simp [this]
theorem delA_at : ∀ {l : Ents} {j : Nat} {p : List UInt8 × Value}, (l.map (·.1)).Nodup → l[j]? = some p → delA l p.1 = l.eraseIdx j
  | q :: l, 0, p, hn, hj => by
    simp only [List.getElem?_cons_zero, Option.some.injEq] at hj
    subst hj
    simp only [List.map_cons, List.nodup_cons] at hn
    simp only [delA, List.eraseIdx_cons_zero, List.filter_cons, ne_eq, not_true_eq_false, decide_false, Bool.false_eq_true, if_false]
    refine List.filter_eq_self.2 fun r hr => ?_
    simp only [decide_eq_true_eq]
    exact fun z => hn.1 (z ▸ List.mem_map.2 ⟨r, hr, rfl⟩)
  | q :: l, j + 1, p, hn, hj => by
    simp only [List.getElem?_cons_succ] at hj
    simp only [List.map_cons, List.nodup_cons] at hn
    have hne : q.1 ≠ p.1 := fun z => hn.1 (z ▸ List.mem_map.2 ⟨p, List.mem_of_getElem? hj, rfl⟩)
    have ih := delA_at hn.2 hj
    simp only [delA] at ih ⊢
    rw [List.filter_cons, if_pos (by simpa using hne), ih, List.eraseIdx_cons_succ]
theorem mem_entries {l : Ents} {s : List UInt8} {es : Array MapEntry} (hkv : es.toList.map (fun e => (e.key, e.val)) = l.map (fun p => (str p.1, p.2))) (h : ∀ x ∈ es.toList, x.key ≠ str s) : s ∉ l.map (·.1) := fun hm => by
  obtain ⟨p, hp, rfl⟩ := List.mem_map.1 hm
  have : (str p.1, p.2) ∈ es.toList.map (fun e => (e.key, e.val)) := by rw [hkv]; exact List.mem_map.2 ⟨p, hp, rfl⟩
  obtain ⟨x, hx, e⟩ := List.mem_map.1 this
  injection e with e1 e2
  exact h x hx e1
theorem Mp.isKey (h : Mp w b es c l) : ∀ x ∈ es.toList, IsKey .string x.key := fun x hx => by
  obtain ⟨p, _, e, _⟩ := h.mem hx
  rw [e]
  trivial
variable {P : Program} {t k e : TypeId}
theorem run_put (ht : P.underlying t = some (.map k e)) (hk : P.underlying k = some .string) (h : Mp w b es c l) (s : List UInt8) (v : Value) :
    ∃ es' c', (Instr.mapUpdate t (.map (some b)) (str s) v).run P w = .ok () (setBlock w b (.map es' c')) ∧ Mp (setBlock w b (.map es' c')) b es' c' (putA l s v) := by
  have hkey : IsKey .string (str s) := trivial
  rcases findNow_spec hkey es.toList 0 h.isKey with ⟨h1, h2⟩ | ⟨j, e0, h1, h2, h3⟩
  · refine ⟨es.push ⟨str s, v, c⟩, c + 1, ?_, ⟨setBlock_at h.lt, stamped_push h.st h2, ?_⟩⟩
    · simp [Instr.mapUpdate, run_underlying ht, MapKept.run_getObj_map h.blk, run_checkKey hk hkey, run_findKey hk h1, MapKept.run_setObj_map _ h.blk, Result.andThen, setBlock]
    · unfold putA
      rw [if_neg (mem_entries h.kv h2), Array.toList_push, List.map_append, List.map_append, h.kv]
      rfl
  · have hj : es[j]? = some e0 := by simpa using h2
    obtain ⟨p, hp, hpk, hpv⟩ := h.at h2
    have es1 : str s = str p.1 := h3.symm.trans hpk
    obtain rfl := str_inj es1
    have hkeyf : ∀ e', es[j]? = some e' → ({ e' with key := str p.1, val := v } : MapEntry).key = e'.key := fun e' he' => by rw [hj] at he'; cases he'; exact h3.symm
    refine ⟨es.modify j (fun e' => { e' with key := str p.1, val := v }), c, ?_, ⟨setBlock_at h.lt, stamped_modify h.st _ _ (fun _ _ => rfl) (fun e' _ he' => hkeyf e' he'), ?_⟩⟩
    · simp [Instr.mapUpdate, run_underlying ht, MapKept.run_getObj_map h.blk, run_checkKey hk hkey, run_findKey hk h1, hj, h3, run_keyThatStays hkey, MapKept.run_setObj_map _ h.blk, Result.andThen, setBlock]
    · rw [putA_at v h.keys hp, Array.toList_modify, List.map_set, ← h.kv]
      apply List.ext_getElem?
      intro i
      rw [List.getElem?_set, List.getElem?_map, List.getElem?_modify, List.getElem?_map, List.length_map]
      by_cases q : j = i
      · subst q
        have hl : j < es.toList.length := (List.getElem?_eq_some_iff.1 h2).1
        rw [if_pos rfl, h2, if_pos (by simpa using hl)]
        simp
      · rw [if_neg q]
        simp [q]
theorem run_del {ty : TypeId} (ht : P.underlying t = some (.map k e)) (hk : P.underlying k = some .string) (h : Mp w b es c l) (s : List UInt8) :
    ∃ es', (Builtin.delete_ #[t, k] ty #[.map (some b), str s]).run P w = .ok (.tuple #[]) (setBlock w b (.map es' c)) ∧ Mp (setBlock w b (.map es' c)) b es' c (delA l s) := by
  have hkey : IsKey .string (str s) := trivial
  rcases findNow_spec hkey es.toList 0 h.isKey with ⟨h1, h2⟩ | ⟨j, e0, h1, h2, h3⟩
  · refine ⟨es, ?_, ⟨setBlock_at h.lt, h.st, ?_⟩⟩
    · simp [Builtin.delete_, run_underlying ht, MapKept.run_getObj_map h.blk, run_checkKey hk hkey, run_findKey hk h1, MapKept.run_setObj_map _ h.blk, Result.andThen, setBlock]
    · rw [h.kv]
      congr 1
      unfold delA
      refine (List.filter_eq_self.2 fun p hp => ?_).symm
      simp only [decide_eq_true_eq]
      exact fun z => mem_entries h.kv h2 (z ▸ List.mem_map.2 ⟨p, hp, rfl⟩)
  · have hjl : j < es.toList.length := (List.getElem?_eq_some_iff.1 h2).1
    have hjs : j < es.size := by simpa using hjl
    have hsub : (es.eraseIdxIfInBounds j).toList = es.toList.eraseIdx j := by
      unfold Array.eraseIdxIfInBounds
      rw [dif_pos hjs]
      simp
    obtain ⟨p, hp, hpk, hpv⟩ := h.at h2
    obtain rfl := str_inj (h3.symm.trans hpk)
    refine ⟨es.eraseIdxIfInBounds j, ?_, ⟨setBlock_at h.lt, stamped_erase h.st j, ?_⟩⟩
    · simp [Builtin.delete_, run_underlying ht, MapKept.run_getObj_map h.blk, run_checkKey hk hkey, run_findKey hk h1, MapKept.run_setObj_map _ h.blk, Result.andThen, setBlock]
    · rw [delA_at h.keys hp, hsub, ChangeMaps.map_eraseIdx, h.kv, ← ChangeMaps.map_eraseIdx]
end
def It (w : World) (r b since : Nat) (seen : Array Nat) (c : Nat) : Prop := w.heap[r]? = some (.mapIter (some b) since seen c)
section
variable {P : Program} {R : Act → World → Prop} {ops : Array Oper} {rest : List Oper} {k : List KI} {n : Nat} {σ : Sig} {w : World} {x y z : Operand} {t e kt ty : TypeId} {pos : String} {after : Array Edge} {gd : Option (Nat × Bool)} {d : Nat}
theorem OW.makeMap (hg : wantS ops σ gd = some true) (hd : Nat.blt d n = true)
    (h : ∀ b w', w.heap.size ≤ b → Mp w' b #[] 0 [] → Ext w w' → OW P R ops rest k n ((d, .map (some b)) :: σ) w') :
    OW P R ops (⟨some d, .makeMap t none, ty, pos, after, gd⟩ :: rest) k n σ w := by
  refine OW.val hg hd (v := .map (some w.heap.size)) (w' := w.alloc (.map #[] 0)) ?_ (h _ _ (Nat.le_refl _) ⟨heap_alloc_new w _, ⟨by simp, by simp, by simp⟩, rfl⟩ (Ext.alloc w _))
  intro a ha dst pos after g
  simp only [execOp, Option.map_none, run_makeMap, Sem.run_bind, Result.andThen_ok, Sem.run_pure]
theorem EU.put {b c : Nat} {es es' : Array MapEntry} {c' : Nat} {v : Value} {s : List UInt8} (hx : ev σ x = some (.map (some b))) (hy : ev σ y = some (str s)) (hz : ev σ z = some v)
    (h : (Instr.mapUpdate t (.map (some b)) (str s) v).run P w = .ok () (setBlock w b (.map es' c'))) : EU P n σ (.mapUpdate t x y z) ty w (setBlock w b (.map es' c')) := by
  intro a ha dst pos after g
  simp only [execOp, ha.ev hx, ha.ev hy, ha.ev hz, h, Sem.run_bind, Result.andThen_ok, Sem.run_pure]
theorem OW.put {b c : Nat} {es : Array MapEntry} {l : Ents} {v : Value} {s : List UInt8} (hg : wantS ops σ gd = some true) (ht : P.underlying t = some (.map kt e)) (hk : P.underlying kt = some .string) (hx : ev σ x = some (.map (some b))) (hy : ev σ y = some (str s)) (hz : ev σ z = some v) (hm : Mp w b es c l)
    (h : ∀ es' c' w', Mp w' b es' c' (putA l s v) → Mo w w' [b] → OW P R ops rest k n σ w') :
    OW P R ops (⟨none, .mapUpdate t x y z, ty, pos, after, gd⟩ :: rest) k n σ w := by
  obtain ⟨es', c', h1, h2⟩ := run_put ht hk hm s v
  exact OW.eff hg (EU.put (c := c) (es := es) hx hy hz h1) (h es' c' _ h2 (mo_setBlock w b _))
theorem OW.valN {op : Op} {ty : TypeId} {pos : String} {after : Array Edge} {g : Option (Nat × Bool)} {v : Value} {w' : World} (hg : wantS ops σ g = some true) (he : EX P n σ op ty w v w')
    (h : OW P R ops rest k n σ w') : OW P R ops (⟨none, op, ty, pos, after, g⟩ :: rest) k n σ w := fun a ha => by
  have h1 := he a ha none pos after g
  unfold wpList
  rw [if_pos (wantS_spec ha (o := ⟨none, op, ty, pos, after, g⟩) hg)]
  refine .inl ?_
  unfold Oper.wp
  rw [h1]
  exact h _ ha
theorem OW.del {b c : Nat} {es : Array MapEntry} {l : Ents} {s : List UInt8} (hg : wantS ops σ gd = some true) (ht : P.underlying t = some (.map kt e)) (hk : P.underlying kt = some .string) (hx : ev σ x = some (.map (some b))) (hy : ev σ y = some (str s)) (hm : Mp w b es c l)
    (h : ∀ es' c' w', Mp w' b es' c' (delA l s) → Mo w w' [b] → OW P R ops rest k n σ w') :
    OW P R ops (⟨none, .call { callee := .builtin .delete, args := #[x, y], argTypes := #[t, kt] }, ty, pos, after, gd⟩ :: rest) k n σ w := by
  obtain ⟨es', h1, h2⟩ := run_del (ty := ty) ht hk hm s
  refine OW.valN hg (v := .tuple #[]) (w' := setBlock w b (.map es' c)) ?_ (h es' c _ h2 (mo_setBlock w b _))
  intro a ha dst pos after g
  simp only [execOp, resolve, invoke, builtin, Sem.run_bind, Sem.run_pure, Result.andThen_ok, List.map_toArray, List.map_cons, List.map_nil, ha.ev hx, ha.ev hy, h1]
theorem OW.range {b c : Nat} {es : Array MapEntry} {l : Ents} (hg : wantS ops σ gd = some true) (hd : Nat.blt d n = true) (ht : P.underlying t = some (.map kt e)) (hx : ev σ x = some (.map (some b))) (hm : Mp w b es c l)
    (h : ∀ r w', w.heap.size ≤ r → It w' r b c #[] c → Ext w w' → OW P R ops rest k n ((d, .pointer (some ⟨r, 0, none⟩)) :: σ) w') :
    OW P R ops (⟨some d, .range t x, ty, pos, after, gd⟩ :: rest) k n σ w := by
  refine OW.val hg hd (v := .pointer (some ⟨w.heap.size, 0, none⟩)) (w' := w.alloc (.mapIter (some b) c #[] c)) ?_ (h _ _ (Nat.le_refl _) (heap_alloc_new w _) (Ext.alloc w _))
  intro a ha dst pos after g
  simp [execOp, Instr.range, ha.ev hx, run_underlying ht, MapKept.run_getObj_map hm.blk, run_newObj_alloc, Sem.run_bind, Result.andThen_ok, Sem.run_pure]
theorem OW.next {r b c : Nat} {es : Array MapEntry} {l : Ents} {seen : Array Nat} (hg : wantS ops σ gd = some true) (hd : Nat.blt d n = true) (hx : ev σ x = some (.pointer (some ⟨r, 0, none⟩))) (hm : Mp w b es c l) (hi : It w r b c seen c)
    (h0 : (∀ e ∈ es.toList, e.born ∈ seen) → OW P R ops rest k n ((d, .tuple #[.bool false]) :: σ) w)
    (h1 : ∀ (e : MapEntry) w', e ∈ es.toList → e.born ∉ seen → It w' r b c (seen.push e.born) c → Mo w w' [r] → OW P R ops rest k n ((d, .tuple #[.bool true, e.key, e.val]) :: σ) w') :
    OW P R ops (⟨some d, .next x false, ty, pos, after, gd⟩ :: rest) k n σ w := by
  have hr : r < w.heap.size := by
    rcases Nat.lt_or_ge r w.heap.size with h' | h'
    · exact h'
    · unfold It at hi; simp [Array.getElem?_eq_none h'] at hi
  rcases run_next_at (P := P) w ty r b c c seen es c hi hm.blk hm.st.1 (Nat.le_refl _) with ⟨h2, h3⟩ | ⟨e, he, w1, hw, h3⟩
  · refine OW.val hg hd (v := .tuple #[.bool false]) (w' := w) ?_ (h0 ?_)
    · intro a ha dst pos after g
      simp only [execOp, ha.ev hx, h3, Sem.run_bind, Result.andThen_ok, Sem.run_pure]
    · intro e he
      unfold leftOf at h2
      have h4 := Array.eq_empty_of_size_eq_zero h2
      rw [Array.filter_eq_empty_iff] at h4
      have := h4 e (by simpa using he)
      simpa using this
  · have he2 : e ∈ es.toList ∧ e.born ∉ seen := by
      unfold leftOf at he
      simp at he
      exact ⟨by simpa using he.1, he.2⟩
    have hmo : Mo w (setBlock w1 r (.mapIter (some b) c (seen.push e.born) c)) [r] := by
      refine Mo.trans ?_ (mo_setBlock w1 r _)
      rcases hw with rfl | rfl
      · exact Mo.refl _ _
      · exact Mo.of_ext (Ext.drew w) _
    have hr1 : r < w1.heap.size := by rcases hw with rfl | rfl <;> exact hr
    refine OW.val hg hd (v := .tuple #[.bool true, e.key, e.val]) ?_ (h1 e _ he2.1 he2.2 (setBlock_at hr1) hmo)
    intro a ha dst pos after g
    simp only [execOp, ha.ev hx, h3, Sem.run_bind, Result.andThen_ok, Sem.run_pure]
theorem EX.entry {r b c : Nat} {es : Array MapEntry} {l : Ents} {seen : Array Nat} {e : MapEntry} (hx : ev σ x = some (.pointer (some ⟨r, 0, none⟩))) (hm : Mp w b es c l) (hi : It w r b c (seen.push e.born) c) (he : e ∈ es.toList) :
    EX P n σ (.entry x) ty w (.tuple #[e.key, e.val]) w := by
  intro a ha dst pos after g
  have := run_entry_at (P := P) w r b c seen es c e hi hm.blk he hm.st.2.1
  simp only [execOp, ha.ev hx, this, Sem.run_bind, Result.andThen_ok, Sem.run_pure]
end
end Go.Proofs.YtlpnoogcdnfllaaGreatDoor
namespace Go.Proofs.YtlpnoogcdnfllaaGreatDoor
open Go.RowKit Go.Shelf
def Gr (w w' : World) : Prop := Ext w w' ∧ w.drawn ≤ w'.drawn
theorem Gr.refl (w : World) : Gr w w := ⟨Ext.refl w, Nat.le_refl _⟩
theorem Gr.trans {a b c : World} (h : Gr a b) (k : Gr b c) : Gr a c := ⟨h.1.trans k.1, Nat.le_trans h.2 k.2⟩
theorem Gr.drewN (w : World) (m : Nat) : Gr w (w.drewN m) := ⟨Ext.drewN w m, by show w.drawn ≤ w.drawn + m; omega⟩
theorem Gr.alloc (w : World) (o : Obj) : Gr w (w.alloc o) := ⟨Ext.alloc w o, Nat.le_refl _⟩
theorem Gr.grow {w w' : World} (h : Gr w w') : ∃ q os, w' = Go.Sort.grow (w.drewN q) os := by
  obtain ⟨⟨h1, h2, h3, h4, h5⟩, h6⟩ := h
  obtain ⟨heap, tape, drawn, os, out⟩ := w
  obtain ⟨heap', tape', drawn', os', out'⟩ := w'
  simp only at h1 h2 h3 h4 h5 h6
  subst h1 h2 h3
  refine ⟨drawn' - drawn, heap'.extract heap.size heap'.size, ?_⟩
  have e : heap ++ heap'.extract heap.size heap'.size = heap' := by
    apply Array.ext_getElem?
    intro i
    by_cases hi : i < heap.size
    · rw [Array.getElem?_append_left hi, h5 i hi]
    · rw [Array.getElem?_append_right (by omega), Array.getElem?_extract]
      by_cases hj : i < heap'.size
      · rw [if_pos (by omega)]
        congr 1
        omega
      · rw [if_neg (by omega), Array.getElem?_eq_none (by omega)]
  unfold Go.Sort.grow World.drewN
  simp only [e]
  congr 1
  omega
theorem flat_len {α : Type} {cells : α → List Value} {k : Nat} (hk : ∀ x, (cells x).length = k) : ∀ l : List α, (l.flatMap cells).length = l.length * k
  | [] => by simp
  | x :: l => by
    have ih := flat_len hk l
    rw [List.flatMap_cons, List.length_append, hk, ih, List.length_cons, Nat.succ_mul]
    omega
section
variable {α : Type} [Inhabited α] {cells : α → List Value} {k : Nat}
theorem flatK_list (hk : ∀ x, (cells x).length = k) (hk0 : 0 < k) (l : List α) : (Go.Sort.flatK cells k l.toArray).toList = l.flatMap cells := by
  have hfl := flat_len hk l
  apply List.ext_getElem?
  intro t
  by_cases ht : t < l.length * k
  · have h1 : t / k < l.length := by rw [Nat.div_lt_iff_lt_mul hk0]; exact ht
    have h2 : t % k < k := Nat.mod_lt _ hk0
    have h3 : t / k * k + t % k = t := by rw [Nat.mul_comm]; exact Nat.div_add_mod t k
    have h4 := flat_get hk l (t / k) (t % k) h1 _ (List.getElem?_eq_getElem (by rw [hk]; exact h2))
    rw [h3] at h4
    have hs : t < (Go.Sort.flatK cells k l.toArray).size := by rw [Go.Sort.size_flatK]; simpa using ht
    have h5 := Go.Sort.get_flatK cells k l.toArray t (by simpa using ht)
    rw [getElem!_pos _ t hs] at h5
    have h6 : l.toArray[t / k]! = l[t / k] := by
      rw [getElem!_pos _ _ (by simpa using h1)]
      simp
    rw [h4, Array.getElem?_toList, Array.getElem?_eq_getElem hs, h5, h6]
    congr 1
    rw [getElem!_pos _ _ (by rw [hk]; exact h2)]
  · have e1 : (Go.Sort.flatK cells k l.toArray).toList.length = l.length * k := by rw [Array.length_toList, Go.Sort.size_flatK]; simp
    rw [List.getElem?_eq_none (by omega), List.getElem?_eq_none (by omega)]
theorem putCells_list (F : Array Value) (xs rest : List Value) (h : xs.length = F.size) : Go.Sort.putCells id 0 F (xs ++ rest).toArray = (F.toList ++ rest).toArray := by
  apply Array.ext_getElem?
  intro i
  simp only [Go.Sort.putCells, Array.getElem?_mapIdx]
  by_cases hi : i < F.size
  · simp only [List.getElem?_toArray]
    rw [List.getElem?_append_left (by omega), List.getElem?_append_left (by simpa using hi), List.getElem?_eq_getElem (by omega)]
    simp only [Option.map_some, Nat.zero_le, Nat.zero_add, true_and, Nat.sub_zero, id]
    rw [if_pos hi, getElem!_pos F i hi]
    simp [hi]
  · simp only [List.getElem?_toArray]
    rw [List.getElem?_append_right (by omega), List.getElem?_append_right (by simpa using hi), h, Array.length_toList]
    cases rest[i - F.size]? with
    | none => rfl
    | some u =>
      simp only [Option.map_some, Nat.zero_le, Nat.zero_add, true_and]
      rw [if_neg hi]
theorem sortWorld_mo (w : World) (g n : Nat) (d : Array α) (os : Array Obj) : Mo w (sortWorldK cells k w g 0 n d os) [g] := by
  refine ⟨rfl, rfl, rfl, ?_, fun j hj hne => ?_⟩
  · simp [sortWorldK, Go.Sort.grow, Go.Sort.putRowK, Go.Sort.putRow, Go.Sort.mapBlock, Go.Sort.ahead]
  · simp only [List.mem_singleton] at hne
    simp only [sortWorldK, Go.Sort.grow, Go.Sort.putRowK, Go.Sort.putRow, Go.Sort.mapBlock, Go.Sort.ahead]
    rw [Array.getElem?_append_left (by simpa using hj), Array.getElem?_modify, if_neg (Ne.symm hne)]
theorem sortWorld_bk {w : World} {g n : Nat} {T : TypeId} {l : List α} {d : Array α} {os : Array Obj} {rest : List Value} (hk : ∀ x, (cells x).length = k) (hk0 : 0 < k) (hb : Bk w g T (l.flatMap cells ++ rest)) (hd : d.size = l.length) :
    Bk (sortWorldK cells k w g 0 n d os) g T (d.toList.flatMap cells ++ rest) := by
  have hlt := hb.lt
  obtain ⟨fr, h1, h2⟩ := hb
  have hF : (Go.Sort.flatK cells k d).toList = d.toList.flatMap cells := by
    have := flatK_list hk hk0 d.toList
    simpa using this
  refine ⟨fr, ?_, ?_⟩
  · simp only [sortWorldK, Go.Sort.grow, Go.Sort.putRowK, Go.Sort.putRow, Go.Sort.mapBlock, Go.Sort.ahead]
    rw [Array.getElem?_append_left (by simpa using hlt), Array.getElem?_modify, if_pos rfl, h1]
    simp only [Option.map_some, Go.Sort.onCells]
    rw [putCells_list _ _ _ (by rw [flat_len hk, Go.Sort.size_flatK, hd]), hF]
  · have e1 := flat_len hk l
    have e2 := flat_len hk d.toList
    rw [List.length_append] at h2 ⊢
    rw [e2, Array.length_toList, hd, ← e1]
    exact h2
theorem sort_own {P : Program} {ρ : Ren} (L : SlLaysF0.n6 P ρ) {f : Nat} (hf6 : ρ.f 6 = f) {fn : Func} (hf : P.funcs[f]? = some fn) (hn : (!(fn.name == "runtime.NumGoroutine") && fn.body.isSome) = true) {e : TypeId} (he : ρ.t 24 = e) {bs : Nat} {z : Value} {d : TypeDesc} (hu : P.underlying e = some d) (hfl : flat d = false) (hi : TI P e z k bs) (hk0 : 0 < k)
    (hk : ∀ x, (cells x).length = k) (h1 : ∀ x, ∀ v ∈ cells x, v.oneCell' = true) (cf : α → α → Int) (hO : Go.Sort.SWO (fun a b => decide (cf a b < 0)))
    {g : Nat} {gf : Func} (hg : P.funcs[g]? = some gf) (hgn : (!(gf.name == "runtime.NumGoroutine") && gf.body.isSome) = true) (B : Nat) (l : List α) (hl : l.length ≤ 1000000000) (v : Value) (w : World) (hown : Own w B e k v l.length (l.flatMap cells))
    (hc : ∀ W x y, Mo w W v.ownBlock.toList → Ret P g [.agg (cells x).toArray, .agg (cells y).toArray] W fun r W' => r = .int .i64 (cf x y) ∧ Gr W W') :
    Ret P f [v, .func (.func g) #[] #[]] w fun r w' => r = .tuple #[] ∧ ∃ l' : List α, l'.Perm l ∧ (∀ i j (hi : i < l'.length) (hj : j < l'.length), i < j → ¬ cf l'[j] l'[i] < 0) ∧ Own w' B e k v l.length (l'.flatMap cells) ∧ Mo w w' v.ownBlock.toList := by
  subst hf6 he
  by_cases hl0 : l = []
  · subst hl0
    obtain ⟨p, cap, hv⟩ : ∃ p cap, v = .slice p 0 cap := by
      rcases hown.2 with ⟨rfl, _⟩ | ⟨q, cap, _, rfl, _⟩
      · exact ⟨none, 0, rfl⟩
      · exact ⟨_, cap, rfl⟩
    have h := AnyF.slices_SortFunc_none (P := P) (ρ := ρ) { L with } p cap (.func (.func g) #[] #[]) w
    have hR : Ret P (ρ.f 6) [v, .func (.func g) #[] #[]] w fun r w' => r = .tuple #[] ∧ w' = w := by
      subst hv
      exact Ret.of_calls hf hn (h.mono fun _ _ q => q)
    refine hR.mono ?_
    rintro r w' ⟨rfl, rfl⟩
    exact ⟨rfl, [], List.Perm.refl _, fun i j hi => by simp at hi, hown, Mo.refl _ _⟩
  · have hlp : 0 < l.length := List.length_pos_iff.2 hl0
    have hflen := flat_len hk l
    obtain ⟨b, cap, rest, rfl, hB, hb, hr, hn2, hcm⟩ := hown.blk (by rw [hflen]; exact Nat.mul_pos hlp hk0)
    have hlt := hb.lt
    have hwhole : l.flatMap cells ++ rest = l.flatMap cells ++ rest := rfl
    have hH : Go.Sort.HoldsK cells k w b 0 l.toArray := by
      intro j hj
      rw [Go.Sort.size_flatK] at hj
      have hj2 : j < l.length * k := by simpa using hj
      have hF := flatK_list hk hk0 l
      have hs : j < (Go.Sort.flatK cells k l.toArray).size := by rw [Go.Sort.size_flatK]; exact hj
      have hget : (Go.Sort.flatK cells k l.toArray)[j]! = (l.flatMap cells)[j]'(by rw [hflen]; exact hj2) := by
        rw [getElem!_pos _ j hs]
        have : (Go.Sort.flatK cells k l.toArray).toList[j]'(by simpa using hs) = (l.flatMap cells)[j]'(by rw [hflen]; exact hj2) := by simp [hF]
        simpa using this
      rw [hget, Nat.zero_add]
      refine ⟨hb.cell_of ?_, hb.free j (by rw [List.length_append]; omega)⟩
      rw [List.getElem?_append_left (by omega), List.getElem?_eq_getElem]
      rfl
    have hcl : CmpLays P g #[] cells k cf b 0 l.toArray.size w := fun m os dk hdk x y => by
      have h2 := (hc _ x y (by simpa [Value.ownBlock] using sortWorld_mo (cells := cells) (k := k) w b m dk os)).2
      refine h2.mono fun e w' q => ?_
      obtain ⟨v, rfl, rfl, hgr⟩ := q
      obtain ⟨q, os', e2⟩ := hgr.grow
      exact ⟨rfl, q, os', e2⟩
    have h := AnyQ.slices_SortFunc L k (fun w => by rw [run_isAgg hu, hfl]; rfl) (fun w => run_sizeOf hi) cells hk h1 cf hO g #[] b 0 cap l.toArray w (fun args w => run_callFunc hg hgn args) hcl hH hlt (by simp; omega)
    have hsz : l.toArray.size = l.length := by simp
    rw [hsz] at h
    have hR : Ret P (ρ.f 6) [.slice (some ⟨b, 0, none⟩) l.length cap, .func (.func g) #[] #[]] w fun r w' => r = .tuple #[] ∧ ∃ d' n os, Go.Sort.PermIn 0 l.length l.toArray d' ∧ Go.Sort.SortedIn (ltOf cf) 0 l.length d' ∧ w' = sortWorldK cells k w b 0 n d' os :=
      Ret.of_calls hf hn (h.mono fun _ _ q => q)
    refine hR.mono ?_
    rintro r w' ⟨rfl, d', n, os, hp, hs, rfl⟩
    have hd : d'.size = l.length := by rw [hp.1, hsz]
    have hperm : d'.toList.Perm l := by
      have h3 := hp.2.2
      have e1 : d'.extract 0 l.length = d' := by rw [← hd]; exact Array.extract_size
      have e2 : l.toArray.extract 0 l.length = l.toArray := by rw [← hsz]; exact Array.extract_size
      rw [e1, e2] at h3
      simpa using h3
    have hb2 := sortWorld_bk (n := n) (os := os) hk hk0 hb hd
    refine ⟨rfl, d'.toList, hperm, fun i j hi hj hij => ?_, ⟨by rw [flat_len hk, Array.length_toList, hd], .inr ⟨b, cap, rest, rfl, hB, hb2, ?_, hn2, hcm⟩⟩, by simpa [Value.ownBlock] using sortWorld_mo (cells := cells) (k := k) w b n d' os⟩
    · have h3 := hs i j (Nat.zero_le _) hij (by rw [← hd]; simpa using hj)
      rw [getElem!_pos d' j (by simpa using hj), getElem!_pos d' i (by simpa using hi)] at h3
      simpa [ltOf] using h3
    · rw [flat_len hk, Array.length_toList, hd, ← hflen]
      exact hr
end
end Go.Proofs.YtlpnoogcdnfllaaGreatDoor
namespace Go.Proofs.YtlpnoogcdnfllaaGreatDoor
open Go.RowKit Pth
theorem splitG_c (s : List UInt8) (hs : s.length ≤ 2000000) (w : World) (hG : MLen w) :
    Ret Tryz.prog 57 [str s, str [47]] w fun v w' => ∃ b, v = .slice (some ⟨b, 0, none⟩) (parts s).length (parts s).length ∧ w.heap.size ≤ b ∧ Bk w' b 9 (txtsV (parts s)) ∧ Gr w w' := by
  have hn : (!(Tryz.f57.name == "runtime.NumGoroutine") && Tryz.f57.body.isSome) = true := by kernel_rfl
  obtain ⟨m, hm⟩ := hG
  have h := Tryz.strings_Split ⟨s.toArray⟩ ⟨#[47]⟩ m w (by show s.length < _; omega) hm (by show 1 ≤ 1; omega)
  have hd := Go.Lib.splitB_data ⟨#[47]⟩ 0 (Go.Lib.countB ⟨s.toArray⟩ ⟨#[47]⟩) ⟨s.toArray⟩
  have hp : (Go.Lib.splitB ⟨#[47]⟩ 0 (Go.Lib.countB ⟨s.toArray⟩ ⟨#[47]⟩) ⟨s.toArray⟩).map (·.data.toList) = parts s := hd.trans (split_parts _ s rfl)
  have hlen := congrArg List.length hp
  rw [List.length_map, Go.Lib.splitB_all ⟨#[47]⟩ (by show 1 ≤ 1; omega) 0 _ ⟨s.toArray⟩ rfl] at hlen
  have hv : (Go.Lib.splitB ⟨#[47]⟩ 0 (Go.Lib.countB ⟨s.toArray⟩ ⟨#[47]⟩) ⟨s.toArray⟩).map Value.string = txtsV (parts s) := by
    rw [← hp, txtsV, List.map_map]
    rfl
  rw [hv, hlen] at h
  refine (Ret.of_calls Tryz.func57 hn (h.mono (fun e w' q => q))).mono ?_
  rintro v w' ⟨rfl, rfl⟩
  exact ⟨w.heap.size, rfl, Nat.le_refl _, Bk.new w _ _, Gr.alloc w _⟩
theorem partsG_p (s : List UInt8) (hs : s.length ≤ 2000000) (w : World) (hG : MLen w) :
    Ret Tryz.prog 33 [str s] w fun v w' => ∃ b, v = .slice (some ⟨b, 0, none⟩) (parts s).length (parts s).length ∧ w.heap.size ≤ b ∧ Bk w' b 9 (txtsV (parts s)) ∧ Gr w w' := by
  refine Ret.enter Tryz.func33 rfl Tryz.ntmps33 (by kernel_rfl) rfl ?_
  refine KW.seq (KW.region ?_)
  refine OW.val rfl rfl (EX.assign rfl) ?_
  refine OW.nil ?_
  refine KW.seq (KW.region ?_)
  refine OW.val rfl rfl (EX.move rfl) ?_
  refine OW.call rfl rfl rfl (splitG_c s hs w hG) ?_
  rintro _ w1 ⟨b, rfl, hb⟩
  refine OW.val rfl rfl (EX.assign rfl) ?_
  refine OW.nil ?_
  refine KW.ret (ret1 rfl rfl ?_)
  exact ⟨b, rfl, hb⟩
set_option maxRecDepth 20000 in
theorem cmpG_s (a b : List UInt8) (ha : a.length ≤ 2000000) (hb : b.length ≤ 2000000) (w : World) (hG : MLen w) :
    Ret Tryz.prog 16 [str a, str b] w fun v w' => v = .int .i64 (cmpP a b) ∧ Gr w w' := by
  have la := parts_len a
  have lb := parts_len b
  refine Ret.enter Tryz.func16 rfl Tryz.ntmps16 (by kernel_rfl) rfl ?_
  refine KW.seq (KW.region ?_)
  refine OW.val rfl rfl (EX.assign rfl) ?_
  refine OW.nil ?_
  refine KW.seq (KW.region ?_)
  refine OW.val rfl rfl (EX.move rfl) ?_
  refine OW.call rfl rfl rfl (partsG_p a ha w hG) ?_
  rintro _ w1 ⟨ba, rfl, hga, hba, hg1⟩
  refine OW.val rfl rfl (EX.move rfl) ?_
  have hx1 := hg1.1
  refine OW.call rfl rfl rfl (partsG_p b hb w1 (hG.ext hx1)) ?_
  rintro _ w2 ⟨bb, rfl, hgb, hbb, hg2⟩
  refine OW.val rfl rfl (EX.assign rfl) ?_
  refine OW.val rfl rfl (EX.assign rfl) ?_
  refine OW.nil ?_
  refine KW.seq (KW.seq (KW.region ?_))
  refine OW.val rfl rfl (EX.move rfl) ?_
  refine OW.val rfl rfl (EX.lenA Tryz.underlying54 rfl) ?_
  refine OW.val rfl rfl (EX.move rfl) ?_
  refine OW.val rfl rfl (EX.lenA Tryz.underlying54 rfl) ?_
  refine OW.val rfl rfl (by first | exact EX.minN rfl rfl | exact EX.minZ rfl rfl) ?_
  refine OW.val rfl rfl (EX.move rfl) ?_
  refine OW.nil ?_
  refine KW.block ?_
  have hx2 := hg2.1
  have x2 := hg1.trans hg2
  have hba2 := hba.ext hx2
  unfold cmpP
  generalize hX : parts a = X at hba2 la
  generalize hY : parts b = Y at hbb lb
  refine KW.loop2 (fun (i : Nat) (wr : World) => i ≤ min X.length Y.length ∧ (∀ j, j < i → X[j]? = Y[j]?) ∧ Gr w2 wr) (fun (i : Nat) (wr : World) => [(5, .slice (some ⟨ba, 0, none⟩) X.length X.length), (6, .slice (some ⟨bb, 0, none⟩) Y.length Y.length), (16, .int .i64 (((min X.length Y.length) : Nat) : Int)), (17, .int .i64 ((i : Nat) : Int))]) (fun (i : Nat) (wr : World) => wr) (fun (i : Nat) (wr : World) => min X.length Y.length - i) (0) (w2) ⟨rfl, rfl, rfl, rfl, trivial⟩ rfl ?_ ?_
  · exact ⟨by omega, fun j hj => by omega, Gr.refl _⟩
  · rintro i wr ⟨hi, hs, hxr⟩
    have xr := x2.trans hxr
    have hbr := hba2.ext hxr.1
    have hcr := hbb.ext hxr.1
    refine KW.seq (KW.region ?_)
    refine OW.val rfl rfl (by first | exact EX.lssN rfl rfl | exact EX.lssZ rfl rfl) ?_
    refine OW.nil ?_
    refine KW.seq ?_
    refine KW.condD rfl (fun hlt => ?_) (fun hlt => ?_)
    · have h1 : i < X.length := by omega
      have h2 : i < Y.length := by omega
      have g1 := txtsV_get h1
      have g2 := txtsV_get h2
      refine KW.skip (KW.seq (KW.block (KW.seq (KW.region ?_))))
      refine OW.val rfl rfl (EX.move rfl) ?_
      refine OW.val rfl rfl (EX.assign rfl) ?_
      refine OW.nil ?_
      refine KW.seq ?_
      refine KW.regionQ (by kernel_rfl) (by kernel_rfl) ?_
      refine QW.val rfl rfl (fun _ => EX.move rfl) ?_
      refine QW.val rfl rfl (fun _ => EX.move rfl) ?_
      refine QW.val rfl rfl (fun _ => by first | exact EX.indexAddrS0 Tryz.underlying54 ti9 rfl rfl (by omega) | exact EX.indexAddrS1 Tryz.underlying54 ti9 rfl rfl (by omega)) ?_
      refine QW.val rfl rfl (fun _ => EX.load Tryz.underlying9 rfl rfl ((hbr.drewN _).cell_of g1)) ?_
      refine QW.val rfl rfl (fun _ => EX.move rfl) ?_
      refine QW.val rfl rfl (fun _ => EX.move rfl) ?_
      refine QW.val rfl rfl (fun _ => by first | exact EX.indexAddrS0 Tryz.underlying54 ti9 rfl rfl (by omega) | exact EX.indexAddrS1 Tryz.underlying54 ti9 rfl rfl (by omega)) ?_
      refine QW.val rfl rfl (fun _ => EX.load Tryz.underlying9 rfl rfl ((hcr.drewN _).cell_of g2)) ?_
      refine QW.val rfl rfl (fun _ => EX.neqS rfl rfl) ?_
      refine QW.nil (fun nq => ?_)
      refine KW.condD rfl (fun hne => ?_) (fun hne => ?_)
      · have hcm := cmpL_at hs h1 h2 hne
        have hbd := hbr.drewN nq
        have hcd := hcr.drewN nq
        refine KW.seq ?_
        refine KW.regionQ (by kernel_rfl) (by kernel_rfl) ?_
        refine QW.val rfl rfl (fun _ => EX.move rfl) ?_
        refine QW.val rfl rfl (fun _ => EX.move rfl) ?_
        refine QW.val rfl rfl (fun _ => by first | exact EX.indexAddrS0 Tryz.underlying54 ti9 rfl rfl (by omega) | exact EX.indexAddrS1 Tryz.underlying54 ti9 rfl rfl (by omega)) ?_
        refine QW.val rfl rfl (fun _ => EX.load Tryz.underlying9 rfl rfl ((hbd.drewN _).cell_of g1)) ?_
        refine QW.val rfl rfl (fun _ => EX.move rfl) ?_
        refine QW.val rfl rfl (fun _ => EX.move rfl) ?_
        refine QW.val rfl rfl (fun _ => by first | exact EX.indexAddrS0 Tryz.underlying54 ti9 rfl rfl (by omega) | exact EX.indexAddrS1 Tryz.underlying54 ti9 rfl rfl (by omega)) ?_
        refine QW.val rfl rfl (fun _ => EX.load Tryz.underlying9 rfl rfl ((hcd.drewN _).cell_of g2)) ?_
        refine QW.call rfl rfl rfl (fun _ => RetQ.of1 (compare_c X[i] Y[i] _)) ?_
        refine QW.val rfl rfl (fun _ => EX.assign rfl) ?_
        refine QW.nil (fun nq => ?_)
        refine KW.ret (ret1 rfl rfl ?_)
        rw [hcm]
        exact ⟨rfl, (xr.trans (Gr.drewN _ _)).trans (Gr.drewN _ _)⟩
      · refine KW.skip (KW.leave (KW.region ?_))
        refine OW.val rfl rfl (by first | exact EX.addN (b := 1) (m := 9223372036854775807) rfl rfl rfl (by omega) | exact EX.addZ (m := 9223372036854775807) rfl rfl rfl rfl (by omega)) ?_
        refine OW.val rfl rfl (EX.move rfl) ?_
        refine OW.nil ?_
        refine KW.back2 (i + 1) (wr.drewN nq) ⟨rfl, rfl, rfl, rfl, trivial⟩ rfl ?_ (by omega)
        exact ⟨by omega, same_snoc hs h1 h2 (by simpa using hne), hxr.trans (Gr.drewN wr nq)⟩
    · have hce := cmpL_end hs (by omega)
      refine KW.exit rfl (KW.seq (KW.block (KW.seq (KW.region ?_))))
      refine OW.val rfl rfl (EX.move rfl) ?_
      refine OW.val rfl rfl (EX.lenA Tryz.underlying54 rfl) ?_
      refine OW.val rfl rfl (EX.move rfl) ?_
      refine OW.val rfl rfl (EX.lenA Tryz.underlying54 rfl) ?_
      refine OW.val rfl rfl (by first | exact EX.lssN rfl rfl | exact EX.lssZ rfl rfl) ?_
      refine OW.val rfl rfl (EX.assign rfl) ?_
      refine OW.nil ?_
      refine KW.condD rfl (fun k1 => ?_) (fun k1 => ?_)
      · rw [if_pos k1] at hce
        refine KW.seq (KW.region ?_)
        refine OW.val rfl rfl (EX.assign rfl) ?_
        refine OW.nil ?_
        refine KW.ret (ret1 rfl rfl ?_)
        rw [hce]
        exact ⟨rfl, xr⟩
      · rw [if_neg k1] at hce
        refine KW.seq (KW.region ?_)
        refine OW.val rfl rfl (EX.move rfl) ?_
        refine OW.val rfl rfl (EX.lenA Tryz.underlying54 rfl) ?_
        refine OW.val rfl rfl (EX.move rfl) ?_
        refine OW.val rfl rfl (EX.lenA Tryz.underlying54 rfl) ?_
        refine OW.val rfl rfl (by first | exact EX.gtrN rfl rfl | exact EX.gtrZ rfl rfl) ?_
        refine OW.val rfl rfl (EX.assign rfl) ?_
        refine OW.nil ?_
        refine KW.condD rfl (fun k2 => ?_) (fun k2 => ?_)
        · rw [if_pos (by omega)] at hce
          refine KW.seq (KW.region ?_)
          refine OW.val rfl rfl (EX.assign rfl) ?_
          refine OW.nil ?_
          refine KW.ret (ret1 rfl rfl ?_)
          rw [hce]
          exact ⟨rfl, xr⟩
        · rw [if_neg (by omega)] at hce
          refine KW.skip (KW.leave (KW.seq (KW.region ?_)))
          refine OW.val rfl rfl (EX.assign rfl) ?_
          refine OW.nil ?_
          refine KW.ret (ret1 rfl rfl ?_)
          rw [hce]
          exact ⟨rfl, xr⟩
end Go.Proofs.YtlpnoogcdnfllaaGreatDoor
namespace Go.Proofs.YtlpnoogcdnfllaaGreatDoor.Srt
open Pth
abbrev By := List UInt8
section
variable {α : Type} (key : α → By)
def cmpK (a b : α) : Int := cmpP (key a) (key b)
theorem cmpK_val (a b : α) : cmpK key a b = -1 ∨ cmpK key a b = 0 ∨ cmpK key a b = 1 := cmpL_val _ _
theorem cmpK_neg (a b : α) : cmpK key b a = - cmpK key a b := cmpL_neg _ _
theorem cmpK_eq (a b : α) : cmpK key a b = 0 ↔ key a = key b := cmpP_eq _ _
theorem cmpK_trans {a b c : α} (h1 : cmpK key a b ≤ 0) (h2 : cmpK key b c ≤ 0) : cmpK key a c ≤ 0 := cmpL_trans _ _ _ h1 h2
theorem cmpK_lt {a b c : α} (h1 : cmpK key a b = -1) (h2 : cmpK key b c ≤ 0) : cmpK key a c = -1 := by
  have h3 := cmpK_trans key (show cmpK key a b ≤ 0 by omega) h2
  rcases cmpK_val key a c with h | h | h
  · exact h
  · exfalso
    have e := (cmpK_eq key a c).1 h
    have h4 : cmpK key b a ≤ 0 := by
      have : cmpK key b a = cmpK key b c := by unfold cmpK; rw [e]
      omega
    have h5 := cmpK_neg key a b
    omega
  · omega
theorem cmpK_lt' {a b c : α} (h1 : cmpK key a b ≤ 0) (h2 : cmpK key b c = -1) : cmpK key a c = -1 := by
  have h3 := cmpK_trans key h1 (show cmpK key b c ≤ 0 by omega)
  rcases cmpK_val key a c with h | h | h
  · exact h
  · exfalso
    have e := (cmpK_eq key a c).1 h
    have h4 : cmpK key c b ≤ 0 := by
      have : cmpK key c b = cmpK key a b := by unfold cmpK; rw [e]
      omega
    have h5 := cmpK_neg key b c
    omega
  · omega
def Rises (l : List α) : Prop := l.Pairwise (fun a b => cmpK key a b = -1)
theorem rises_one : ∀ {a b : List α}, Rises key a → Rises key b → (∀ x, x ∈ a ↔ x ∈ b) → a = b
  | [], [], _, _, _ => rfl
  | [], y :: b, _, _, h => absurd ((h y).2 (by simp)) (by simp)
  | x :: a, [], _, _, h => absurd ((h x).1 (by simp)) (by simp)
  | x :: a, y :: b, ha, hb, h => by
    have ha' := List.pairwise_cons.1 ha
    have hb' := List.pairwise_cons.1 hb
    have irr : ∀ z : α, cmpK key z z ≠ -1 := fun z q => by
      have := (cmpK_eq key z z).2 rfl
      omega
    have hxy : x = y := by
      rcases List.mem_cons.1 ((h x).1 (by simp)) with q | q
      · exact q
      · have h1 := hb'.1 x q
        rcases List.mem_cons.1 ((h y).2 (by simp)) with q2 | q2
        · exact q2.symm
        · have h2 := ha'.1 y q2
          have := cmpK_neg key x y
          omega
    subst hxy
    have hm : ∀ z, z ∈ a ↔ z ∈ b := fun z => by
      constructor
      · intro hz
        rcases List.mem_cons.1 ((h z).1 (List.mem_cons_of_mem _ hz)) with q | q
        · subst q
          exact absurd (ha'.1 z hz) (irr z)
        · exact q
      · intro hz
        rcases List.mem_cons.1 ((h z).2 (List.mem_cons_of_mem _ hz)) with q | q
        · subst q
          exact absurd (hb'.1 z hz) (irr z)
        · exact q
    rw [rises_one ha'.2 hb'.2 hm]
structure IsMap (m : By → Option α) (out : List α) : Prop where
  rises : Rises key out
  mem : ∀ x, x ∈ out ↔ m (key x) = some x
theorem IsMap.one {key : α → By} {m : By → Option α} {a b : List α} (h1 : IsMap key m a) (h2 : IsMap key m b) : a = b := rises_one key h1.rises h2.rises fun x => (h1.mem x).trans (h2.mem x).symm
def none' : By → Option α := fun _ => none
theorem IsMap.nil : IsMap key (none' : By → Option α) [] := ⟨List.Pairwise.nil, fun x => by simp [none']⟩
def upd (m : By → Option α) (p : By) (v : Option α) : By → Option α := fun q => if q = p then v else m q
def insR (x : α) : List α → List α
  | [] => [x]
  | y :: ys => if cmpK key x y = -1 then x :: y :: ys else if cmpK key x y = 0 then x :: ys else y :: insR x ys
theorem mem_insR (x : α) : ∀ {ys : List α}, Rises key ys → ∀ z, z ∈ insR key x ys ↔ z = x ∨ (z ∈ ys ∧ key z ≠ key x)
  | [], _, z => by simp [insR]
  | y :: ys, h, z => by
    have h' := List.pairwise_cons.1 h
    have ih := mem_insR x h'.2 z
    unfold insR
    by_cases c1 : cmpK key x y = -1
    · rw [if_pos c1]
      have hne : ∀ u ∈ y :: ys, key u ≠ key x := fun u hu e => by
        have h1 : cmpK key x u = -1 := by
          rcases List.mem_cons.1 hu with rfl | hu
          · exact c1
          · exact cmpK_lt key c1 (by have := h'.1 u hu; omega)
        have h2 := (cmpK_eq key x u).2 e.symm
        omega
      constructor
      · intro hz
        rcases List.mem_cons.1 hz with q | q
        · exact .inl q
        · exact .inr ⟨q, hne z q⟩
      · rintro (q | ⟨q, _⟩)
        · subst q; simp
        · exact List.mem_cons_of_mem _ q
    · rw [if_neg c1]
      by_cases c2 : cmpK key x y = 0
      · rw [if_pos c2]
        have ey := (cmpK_eq key x y).1 c2
        have hne : ∀ u ∈ ys, key u ≠ key x := fun u hu e => by
          have h1 := h'.1 u hu
          have h2 := (cmpK_eq key y u).2 (by rw [e, ey])
          omega
        constructor
        · intro hz
          rcases List.mem_cons.1 hz with q | q
          · exact .inl q
          · exact .inr ⟨List.mem_cons_of_mem _ q, hne z q⟩
        · rintro (q | ⟨q, q2⟩)
          · subst q; simp
          · rcases List.mem_cons.1 q with q | q
            · subst q
              exact absurd ey.symm q2
            · exact List.mem_cons_of_mem _ q
      · rw [if_neg c2]
        simp only [List.mem_cons, ih]
        constructor
        · rintro (q | q | ⟨q, q2⟩)
          · subst q
            exact .inr ⟨.inl rfl, fun e => c2 ((cmpK_eq key x z).2 e.symm)⟩
          · exact .inl q
          · exact .inr ⟨.inr q, q2⟩
        · rintro (q | ⟨q | q, q2⟩)
          · exact .inr (.inl q)
          · exact .inl q
          · exact .inr (.inr ⟨q, q2⟩)
theorem rises_insR (x : α) : ∀ {ys : List α}, Rises key ys → Rises key (insR key x ys)
  | [], _ => by simp [insR, Rises]
  | y :: ys, h => by
    have h' := List.pairwise_cons.1 h
    have ih := rises_insR x h'.2
    unfold insR
    by_cases c1 : cmpK key x y = -1
    · rw [if_pos c1]
      refine List.pairwise_cons.2 ⟨fun u hu => ?_, h⟩
      rcases List.mem_cons.1 hu with rfl | hu
      · exact c1
      · exact cmpK_lt key c1 (by have := h'.1 u hu; omega)
    · rw [if_neg c1]
      by_cases c2 : cmpK key x y = 0
      · rw [if_pos c2]
        refine List.pairwise_cons.2 ⟨fun u hu => ?_, h'.2⟩
        exact cmpK_lt' key (by omega) (h'.1 u hu)
      · rw [if_neg c2]
        refine List.pairwise_cons.2 ⟨fun u hu => ?_, ih⟩
        rcases (mem_insR key x h'.2 u).1 hu with q | ⟨q, _⟩
        · subst q
          have h1 := cmpK_neg key u y
          have h2 := cmpK_val key u y
          omega
        · exact h'.1 u q
theorem IsMap.put {m : By → Option α} {ys : List α} (h : IsMap key m ys) (x : α) : IsMap key (upd m (key x) (some x)) (insR key x ys) := by
  refine ⟨rises_insR key x h.rises, fun z => ?_⟩
  rw [mem_insR key x h.rises z]
  unfold upd
  by_cases e : key z = key x
  · rw [if_pos e]
    constructor
    · rintro (q | ⟨_, q⟩)
      · rw [q]
      · exact absurd e q
    · intro q
      injection q with q
      exact .inl q.symm
  · rw [if_neg e, ← h.mem z]
    constructor
    · rintro (q | ⟨q, _⟩)
      · exact absurd (by rw [q]) e
      · exact q
    · exact fun q => .inr ⟨q, e⟩
theorem IsMap.del {m : By → Option α} {ys : List α} (h : IsMap key m ys) (p : By) : IsMap key (upd m p none) (ys.filter fun y => decide (key y ≠ p)) := by
  refine ⟨List.Pairwise.filter _ h.rises, fun z => ?_⟩
  rw [List.mem_filter, h.mem z, decide_eq_true_eq]
  unfold upd
  by_cases e : key z = p
  · rw [if_pos e]
    exact ⟨fun q => absurd e q.2, fun q => by cases q⟩
  · rw [if_neg e]
    exact ⟨fun q => q.1, fun q => ⟨q, e⟩⟩
def lastF (l : List α) : By → Option α := l.foldl (fun m x => upd m (key x) (some x)) none'
theorem lastF_snoc (l : List α) (x : α) : lastF key (l ++ [x]) = upd (lastF key l) (key x) (some x) := by simp [lastF]
theorem lastF_key {l : List α} {p : By} {z : α} (h : lastF key l p = some z) : key z = p := by
  have aux : ∀ (l : List α) (m : By → Option α), (∀ p z, m p = some z → key z = p) → ∀ p z, (l.foldl (fun m x => upd m (key x) (some x)) m) p = some z → key z = p := by
    intro l
    induction l with
    | nil => intro m h; exact h
    | cons x l ih =>
      intro m h
      refine ih _ fun q y hy => ?_
      simp only [upd] at hy
      split at hy
      · rename_i e
        injection hy with hy
        rw [← hy, e]
      · exact h q y hy
  exact aux l none' (fun p z q => by cases q) p z h
theorem lastF_mem {l : List α} {p : By} {z : α} (h : lastF key l p = some z) : z ∈ l := by
  have aux : ∀ (l : List α) (m : By → Option α), ∀ p z, (l.foldl (fun m x => upd m (key x) (some x)) m) p = some z → z ∈ l ∨ m p = some z := by
    intro l
    induction l with
    | nil => intro m p z h; exact .inr h
    | cons x l ih =>
      intro m p z h
      rcases ih _ p z h with q | q
      · exact .inl (List.mem_cons_of_mem _ q)
      · simp only [upd] at q
        split at q
        · injection q with q
          exact .inl (by rw [q]; simp)
        · exact .inr q
  rcases aux l none' p z h with q | q
  · exact q
  · cases q
theorem rises_of_sorted {l : List α} (hs : ∀ i j (hi : i < l.length) (hj : j < l.length), i < j → ¬ cmpK key l[j] l[i] < 0) (hn : (l.map key).Nodup) : Rises key l := by
  unfold Rises
  rw [List.pairwise_iff_getElem]
  intro i j hi hj hij
  have h1 := hs i j hi hj hij
  have h2 := cmpK_neg key l[i] l[j]
  have h3 := cmpK_val key l[i] l[j]
  have h4 : cmpK key l[i] l[j] ≠ 0 := fun e => by
    have e2 := (cmpK_eq key _ _).1 e
    have h5 : (l.map key)[i]'(by simpa using hi) = (l.map key)[j]'(by simpa using hj) := by simpa using e2
    have := (List.getElem_inj hn).1 h5
    omega
  omega
theorem swo : Go.Sort.SWO (fun a b : α => decide (cmpK key a b < 0)) where
  irrefl x := by
    have := (cmpK_eq key x x).2 rfl
    simp [this]
  trans x y z h1 h2 := by
    simp only [decide_eq_true_eq] at *
    have := cmpK_lt key (show cmpK key x y = -1 by have := cmpK_val key x y; omega) (show cmpK key y z ≤ 0 by omega)
    omega
  ntrans x y z h1 h2 := by
    simp only [decide_eq_false_iff_not] at *
    have a1 := cmpK_neg key x y
    have a2 := cmpK_neg key y z
    have a3 := cmpK_neg key x z
    have := cmpK_trans key (show cmpK key z y ≤ 0 by omega) (show cmpK key y x ≤ 0 by omega)
    omega
end
end Go.Proofs.YtlpnoogcdnfllaaGreatDoor.Srt
namespace Go.Proofs.YtlpnoogcdnfllaaGreatDoor
open Go.RowKit Go.MapKept Srt
section
variable {α : Type}
theorem mem_putA {A : List (By × α)} {s p : By} {v u : α} : (p, u) ∈ putA A s v ↔ (p = s ∧ u = v) ∨ (p ≠ s ∧ (p, u) ∈ A) := by
  unfold putA
  by_cases h : s ∈ A.map (·.1)
  · rw [if_pos h]
    simp only [List.mem_map]
    constructor
    · rintro ⟨⟨a, b⟩, hm, he⟩
      simp only at he
      split at he
      · injection he with e1 e2
        exact .inl ⟨e1.symm, e2.symm⟩
      · rename_i hne
        injection he with e1 e2
        subst e1 e2
        exact .inr ⟨hne, hm⟩
    · rintro (⟨rfl, rfl⟩ | ⟨h1, h2⟩)
      · obtain ⟨⟨a, b⟩, hm, he⟩ := List.mem_map.1 h
        simp only at he
        subst he
        exact ⟨(a, b), hm, by simp⟩
      · exact ⟨(p, u), h2, by simp [h1]⟩
  · rw [if_neg h]
    simp only [List.mem_append, List.mem_singleton, Prod.mk.injEq]
    constructor
    · rintro (q | q)
      · refine .inr ⟨fun e => h ?_, q⟩
        subst e
        exact List.mem_map.2 ⟨_, q, rfl⟩
      · exact .inl q
    · rintro (q | ⟨_, q⟩)
      · exact .inr q
      · exact .inl q
theorem mem_delA {A : List (By × α)} {s p : By} {u : α} : (p, u) ∈ delA A s ↔ p ≠ s ∧ (p, u) ∈ A := by
  unfold delA
  rw [List.mem_filter]
  simp only [decide_eq_true_eq]
  exact And.comm
theorem putA_map {β : Type} (f : α → β) (A : List (By × α)) (s : By) (v : α) : (putA A s v).map (fun a => (a.1, f a.2)) = putA (A.map fun a => (a.1, f a.2)) s (f v) := by
  unfold putA
  have e : (A.map fun a => (a.1, f a.2)).map (·.1) = A.map (·.1) := by rw [List.map_map]; rfl
  rw [e]
  split
  · simp only [List.map_map]
    apply List.map_congr_left
    intro a ha
    simp only [Function.comp]
    split <;> rfl
  · simp
theorem delA_map {β : Type} (f : α → β) (A : List (By × α)) (s : By) : (delA A s).map (fun a => (a.1, f a.2)) = delA (A.map fun a => (a.1, f a.2)) s := by
  unfold delA
  rw [List.filter_map]
  rfl
def Rep (A : List (By × α)) (m : By → Option α) : Prop := ∀ p v, (p, v) ∈ A ↔ m p = some v
theorem Rep.nil : Rep ([] : List (By × α)) none' := fun p v => by simp [none']
theorem Rep.put {A : List (By × α)} {m : By → Option α} (h : Rep A m) (s : By) (v : α) : Rep (putA A s v) (upd m s (some v)) := fun p u => by
  rw [mem_putA, h p u]
  unfold upd
  by_cases e : p = s
  · rw [if_pos e]
    constructor
    · rintro (⟨_, q⟩ | ⟨q, _⟩)
      · rw [q]
      · exact absurd e q
    · intro q
      injection q with q
      exact .inl ⟨e, q.symm⟩
  · rw [if_neg e]
    exact ⟨fun q => q.elim (fun z => absurd z.1 e) (fun z => z.2), fun q => .inr ⟨e, q⟩⟩
theorem Rep.del {A : List (By × α)} {m : By → Option α} (h : Rep A m) (s : By) : Rep (delA A s) (upd m s none) := fun p u => by
  rw [mem_delA, h p u]
  unfold upd
  by_cases e : p = s
  · rw [if_pos e]
    exact ⟨fun q => absurd e q.1, fun q => by cases q⟩
  · rw [if_neg e]
    exact ⟨fun q => q.2, fun q => ⟨e, q⟩⟩
end
structure Seen {α : Type} (enc : α → Value) (es : Array MapEntry) (seen : Array Nat) (A V : List (By × α)) : Prop where
  sub : ∀ a ∈ V, a ∈ A
  nod : (V.map (·.1)).Nodup
  fwd : ∀ e ∈ es.toList, e.born ∈ seen → ∃ a ∈ V, e.key = str a.1
  bwd : ∀ a ∈ V, ∃ e ∈ es.toList, e.born ∈ seen ∧ e.key = str a.1
section
variable {α : Type} {enc : α → Value} {w : World} {b c : Nat} {es : Array MapEntry} {A V : List (By × α)} {seen : Array Nat}
theorem Seen.nil : Seen enc es #[] A [] := ⟨by simp, by simp, fun e _ h => by simp at h, by simp⟩
theorem Seen.next (hm : Mp w b es c (A.map fun a => (a.1, enc a.2))) (h : Seen enc es seen A V) {e : MapEntry} (he : e ∈ es.toList) (hn : e.born ∉ seen) : ∃ a ∈ A, e.key = str a.1 ∧ e.val = enc a.2 ∧ Seen enc es (seen.push e.born) A (V ++ [a]) := by
  obtain ⟨p, hp, e1, e2⟩ := hm.mem he
  obtain ⟨a, ha, rfl⟩ := List.mem_map.1 hp
  have hnod := hm.st.2.2
  have inj : ∀ e' ∈ es.toList, e'.key = e.key → e' = e := fun e' he' q => by
    obtain ⟨i, hi, rfl⟩ := List.mem_iff_getElem.1 he
    obtain ⟨j, hj, rfl⟩ := List.mem_iff_getElem.1 he'
    have h5 : (es.toList.map (·.key))[j]'(by simpa using hj) = (es.toList.map (·.key))[i]'(by simpa using hi) := by simpa using q
    have := (List.getElem_inj hnod).1 h5
    subst this
    rfl
  refine ⟨a, ha, e1, e2, fun x hx => ?_, ?_, fun e' he' hb => ?_, fun x hx => ?_⟩
  · rcases List.mem_append.1 hx with hx | hx
    · exact h.sub x hx
    · simp only [List.mem_singleton] at hx
      subst hx
      exact ha
  · rw [List.map_append, List.map_singleton, List.nodup_append]
    refine ⟨h.nod, by simp, fun x hx y hy q => ?_⟩
    simp only [List.mem_singleton] at hy
    subst hy
    obtain ⟨a', ha', rfl⟩ := List.mem_map.1 hx
    obtain ⟨e', he', hb', hk'⟩ := h.bwd a' ha'
    have := inj e' he' (by rw [hk', e1, q])
    subst this
    exact hn hb'
  · rcases Array.mem_push.1 hb with hb | hb
    · obtain ⟨x, hx, q⟩ := h.fwd e' he' hb
      exact ⟨x, List.mem_append_left _ hx, q⟩
    · by_cases q : e'.born ∈ seen
      · obtain ⟨x, hx, q⟩ := h.fwd e' he' q
        exact ⟨x, List.mem_append_left _ hx, q⟩
      · refine ⟨a, by simp, ?_⟩
        have hbn := hm.st.2.1
        have : e' = e := by
          obtain ⟨i, hi, rfl⟩ := List.mem_iff_getElem.1 he
          obtain ⟨j, hj, rfl⟩ := List.mem_iff_getElem.1 he'
          have h5 : (es.toList.map (·.born))[j]'(by simpa using hj) = (es.toList.map (·.born))[i]'(by simpa using hi) := by simpa using hb
          have := (List.getElem_inj hbn).1 h5
          subst this
          rfl
        rw [this, e1]
  · rcases List.mem_append.1 hx with hx | hx
    · obtain ⟨e', he', hb', hk'⟩ := h.bwd x hx
      exact ⟨e', he', Array.mem_push.2 (.inl hb'), hk'⟩
    · simp only [List.mem_singleton] at hx
      subst hx
      exact ⟨e, he, Array.mem_push.2 (.inr rfl), e1⟩
theorem Seen.done (hm : Mp w b es c (A.map fun a => (a.1, enc a.2))) (h : Seen enc es seen A V) (hall : ∀ e ∈ es.toList, e.born ∈ seen) : ∀ a, a ∈ V ↔ a ∈ A := fun a => by
  refine ⟨h.sub a, fun ha => ?_⟩
  have hk := hm.keys
  rw [List.map_map] at hk
  have hp : (str a.1, enc a.2) ∈ es.toList.map (fun e => (e.key, e.val)) := by
    rw [hm.kv, List.map_map]
    exact List.mem_map.2 ⟨a, ha, rfl⟩
  obtain ⟨e, he, q⟩ := List.mem_map.1 hp
  injection q with q1 q2
  obtain ⟨a', ha', q3⟩ := h.fwd e he (hall e he)
  have q4 : a.1 = a'.1 := str_inj (q1.symm.trans q3)
  have h' := h.sub a' ha'
  obtain ⟨i, hi, rfl⟩ := List.mem_iff_getElem.1 ha
  obtain ⟨j, hj, rfl⟩ := List.mem_iff_getElem.1 h'
  have h5 : (A.map ((fun x => x.1) ∘ fun a => (a.1, enc a.2)))[i]'(by simpa using hi) = (A.map ((fun x => x.1) ∘ fun a => (a.1, enc a.2)))[j]'(by simpa using hj) := by simpa using q4
  have := (List.getElem_inj hk).1 h5
  subst this
  exact ha'
end
end Go.Proofs.YtlpnoogcdnfllaaGreatDoor
namespace Go.Proofs.YtlpnoogcdnfllaaGreatDoor
open Go.Shelf
def Tryz.sort14_ren : Go.Shelf.Ren := ⟨fun | 6 => 14 | 15 => 32 | 14 => 31 | 28 => 55 | 29 => 56 | 20 => 47 | 21 => 48 | 22 => 49 | 23 => 50 | 24 => 51 | 25 => 52 | 26 => 53 | 27 => 54 | 46 => 71 | 47 => 72 | 48 => 73 | 49 => 74 | 50 => 75 | 57 => 85 | n => n, fun | 22 => 22 | 24 => 27 | 25 => 49 | 3 => 3 | 39 => 77 | 0 => 0 | 53 => 25 | 55 => 82 | 4 => 4 | 46 => 98 | 45 => 97 | 50 => 102 | 5 => 5 | 9 => 9 | 66 => 126 | 70 => 130 | 76 => 141 | 77 => 142 | n => n, fun | n => n⟩
theorem Tryz.sort14 : Go.Proofs.SlLaysF0.n6 Tryz.prog Tryz.sort14_ren := {
  mixed := by kernel_rfl
  f6 := ⟨Tryz.f14.name, by decide, Tryz.func14.trans (congrArg some (by kernel_rfl))⟩
  f14 := ⟨Tryz.f31.name, by decide, Tryz.func31.trans (congrArg some (by kernel_rfl))⟩
  f15 := Tryz.func32.trans (congrArg some (by kernel_rfl))
  f20 := ⟨Tryz.f47.name, by decide, Tryz.func47.trans (congrArg some (by kernel_rfl))⟩
  f21 := ⟨Tryz.f48.name, by decide, Tryz.func48.trans (congrArg some (by kernel_rfl))⟩
  f22 := ⟨Tryz.f49.name, by decide, Tryz.func49.trans (congrArg some (by kernel_rfl))⟩
  f23 := ⟨Tryz.f50.name, by decide, Tryz.func50.trans (congrArg some (by kernel_rfl))⟩
  f24 := ⟨Tryz.f51.name, by decide, Tryz.func51.trans (congrArg some (by kernel_rfl))⟩
  f25 := ⟨Tryz.f52.name, by decide, Tryz.func52.trans (congrArg some (by kernel_rfl))⟩
  f26 := ⟨Tryz.f53.name, by decide, Tryz.func53.trans (congrArg some (by kernel_rfl))⟩
  f27 := ⟨Tryz.f54.name, by decide, Tryz.func54.trans (congrArg some (by kernel_rfl))⟩
  f28 := Tryz.func55.trans (congrArg some (by kernel_rfl))
  f29 := Tryz.func56.trans (congrArg some (by kernel_rfl))
  f46 := ⟨Tryz.f71.name, by decide, Tryz.func71.trans (congrArg some (by kernel_rfl))⟩
  f47 := Tryz.func72.trans (congrArg some (by kernel_rfl))
  f48 := Tryz.func73.trans (congrArg some (by kernel_rfl))
  f49 := ⟨Tryz.f74.name, by decide, Tryz.func74.trans (congrArg some (by kernel_rfl))⟩
  f50 := ⟨Tryz.f75.name, by decide, Tryz.func75.trans (congrArg some (by kernel_rfl))⟩
  f57 := ⟨Tryz.f85.name, by decide, Tryz.func85.trans (congrArg some (by kernel_rfl))⟩
  t0 := Tryz.underlying0
  a0 := Tryz.isAgg0
  z0 := Tryz.sizeOf0
  v0 := Tryz.zeroValue0
  t3 := Tryz.underlying3
  a3 := Tryz.isAgg3
  z3 := Tryz.sizeOf3
  v3 := Tryz.zeroValue3
  t4 := Tryz.underlying4
  a4 := Tryz.isAgg4
  z4 := Tryz.sizeOf4
  v4 := Tryz.zeroValue4
  t5 := Tryz.underlying5
  a5 := Tryz.isAgg5
  z5 := Tryz.sizeOf5
  v5 := Tryz.zeroValue5
  t9 := Tryz.underlying9
  a9 := Tryz.isAgg9
  z9 := Tryz.sizeOf9
  v9 := Tryz.zeroValue9
  t22 := Tryz.underlying22
  a22 := Tryz.isAgg22
  z22 := Tryz.sizeOf22
  v22 := Tryz.zeroValue22
  t25 := Tryz.underlying49
  a25 := Tryz.isAgg49
  z25 := Tryz.sizeOf49
  v25 := Tryz.zeroValue49
  t39 := Tryz.underlying77
  a39 := Tryz.isAgg77
  z39 := Tryz.sizeOf77
  v39 := Tryz.zeroValue77
  t45 := Tryz.underlying97
  a45 := Tryz.isAgg97
  z45 := Tryz.sizeOf97
  v45 := Tryz.zeroValue97
  t46 := Tryz.underlying98
  a46 := Tryz.isAgg98
  z46 := Tryz.sizeOf98
  v46 := Tryz.zeroValue98
  t50 := Tryz.underlying102
  a50 := Tryz.isAgg102
  z50 := Tryz.sizeOf102
  v50 := Tryz.zeroValue102
  t53 := Tryz.underlying25
  a53 := Tryz.isAgg25
  z53 := Tryz.sizeOf25
  v53 := Tryz.zeroValue25
  t55 := Tryz.underlying82
  a55 := Tryz.isAgg82
  z55 := Tryz.sizeOf82
  v55 := Tryz.zeroValue82
  t66 := Tryz.underlying126
  a66 := Tryz.isAgg126
  z66 := Tryz.sizeOf126
  v66 := Tryz.zeroValue126
  t70 := Tryz.underlying130
  a70 := Tryz.isAgg130
  z70 := Tryz.sizeOf130
  v70 := Tryz.zeroValue130
  t76 := Tryz.underlying141
  a76 := Tryz.isAgg141
  z76 := Tryz.sizeOf141
  v76 := Tryz.zeroValue141
  t77 := Tryz.underlying142
  a77 := Tryz.isAgg142
  z77 := Tryz.sizeOf142
  v77 := Tryz.zeroValue142 }
end Go.Proofs.YtlpnoogcdnfllaaGreatDoor
namespace Go.Proofs.YtlpnoogcdnfllaaGreatDoor
open Go.RowKit Pth Rec Srt Wal
abbrev MsS := { x : M // x.path.length ≤ 2000000 }
instance : Inhabited MsS := ⟨⟨⟨[], 0, 0, 0, 0⟩, by simp⟩⟩
abbrev msK (x : MsS) : List UInt8 := x.1.path
theorem apply1_s (x y : MsS) (W : World) (hG : MLen W) : Ret Tryz.prog 15 [.agg (x.1.cells).toArray, .agg (y.1.cells).toArray] W fun r W' => r = .int .i64 (cmpK msK x y) ∧ Gr W W' := by
  obtain ⟨x, hx⟩ := x
  obtain ⟨y, hy⟩ := y
  refine Ret.enter Tryz.func15 rfl Tryz.ntmps15 (by kernel_rfl) rfl ?_
  refine KW.seq (KW.region ?_)
  refine OW.val rfl rfl (EX.box (l := x.cells) rfl rfl) ?_
  have hb1 := Bk.new W 27 x.cells
  have g1 := Gr.alloc W (.cells x.cells.toArray 27)
  generalize hw1 : W.alloc (.cells x.cells.toArray 27) = w1 at hb1 g1
  refine OW.val rfl rfl (EX.box (l := y.cells) rfl rfl) ?_
  refine OW.val rfl rfl (EX.assign rfl) ?_
  refine OW.nil ?_
  refine KW.seq (KW.region ?_)
  refine OW.val rfl rfl (EX.fieldAddr (off := 0) Tryz.underlying27 rfl rfl ti9 rfl rfl) ?_
  have hb2 := Bk.new w1 27 y.cells
  have g2 := Gr.alloc w1 (.cells y.cells.toArray 27)
  have hb1b := hb1.ext g2.1
  generalize hw2 : w1.alloc (.cells y.cells.toArray 27) = w2 at hb2 g2 hb1b
  have g3 := g1.trans g2
  refine OW.val rfl rfl (EX.load Tryz.underlying9 rfl rfl (hb1b.cell_of rfl)) ?_
  refine OW.val rfl rfl (EX.fieldAddr (off := 0) Tryz.underlying27 rfl rfl ti9 rfl rfl) ?_
  refine OW.val rfl rfl (EX.load Tryz.underlying9 rfl rfl (hb2.cell_of rfl)) ?_
  refine OW.call rfl rfl rfl (cmpG_s x.path y.path hx hy w2 (hG.ext g3.1)) ?_
  rintro _ w3 ⟨rfl, hg⟩
  refine OW.val rfl rfl (EX.assign rfl) ?_
  refine OW.nil ?_
  refine KW.ret (ret1 rfl rfl ?_)
  exact ⟨rfl, g3.trans hg⟩
def stepN (m : List UInt8 → Option M) (n : Nt) : List UInt8 → Option M := if n.kind = 1 then upd m n.mem.path (some n.mem) else if n.kind = 2 then upd m n.mem.path none else m
def appF (l : List M) (ns : List Nt) : List UInt8 → Option M := ns.foldl stepN (lastF M.path l)
theorem appF_snoc (l : List M) (ns : List Nt) (n : Nt) : appF l (ns ++ [n]) = stepN (appF l ns) n := by simp [appF]
theorem snocI {α : Type} {p : List α → Prop} (h0 : p []) (h1 : ∀ l a, p l → p (l ++ [a])) (l : List α) : p l := by
  have : ∀ r : List α, p r.reverse := fun r => by
    induction r with
    | nil => exact h0
    | cons a r ih => rw [List.reverse_cons]; exact h1 _ _ ih
  simpa using this l.reverse
theorem appF_mem (l : List M) (ns : List Nt) : ∀ p z, appF l ns p = some z → z.path = p ∧ (z ∈ l ∨ ∃ n ∈ ns, n.mem = z) := by
  induction ns using snocI with
  | h0 => intro p z h; exact ⟨lastF_key M.path h, .inl (lastF_mem M.path h)⟩
  | h1 ns n ih =>
    intro p z h
    rw [appF_snoc] at h
    have old : appF l ns p = some z → z.path = p ∧ (z ∈ l ∨ ∃ k ∈ ns ++ [n], k.mem = z) := fun q => by
      obtain ⟨a, b⟩ := ih p z q
      exact ⟨a, b.imp id fun ⟨k, hk, e⟩ => ⟨k, by simp [hk], e⟩⟩
    unfold stepN at h
    split at h
    · unfold upd at h
      split at h
      · rename_i e
        injection h with h
        subst h
        exact ⟨e.symm, .inr ⟨n, by simp, rfl⟩⟩
      · exact old h
    · split at h
      · unfold upd at h
        split at h
        · cases h
        · exact old h
      · exact old h
abbrev PrM := List UInt8 × M
abbrev encM (m : M) : Value := .agg m.cells.toArray
theorem putA_len {α : Type} (l : List (List UInt8 × α)) (s : List UInt8) (v : α) : (putA l s v).length ≤ l.length + 1 := by
  unfold putA
  split <;> simp
theorem delA_len {α : Type} (l : List (List UInt8 × α)) (s : List UInt8) : (delA l s).length ≤ l.length := List.length_filter_le _ _
theorem nodup_leM {α : Type} [DecidableEq α] : ∀ {V A : List α}, V.Nodup → (∀ a ∈ V, a ∈ A) → V.length ≤ A.length
  | [], _, _, _ => Nat.zero_le _
  | x :: V, A, hn, h => by
    have hn' := List.nodup_cons.1 hn
    have hx := h x (by simp)
    have ih := nodup_leM (A := A.erase x) hn'.2 (fun a ha => (List.mem_erase_of_ne (fun e => hn'.1 (by rw [← e]; exact ha))).2 (h a (by simp [ha])))
    rw [List.length_erase_of_mem hx] at ih
    have := List.length_pos_of_mem hx
    rw [List.length_cons]
    omega
theorem nodup_fstM {α β : Type} {V : List (α × β)} (h : (V.map (·.1)).Nodup) : V.Nodup := by
  have : V.Pairwise (fun a b => a.1 ≠ b.1) := List.pairwise_map.1 h
  exact this.imp fun hne e => hne (by rw [e])
theorem it_ext {w w' : World} {r b s : Nat} {seen : Array Nat} {c : Nat} (h : It w r b s seen c) (hx : Ext w w') : It w' r b s seen c := by
  unfold It at h ⊢
  have hlt : r < w.heap.size := by
    rcases Nat.lt_or_ge r w.heap.size with q | q
    · exact q
    · simp [Array.getElem?_eq_none q] at h
  rw [hx.block r hlt]
  exact h
set_option maxRecDepth 20000 in
theorem wapply_s (l : List M) (hl : ∀ x ∈ l, x.path.length ≤ 2000000) (hn : l.length ≤ 100000) (ns : List Nt) (hl2 : ∀ x ∈ ns, x.mem.path.length ≤ 2000000) (hn2 : ns.length ≤ 100000) (A A2 : Option Addr) (c c2 B B2 : Nat) (w : World) (hG : MLen w) (hs : Sl w B A (memsV l)) (hs2 : Sl w B2 A2 (ntsV ns)) :
    Ret Tryz.prog 6 [.slice A l.length c, .slice A2 ns.length c2] w fun v w' => ∃ out, IsMap M.path (appF l ns) out ∧ Own w' w.heap.size 27 5 v out.length (memsV out) ∧ Ext w w' := by
  refine Ret.enter Tryz.func6 rfl Tryz.ntmps6 (by kernel_rfl) rfl ?_
  refine KW.seq (KW.region ?_)
  refine OW.val rfl rfl (EX.assign rfl) ?_
  refine OW.nil ?_
  refine KW.seq (KW.region ?_)
  refine OW.makeMap rfl rfl ?_
  rintro mb w1 hge1 hm1 hx1
  refine OW.val rfl rfl (EX.assign rfl) ?_
  refine OW.nil ?_
  refine KW.seq (KW.seq (KW.region ?_))
  refine OW.val rfl rfl (EX.move rfl) ?_
  refine OW.val rfl rfl (EX.lenA Tryz.underlying22 rfl) ?_
  refine OW.val rfl rfl (EX.move rfl) ?_
  refine OW.nil ?_
  refine KW.block ?_
  refine KW.loop2 (fun (i : Nat) (wr : World) => i ≤ l.length ∧ (∃ es cc AA, Mp wr mb es cc (AA.map fun a : PrM => (a.1, encM a.2)) ∧ Rep AA (lastF M.path (l.take i)) ∧ AA.length ≤ i) ∧ Ext w wr) (fun (i : Nat) (wr : World) => [(1, .slice A2 ns.length c2), (5, .map (some mb)), (14, .slice A l.length c), (15, .int .i64 ((l.length : Nat) : Int)), (16, .int .i64 ((i : Nat) : Int))]) (fun (i : Nat) (wr : World) => wr) (fun (i : Nat) (wr : World) => l.length - i) (0) (w1) ⟨rfl, rfl, rfl, rfl, rfl, trivial⟩ rfl ?_ ?_
  · exact ⟨Nat.zero_le _, ⟨_, _, [], hm1, Rep.nil, Nat.le_refl _⟩, hx1⟩
  · rintro i wr ⟨hi, ⟨es, cc, AA, hm, hrep, hal⟩, hx⟩
    refine KW.seq (KW.region ?_)
    refine OW.val rfl rfl (by first | exact EX.lssN rfl rfl | exact EX.lssZ rfl rfl) ?_
    refine OW.nil ?_
    refine KW.seq ?_
    refine KW.condD rfl (fun hlt => ?_) (fun hlt => ?_)
    · obtain ⟨b, o, rfl, _, hcell⟩ := (hs.ext hx).flat (c := 5) (fun _ => rfl) (by decide) hlt
      have hsn : l.take (i + 1) = l.take i ++ [l[i]] := (List.take_append_getElem hlt).symm
      generalize l[i] = x at hcell hsn
      refine KW.skip (KW.seq (KW.block (KW.seq (KW.region ?_))))
      refine OW.val rfl rfl (EX.indexAddrS Tryz.underlying22 ti27 rfl rfl (by omega)) ?_
      refine OW.val rfl rfl (EX.loadA (l := x.cells) Tryz.underlying27 rfl ti27 rfl rfl hcell) ?_
      refine OW.allocB (l := [str [], .int .i64 0, .int .i64 0, .int .i64 0, .int .u32 0]) rfl rfl ti27 rfl ?_
      rintro xb w2 hge2 hb2 hx2
      refine OW.storeS rfl ti27 rfl rfl rfl (by first | rfl | (simp only [List.all_cons, List.all_nil, Bool.and_true, Bool.true_and, Bool.and_eq_true, Value.oneCell']; repeat (first | assumption | exact Own.one (by assumption) | constructor))) (hb2) (Nat.le_refl _) ?_
      rintro w3 hb3 hm3
      refine OW.nil ?_
      refine KW.region ?_
      refine OW.val rfl rfl (EX.move rfl) ?_
      refine OW.val rfl rfl (EX.fieldAddr (off := 0) Tryz.underlying27 rfl rfl ti9 rfl rfl) ?_
      replace hb3 : Bk w3 xb 27 x.cells := hb3
      have x3 : Ext wr w3 := below_mo hx2 hm3 hx2.size (fun k hk => by simp at hk; omega)
      have hm4 := hm.ext x3
      refine OW.val rfl rfl (EX.load Tryz.underlying9 rfl rfl (hb3.cell_of rfl)) ?_
      refine OW.val rfl rfl (EX.loadBk Tryz.underlying27 rfl ti27 rfl hb3 rfl) ?_
      refine OW.put rfl Tryz.underlying46 Tryz.underlying9 rfl rfl rfl (hm4) ?_
      rintro es5 cc5 w5 hm5 hmo5
      refine OW.nil ?_
      refine KW.leave (KW.region ?_)
      refine OW.val rfl rfl (by first | exact EX.addN (b := 1) (m := 9223372036854775807) rfl rfl rfl (by omega) | exact EX.addZ (m := 9223372036854775807) rfl rfl rfl rfl (by omega)) ?_
      refine OW.val rfl rfl (EX.move rfl) ?_
      refine OW.nil ?_
      refine KW.back2 (i + 1) (w5) ⟨rfl, rfl, rfl, rfl, rfl, trivial⟩ rfl ?_ (by omega)
      refine ⟨by omega, ⟨es5, cc5, putA AA x.path x, ?_, by rw [hsn, lastF_snoc]; exact hrep.put _ _, Nat.le_trans (putA_len _ _ _) (by omega)⟩, below_mo (hx.trans x3) hmo5 (hx.trans x3).size (fun k hk => by simp at hk; omega)⟩
      rw [putA_map encM AA x.path x]
      exact hm5
    · obtain rfl : i = l.length := by omega
      rw [List.take_length] at hrep
      refine KW.exit rfl (KW.seq (KW.seq (KW.region ?_)))
      refine OW.val rfl rfl (EX.move rfl) ?_
      refine OW.val rfl rfl (EX.lenA Tryz.underlying23 rfl) ?_
      refine OW.val rfl rfl (EX.move rfl) ?_
      refine OW.nil ?_
      refine KW.block ?_
      refine KW.loop2 (fun (i : Nat) (wr : World) => i ≤ ns.length ∧ (∃ es cc AA, Mp wr mb es cc (AA.map fun a : PrM => (a.1, encM a.2)) ∧ Rep AA (appF l (ns.take i)) ∧ AA.length ≤ l.length + i) ∧ Ext w wr) (fun (i : Nat) (wr : World) => [(5, .map (some mb)), (25, .slice A2 ns.length c2), (26, .int .i64 ((ns.length : Nat) : Int)), (27, .int .i64 ((i : Nat) : Int))]) (fun (i : Nat) (wr : World) => wr) (fun (i : Nat) (wr : World) => ns.length - i) (0) (wr) ⟨rfl, rfl, rfl, rfl, trivial⟩ rfl ?_ ?_
      · exact ⟨Nat.zero_le _, ⟨_, _, AA, hm, hrep, hal⟩, hx⟩
      · clear hm hrep hal hx es cc AA
        rintro i wr ⟨hi, ⟨es, cc, AA, hm, hrep, hal⟩, hx⟩
        refine KW.seq (KW.region ?_)
        refine OW.val rfl rfl (by first | exact EX.lssN rfl rfl | exact EX.lssZ rfl rfl) ?_
        refine OW.nil ?_
        refine KW.seq ?_
        refine KW.condD rfl (fun hlt => ?_) (fun hlt => ?_)
        · obtain ⟨b, o, rfl, _, hcell⟩ := (hs2.ext hx).flat (c := 6) (fun _ => rfl) (by decide) hlt
          have hsn : ns.take (i + 1) = ns.take i ++ [ns[i]] := (List.take_append_getElem hlt).symm
          generalize ns[i] = x at hcell hsn
          refine KW.skip (KW.seq (KW.block (KW.seq (KW.region ?_))))
          refine OW.val rfl rfl (EX.indexAddrS Tryz.underlying23 ti39 rfl rfl (by omega)) ?_
          refine OW.val rfl rfl (EX.loadA (l := x.cells) Tryz.underlying39 rfl ti39 rfl rfl hcell) ?_
          refine OW.allocB (l := [.int .i64 0, str [], .int .i64 0, .int .i64 0, .int .i64 0, .int .u32 0]) rfl rfl ti39 rfl ?_
          rintro xb w2 hge2 hb2 hx2
          refine OW.storeS rfl ti39 rfl rfl rfl (by first | rfl | (simp only [List.all_cons, List.all_nil, Bool.and_true, Bool.true_and, Bool.and_eq_true, Value.oneCell']; repeat (first | assumption | exact Own.one (by assumption) | constructor))) (hb2) (Nat.le_refl _) ?_
          rintro w3 hb3 hm3
          refine OW.nil ?_
          refine KW.seq (KW.region ?_)
          refine OW.val rfl rfl (EX.fieldAddr (off := 0) Tryz.underlying39 rfl rfl ti3 rfl rfl) ?_
          replace hb3 : Bk w3 xb 39 x.cells := hb3
          have x3 : Ext wr w3 := below_mo hx2 hm3 hx2.size (fun k hk => by simp at hk; omega)
          have hm4 := hm.ext x3
          have hpart := hb3.part (o := 1) (l2 := x.mem.cells) rfl
          refine OW.val rfl rfl (EX.load Tryz.underlying3 rfl rfl (hb3.cell_of rfl)) ?_
          refine OW.nil ?_
          refine KW.block (KW.seq (KW.region ?_))
          refine OW.val rfl rfl (by first | exact EX.eqlN (b := 1) rfl rfl | exact EX.eqlZ rfl rfl) ?_
          refine OW.val rfl rfl (EX.assign rfl) ?_
          refine OW.nil ?_
          refine KW.condD rfl (fun hk1 => ?_) (fun hk1 => ?_)
          · have hst : appF l (ns.take (i + 1)) = upd (appF l (ns.take i)) x.mem.path (some x.mem) := by rw [hsn, appF_snoc]; unfold stepN; rw [if_pos hk1]
            refine KW.region ?_
            refine OW.val rfl rfl (EX.move rfl) ?_
            refine OW.val rfl rfl (EX.fieldAddr (off := 1) Tryz.underlying39 rfl rfl ti27 rfl rfl) ?_
            refine OW.val rfl rfl (EX.fieldAddr (off := 0) Tryz.underlying27 rfl rfl ti9 rfl rfl) ?_
            refine OW.val rfl rfl (EX.load Tryz.underlying9 rfl rfl (hb3.cell_of rfl)) ?_
            refine OW.val rfl rfl (EX.fieldAddr (off := 1) Tryz.underlying39 rfl rfl ti27 rfl rfl) ?_
            refine OW.val rfl rfl (EX.loadA (l := x.mem.cells) Tryz.underlying27 rfl ti27 rfl rfl hpart) ?_
            refine OW.put rfl Tryz.underlying46 Tryz.underlying9 rfl rfl rfl (hm4) ?_
            rintro es5 cc5 w5 hm5 hmo5
            refine OW.nil ?_
            refine KW.leave (KW.leave (KW.region ?_))
            refine OW.val rfl rfl (by first | exact EX.addN (b := 1) (m := 9223372036854775807) rfl rfl rfl (by omega) | exact EX.addZ (m := 9223372036854775807) rfl rfl rfl rfl (by omega)) ?_
            refine OW.val rfl rfl (EX.move rfl) ?_
            refine OW.nil ?_
            refine KW.back2 (i + 1) (w5) ⟨rfl, rfl, rfl, rfl, trivial⟩ rfl ?_ (by omega)
            refine ⟨by omega, ⟨es5, cc5, putA AA x.mem.path x.mem, ?_, by rw [hst]; exact hrep.put _ _, Nat.le_trans (putA_len _ _ _) (by omega)⟩, below_mo (hx.trans x3) hmo5 (hx.trans x3).size (fun k hk => by simp at hk; omega)⟩
            rw [putA_map encM AA x.mem.path x.mem]
            exact hm5
          · refine KW.seq (KW.region ?_)
            refine OW.val rfl rfl (by first | exact EX.eqlN (b := 2) rfl rfl | exact EX.eqlZ rfl rfl) ?_
            refine OW.val rfl rfl (EX.assign rfl) ?_
            refine OW.nil ?_
            refine KW.condD rfl (fun hk2 => ?_) (fun hk2 => ?_)
            · have hst : appF l (ns.take (i + 1)) = upd (appF l (ns.take i)) x.mem.path none := by rw [hsn, appF_snoc]; unfold stepN; rw [if_neg hk1, if_pos hk2]
              refine KW.region ?_
              refine OW.val rfl rfl (EX.move rfl) ?_
              refine OW.val rfl rfl (EX.fieldAddr (off := 1) Tryz.underlying39 rfl rfl ti27 rfl rfl) ?_
              refine OW.val rfl rfl (EX.fieldAddr (off := 0) Tryz.underlying27 rfl rfl ti9 rfl rfl) ?_
              refine OW.val rfl rfl (EX.load Tryz.underlying9 rfl rfl (hb3.cell_of rfl)) ?_
              refine OW.del rfl Tryz.underlying46 Tryz.underlying9 rfl rfl (hm4) ?_
              rintro es5 cc5 w5 hm5 hmo5
              refine OW.nil ?_
              refine KW.leave (KW.leave (KW.region ?_))
              refine OW.val rfl rfl (by first | exact EX.addN (b := 1) (m := 9223372036854775807) rfl rfl rfl (by omega) | exact EX.addZ (m := 9223372036854775807) rfl rfl rfl rfl (by omega)) ?_
              refine OW.val rfl rfl (EX.move rfl) ?_
              refine OW.nil ?_
              refine KW.back2 (i + 1) (w5) ⟨rfl, rfl, rfl, rfl, trivial⟩ rfl ?_ (by omega)
              refine ⟨by omega, ⟨es5, cc5, delA AA x.mem.path, ?_, by rw [hst]; exact hrep.del _, Nat.le_trans (delA_len _ _) (by omega)⟩, below_mo (hx.trans x3) hmo5 (hx.trans x3).size (fun k hk => by simp at hk; omega)⟩
              rw [delA_map encM AA x.mem.path]
              exact hm5
            · have hst : appF l (ns.take (i + 1)) = appF l (ns.take i) := by rw [hsn, appF_snoc]; unfold stepN; rw [if_neg hk1, if_neg hk2]
              refine KW.skip (KW.leave (KW.leave (KW.region ?_)))
              refine OW.val rfl rfl (by first | exact EX.addN (b := 1) (m := 9223372036854775807) rfl rfl rfl (by omega) | exact EX.addZ (m := 9223372036854775807) rfl rfl rfl rfl (by omega)) ?_
              refine OW.val rfl rfl (EX.move rfl) ?_
              refine OW.nil ?_
              refine KW.back2 (i + 1) (w3) ⟨rfl, rfl, rfl, rfl, trivial⟩ rfl ?_ (by omega)
              exact ⟨by omega, ⟨es, cc, AA, hm4, by rw [hst]; exact hrep, by omega⟩, hx.trans x3⟩
        · obtain rfl : i = ns.length := by omega
          rw [List.take_length] at hrep
          have hmg : w.heap.size ≤ mb := hge1
          have hkM : ∀ a ∈ AA, a.2.path = a.1 ∧ a.2.path.length ≤ 2000000 := fun a ha => by
            obtain ⟨e1, e2⟩ := appF_mem l ns _ _ ((hrep a.1 a.2).1 ha)
            refine ⟨e1, ?_⟩
            rcases e2 with e2 | ⟨n, hn', e2⟩
            · exact hl _ e2
            · rw [← e2]; exact hl2 _ hn'
          refine KW.exit rfl (KW.seq (KW.region ?_))
          refine OW.val rfl rfl (EX.assign rfl) ?_
          refine OW.nil ?_
          refine KW.seq (KW.seq (KW.region ?_))
          refine OW.val rfl rfl (EX.move rfl) ?_
          refine OW.range rfl rfl Tryz.underlying46 rfl (hm) ?_
          rintro rb w2 hge2 hi2 hx2
          refine OW.nil ?_
          have hm2 := hm.ext hx2
          have x2 := hx.trans hx2
          have hrm : rb ≠ mb := by have := hm.lt; omega
          have hrg : w.heap.size ≤ rb := by have := hx.size; omega
          refine KW.cut3 (fun (V : (List PrM)) (v : Value) (wq : World) => (∀ a, a ∈ V ↔ a ∈ AA) ∧ (V.map (·.1)).Nodup ∧ Own wq w.heap.size 27 5 v V.length (memsV (V.map (·.2))) ∧ Ext w wq) (fun (V : (List PrM)) (v : Value) (wq : World) => [(10, v)]) (fun (V : (List PrM)) (v : Value) (wq : World) => wq) ?_ ?_
          · refine KW.block ?_
            refine KW.loop3 (fun (V : (List PrM)) (v : Value) (wq : World) => (∃ seen, Seen encM es seen AA V ∧ It wq rb mb cc seen cc) ∧ Mp wq mb es cc (AA.map fun a : PrM => (a.1, encM a.2)) ∧ Own wq w.heap.size 27 5 v V.length (memsV (V.map (·.2))) ∧ Ext w wq) (fun (V : (List PrM)) (v : Value) (wq : World) => [(10, v), (49, .pointer (some ⟨rb, 0, none⟩))]) (fun (V : (List PrM)) (v : Value) (wq : World) => wq) (fun (V : (List PrM)) (v : Value) (wq : World) => AA.length - V.length) ([]) (.slice none 0 0) (w2) ⟨rfl, rfl, trivial⟩ rfl ?_ ?_
            · exact ⟨⟨#[], Seen.nil, hi2⟩, hm2, Own.nil _ _ _ _, x2⟩
            · rintro V v wq ⟨⟨seen, hseen, hit⟩, hmq, hown, hxq⟩
              refine KW.seq (KW.region ?_)
              refine OW.next rfl rfl rfl (hmq) (hit) ?_ ?_
              · intro hall
                refine OW.val rfl rfl (EX.extract rfl rfl) ?_
                refine OW.nil ?_
                refine KW.seq ?_
                refine KW.condF rfl (KW.exit rfl ?_)
                refine KW.meet3 (V) (v) (wq) ⟨rfl, trivial⟩ rfl ?_
                exact ⟨hseen.done hmq hall, hseen.nod, hown, hxq⟩
              · rintro e w3 he hne hit3 hmo3
                refine OW.val rfl rfl (EX.extract rfl rfl) ?_
                refine OW.nil ?_
                refine KW.seq ?_
                refine KW.condT rfl (KW.skip (KW.block (KW.seq (KW.region ?_))))
                obtain ⟨a, haA, hk, hv, hseen3⟩ := hseen.next hmq he hne
                obtain ⟨ek, ew, eb⟩ := e
                simp only at hk hv
                subst hk hv
                have hm3 := hmq.mo hmo3 (by simp; exact Ne.symm hrm)
                have x3 : Ext w w3 := below_mo hxq hmo3 hxq.size (fun k hk => by simp at hk; omega)
                have hown3 := hown.mo hmo3 (fun k hk => by
                  simp only [List.mem_singleton]
                  rintro rfl
                  obtain ⟨_, _, fr, q, _⟩ := hown.blkT k hk
                  unfold It at hit
                  rw [hit] at q
                  cases q)
                have hVl : V.length < AA.length := by
                  have := nodup_leM (nodup_fstM hseen3.nod) hseen3.sub
                  rw [List.length_append, List.length_singleton] at this
                  omega
                refine OW.val rfl rfl (EX.entry rfl (hm3) (hit3) (he)) ?_
                refine OW.val rfl rfl (EX.extract rfl rfl) ?_
                refine OW.allocB (l := [str [], .int .i64 0, .int .i64 0, .int .i64 0, .int .u32 0]) rfl rfl ti27 rfl ?_
                rintro xb w4 hge4 hb4 hx4
                refine OW.storeS rfl ti27 rfl rfl rfl (by first | rfl | (simp only [List.all_cons, List.all_nil, Bool.and_true, Bool.true_and, Bool.and_eq_true, Value.oneCell']; repeat (first | assumption | exact Own.one (by assumption) | constructor))) (hb4) (Nat.le_refl _) ?_
                rintro w5 hb5 hm5
                refine OW.nil ?_
                refine KW.region ?_
                refine OW.val rfl rfl (EX.move rfl) ?_
                replace hb5 : Bk w5 xb 27 a.2.cells := hb5
                have y5 : Ext w3 w5 := below_mo hx4 hm5 hx4.size (fun k hk => by simp at hk; omega)
                have x5 := x3.trans y5
                have hown5 := hown3.ext y5
                have hm6 := hm3.ext y5
                have hit5 := it_ext hit3 y5
                refine OW.val rfl rfl (EX.loadBk Tryz.underlying27 rfl ti27 rfl hb5 rfl) ?_
                refine OW.pushS rfl rfl (fun _ => rfl) rfl Tryz.underlying22 ti27 rfl (by decide) (by decide) rfl rfl (fun _ => rfl) (by first | rfl | assumption | (simp only [List.all_cons, List.all_nil, Bool.and_true, Bool.true_and, Bool.and_eq_true, Value.oneCell']; repeat (first | assumption | constructor))) (x5) (hown5) (by simp only [maxLen]; omega) (by omega) ?_
                rintro _ v6 w6 hown6 x6 hg6
                refine OW.val rfl rfl (EX.assign rfl) ?_
                refine OW.nil ?_
                refine KW.leave ?_
                have hmo6 : Mo w5 w6 v.ownBlock.toList := Mo.grown hg6 (fun k e => by rw [e]; simp)
                have nm : mb ∉ v.ownBlock.toList := fun q => by
                  obtain ⟨_, _, fr, q2, _⟩ := hown5.blkT mb (Option.mem_toList.1 q)
                  rw [hm6.blk] at q2
                  cases q2
                have nr : rb ∉ v.ownBlock.toList := fun q => by
                  obtain ⟨_, _, fr, q2, _⟩ := hown5.blkT rb (Option.mem_toList.1 q)
                  unfold It at hit5
                  rw [hit5] at q2
                  cases q2
                refine KW.back3 (V ++ [a]) (v6) (w6) ⟨rfl, rfl, trivial⟩ rfl ?_ (by rw [List.length_append]; simp; omega)
                refine ⟨⟨_, hseen3, ?_⟩, hm6.mo hmo6 nm, ?_, x6⟩
                · unfold It at hit5 ⊢
                  have hlt : rb < w5.heap.size := by
                    rcases Nat.lt_or_ge rb w5.heap.size with h' | h'
                    · exact h'
                    · simp [Array.getElem?_eq_none h'] at hit5
                  rw [hmo6.block rb hlt nr]
                  exact hit5
                · rw [List.length_append, List.map_append, List.map_singleton, memsV_snoc]
                  exact hown6
          · rintro V v wq ⟨hV, hnod, hown, hxq⟩
            have hmem : ∀ z, z ∈ V.map (·.2) ↔ appF l ns z.path = some z := fun z => by
              constructor
              · intro hz
                obtain ⟨a, ha, rfl⟩ := List.mem_map.1 hz
                rw [(hkM a ((hV a).1 ha)).1]
                exact (hrep a.1 a.2).1 ((hV a).1 ha)
              · intro hz
                exact List.mem_map.2 ⟨(z.path, z), (hV _).2 ((hrep _ _).2 hz), rfl⟩
            have hbdd : ∀ x ∈ V.map (·.2), x.path.length ≤ 2000000 := fun x hx => by
              obtain ⟨a, ha, rfl⟩ := List.mem_map.1 hx
              exact (hkM a ((hV a).1 ha)).2
            have hkey : (V.map (·.2)).map M.path = V.map (·.1) := by
              rw [List.map_map]
              exact List.map_congr_left fun a ha => (hkM a ((hV a).1 ha)).1
            obtain ⟨L, hL⟩ : ∃ L : List MsS, L.map (·.1) = V.map (·.2) := ⟨(V.map (·.2)).attachWith _ hbdd, by simp⟩
            have hLl : L.length = V.length := by have := congrArg List.length hL; simpa using this
            have hfm : ∀ L : List MsS, L.flatMap (fun x => x.1.cells) = memsV (L.map (·.1)) := fun L => by
              induction L with
              | nil => rfl
              | cons x L ih => rw [List.flatMap_cons, List.map_cons, ih]; rfl
            have hVl : V.length ≤ 1000000 := by
              have h1 := nodup_leM (V := V) (A := AA) (nodup_fstM hnod) (fun p hp => (hV p).1 hp)
              omega
            have hown1 : Own wq w.heap.size 27 5 v L.length (L.flatMap (fun x => x.1.cells)) := by rw [hfm, hL, hLl]; exact hown
            have c1 := sort_own Tryz.sort14 (f := 14) rfl Tryz.func14 (by kernel_rfl) (e := 27) rfl Tryz.underlying27 rfl ti27 (by decide) (cells := fun x : MsS => x.1.cells) (fun _ => rfl) (fun x v hv => by simp [M.cells] at hv; rcases hv with rfl | rfl | rfl | rfl | rfl <;> rfl) (cmpK msK) (swo msK) Tryz.func15 (by kernel_rfl) w.heap.size L (by omega) v wq hown1
              (fun W x y hmo => apply1_s x y W (by
                obtain ⟨mm, hmm⟩ := hG
                exact ⟨mm, by
                  have hb : 0 < w.heap.size := World.block_lt_of_cell? w _ hmm
                  have h1 := hmo.block 0 (Nat.lt_of_lt_of_le hb hxq.size) (fun q => by have := (hown.lt _ (Option.mem_toList.1 q)).1; omega)
                  have h2 := hxq.block 0 hb
                  unfold World.cell? at hmm ⊢
                  rw [h1, h2]
                  exact hmm⟩))
            refine KW.seq (KW.region ?_)
            refine OW.val rfl rfl (EX.move rfl) ?_
            refine OW.call rfl rfl rfl (c1) ?_
            rintro _ w5 ⟨rfl, L', hperm, hsort, hown5, hmo5⟩
            refine OW.nil ?_
            refine KW.seq (KW.region ?_)
            refine OW.val rfl rfl (EX.move rfl) ?_
            refine OW.val rfl rfl (EX.assign rfl) ?_
            refine OW.nil ?_
            refine KW.ret (ret1 rfl rfl ?_)
            have hkn : (L'.map msK).Nodup := by
              have h1 : (L.map msK).Nodup := by
                have : L.map msK = V.map (·.1) := by
                  have e1 : L.map msK = (L.map (·.1)).map M.path := by rw [List.map_map]; rfl
                  rw [e1, hL]
                  exact hkey
                rw [this]
                exact hnod
              exact (hperm.map msK).nodup_iff.2 h1
            have hr := rises_of_sorted msK hsort hkn
            refine ⟨L'.map (·.1), ⟨?_, fun x => ?_⟩, ?_, below_mo hxq hmo5 hxq.size (fun k hk => (hown.lt k (Option.mem_toList.1 hk)).1)⟩
            · exact List.pairwise_map.2 hr
            · rw [← hmem x, ← hL]
              exact ((hperm.map (·.1)).mem_iff)
            · rw [List.length_map, hperm.length_eq, ← hfm]
              exact hown5
end Go.Proofs.YtlpnoogcdnfllaaGreatDoor
namespace Go.Proofs.YtlpnoogcdnfllaaGreatDoor
open Go.RowKit Rec Pth Dsk Wal
theorem noteOf1 {g i : Int} {d : List UInt8} : noteOf ⟨1, g, i, d⟩ = if (memL (d.length + 1) d []).2 = 0 ∧ (memL (d.length + 1) d []).1.length = 1 then some ⟨1, (memL (d.length + 1) d []).1.getD 0 (bare [])⟩ else none := by
  unfold noteOf
  rw [if_pos (show (1 : Nat) = 1 from rfl)]
theorem noteOf2 {g i : Int} {d : List UInt8} : noteOf ⟨2, g, i, d⟩ = if checkP d = 0 then some ⟨2, bare d⟩ else none := by
  unfold noteOf
  rw [if_neg (show ¬ (2 : Nat) = 1 by decide), if_pos (show (2 : Nat) = 2 from rfl)]
theorem noteOf3 {k : Nat} {g i : Int} {d : List UInt8} (h1 : k ≠ 1) (h2 : k ≠ 2) : noteOf ⟨k, g, i, d⟩ = none := by
  unfold noteOf
  rw [if_neg (show ¬ k = 1 from h1), if_neg (show ¬ k = 2 from h2)]
set_option maxRecDepth 20000 in
theorem note_s (x : R) (hk : x.kind ≤ 255) (hd : x.data.length ≤ 1000) (w : World) : Ret Tryz.prog 29 [.agg x.cells.toArray] w fun v w' => (∃ n : Nt, v = .tuple #[.agg n.cells.toArray, .bool (noteOf x).isSome] ∧ ∀ n', noteOf x = some n' → n' = n) ∧ Ext w w' := by
  obtain ⟨kd, g, ix, d⟩ := x
  have hk' : kd ≤ 255 := hk
  have hd' : d.length ≤ 1000 := hd
  have yes : ∀ n : Nt, noteOf ⟨kd, g, ix, d⟩ = some n → ∃ n0 : Nt, Value.tuple #[.agg n.cells.toArray, .bool true] = .tuple #[.agg n0.cells.toArray, .bool (noteOf ⟨kd, g, ix, d⟩).isSome] ∧ ∀ n', noteOf ⟨kd, g, ix, d⟩ = some n' → n' = n0 := fun n h => ⟨n, by rw [h]; rfl, fun n' h' => by rw [h] at h'; exact (Option.some.inj h').symm⟩
  have no : noteOf ⟨kd, g, ix, d⟩ = none → ∃ n0 : Nt, Value.tuple #[.agg (List.toArray (Nt.cells ⟨0, bare []⟩)), .bool false] = .tuple #[.agg n0.cells.toArray, .bool (noteOf ⟨kd, g, ix, d⟩).isSome] ∧ ∀ n', noteOf ⟨kd, g, ix, d⟩ = some n' → n' = n0 := fun h => ⟨⟨0, bare []⟩, by rw [h]; rfl, fun n' h' => by rw [h] at h'; cases h'⟩
  refine Ret.enter Tryz.func29 rfl Tryz.ntmps29 (by kernel_rfl) rfl ?_
  refine KW.seq (KW.region ?_)
  refine OW.boxS rfl rfl rfl ?_
  rintro xb w1 hge1 hb1 hx1
  replace hb1 : Bk w1 xb 64 (R.cells ⟨kd, g, ix, d⟩) := hb1
  refine OW.allocB (l := [.int .i64 0, str [], .int .i64 0, .int .i64 0, .int .i64 0, .int .u32 0]) rfl rfl ti39 rfl ?_
  rintro rb w2 hge2 hr2 hx2
  refine OW.val rfl rfl (EX.assign rfl) ?_
  refine OW.nil ?_
  refine KW.seq (KW.region ?_)
  refine OW.val rfl rfl (EX.fieldAddr (off := 0) Tryz.underlying64 rfl rfl ti5 rfl rfl) ?_
  have hb2 := hb1.ext hx2
  refine OW.val rfl rfl (EX.load Tryz.underlying5 rfl rfl (hb2.cell_of rfl)) ?_
  refine OW.val rfl rfl (by first | exact EX.convN (m := 9223372036854775807) Tryz.underlying5 Tryz.underlying3 rfl rfl (by omega) | exact EX.convZ Tryz.underlying5 Tryz.underlying3 rfl) ?_
  refine OW.val rfl rfl (EX.buildS (pl := [(0, 1), (1, 5)]) (ks := [0]) (is := [0]) (zs := [.int .i64 0, str [], .int .i64 0, .int .i64 0, .int .i64 0, .int .u32 0]) Tryz.underlying39 ti39 (by kernel_rfl) rfl rfl rfl (by first | rfl | (simp only [List.all_cons, List.all_nil, Bool.and_true, Bool.true_and, Bool.and_eq_true, Value.oneCell']; repeat (first | assumption | exact Own.one (by assumption) | constructor))) (by simp only [setAll, List.set_cons_zero, List.set_cons_succ]; rfl)) ?_
  refine OW.allocB (l := [.int .i64 0, str [], .int .i64 0, .int .i64 0, .int .i64 0, .int .u32 0]) rfl rfl ti39 rfl ?_
  rintro nb w3 hge3 hn3 hx3
  refine OW.storeS rfl ti39 rfl rfl rfl (by first | rfl | (simp only [List.all_cons, List.all_nil, Bool.and_true, Bool.true_and, Bool.and_eq_true, Value.oneCell']; repeat (first | assumption | exact Own.one (by assumption) | constructor))) (hn3) (Nat.le_refl _) ?_
  rintro w4 hn4 hm4
  refine OW.nil ?_
  refine KW.seq (KW.seq (KW.region ?_))
  refine OW.val rfl rfl (EX.fieldAddr (off := 0) Tryz.underlying39 rfl rfl ti3 rfl rfl) ?_
  have x2 := hx1.trans hx2
  have x3 := x2.trans hx3
  have x4 : Ext w w4 := below_mo x3 hm4 x3.size (fun k hk => by simp at hk; have := x2.size; omega)
  have hb4 := (hb2.ext hx3).mo hm4 (by simp; have := hb2.lt; omega)
  have hr4 := (hr2.ext hx3).mo hm4 (by simp; have := hr2.lt; omega)
  have hnr : nb ≠ rb := by have := hr2.lt; omega
  have z1 := hx1.size
  have z2 := x2.size
  refine OW.val rfl rfl (EX.load Tryz.underlying3 rfl rfl (hn4.cell_of rfl)) ?_
  refine OW.nil ?_
  refine KW.block (KW.seq (KW.region ?_))
  refine OW.val rfl rfl (by first | exact EX.eqlN (b := 1) rfl rfl | exact EX.eqlZ rfl rfl) ?_
  refine OW.val rfl rfl (EX.assign rfl) ?_
  refine OW.nil ?_
  refine KW.condD rfl (fun h1 => ?_) (fun h1 => ?_)
  · have h1' : kd = 1 := by omega
    subst h1'
    refine KW.seq (KW.region ?_)
    refine OW.val rfl rfl (EX.fieldAddr (off := 3) Tryz.underlying64 rfl rfl ti9 rfl rfl) ?_
    refine OW.val rfl rfl (EX.load Tryz.underlying9 rfl rfl (hb4.cell_of rfl)) ?_
    refine OW.call rfl rfl rfl (members_s d (by omega) w4) ?_
    rintro _ w5 ⟨vs, rfl, hown, hx5⟩
    refine OW.val rfl rfl (EX.move rfl) ?_
    refine OW.val rfl rfl (EX.extract rfl rfl) ?_
    refine OW.val rfl rfl (EX.extract rfl rfl) ?_
    refine OW.val rfl rfl (EX.assign rfl) ?_
    refine OW.val rfl rfl (EX.assign rfl) ?_
    refine OW.nil ?_
    refine KW.seq (KW.seq ?_)
    have e1 := noteOf1 (g := g) (i := ix) (d := d)
    have hr5 := hr4.ext hx5
    have hn5 := hn4.ext hx5
    have x5 := x4.trans hx5
    generalize (memL (d.length + 1) d []).2 = er at e1
    generalize (memL (d.length + 1) d []).1 = l at hown e1
    obtain ⟨A, c, rfl, _, hsl⟩ := hown.slice
    refine KW.region ?_
    refine OW.val rfl rfl (EX.move rfl) ?_
    refine OW.val rfl rfl (by first | exact EX.neqN (b := 0) rfl rfl | exact EX.neqZ rfl rfl) ?_
    refine OW.val rfl rfl (EX.move rfl) ?_
    refine OW.splitD 24 rfl (fun q1 => ?_) (fun q1 => ?_)
    · refine OW.pass rfl rfl ?_
      refine OW.pass rfl rfl ?_
      refine OW.pass rfl rfl ?_
      refine OW.val rfl rfl (EX.pickT rfl rfl) ?_
      refine OW.nil ?_
      refine KW.condT rfl (KW.seq (KW.region ?_))
      refine OW.val rfl rfl (EX.buildS (pl := [(0, 1), (1, 5)]) (ks := []) (is := []) (zs := [.int .i64 0, str [], .int .i64 0, .int .i64 0, .int .i64 0, .int .u32 0]) Tryz.underlying39 ti39 (by kernel_rfl) rfl rfl rfl (by first | rfl | (simp only [List.all_cons, List.all_nil, Bool.and_true, Bool.true_and, Bool.and_eq_true, Value.oneCell']; repeat (first | assumption | exact Own.one (by assumption) | constructor))) (by simp only [setAll, List.set_cons_zero, List.set_cons_succ]; rfl)) ?_
      refine OW.storeS rfl ti39 rfl rfl rfl (by first | rfl | (simp only [List.all_cons, List.all_nil, Bool.and_true, Bool.true_and, Bool.and_eq_true, Value.oneCell']; repeat (first | assumption | exact Own.one (by assumption) | constructor))) (hr5) (Nat.le_refl _) ?_
      rintro w6 hr6 hm6
      refine OW.val rfl rfl (EX.assign rfl) ?_
      refine OW.nil ?_
      refine KW.ret (retC2 rfl Tryz.underlying39 rfl ti39 rfl rfl (hr6) rfl ?_)
      exact ⟨no (by rw [e1, if_neg (fun q => q1 (by omega))]), below_mo x5 hm6 x5.size (fun k hk => by simp at hk; omega)⟩
    · refine OW.val rfl rfl (EX.move rfl) ?_
      refine OW.val rfl rfl (EX.lenA Tryz.underlying22 rfl) ?_
      refine OW.val rfl rfl (by first | exact EX.neqN (b := 1) rfl rfl | exact EX.neqZ rfl rfl) ?_
      refine OW.val rfl rfl (EX.pickF rfl rfl) ?_
      refine OW.nil ?_
      refine KW.condD rfl (fun q2 => ?_) (fun q2 => ?_)
      · refine KW.seq (KW.region ?_)
        refine OW.val rfl rfl (EX.buildS (pl := [(0, 1), (1, 5)]) (ks := []) (is := []) (zs := [.int .i64 0, str [], .int .i64 0, .int .i64 0, .int .i64 0, .int .u32 0]) Tryz.underlying39 ti39 (by kernel_rfl) rfl rfl rfl (by first | rfl | (simp only [List.all_cons, List.all_nil, Bool.and_true, Bool.true_and, Bool.and_eq_true, Value.oneCell']; repeat (first | assumption | exact Own.one (by assumption) | constructor))) (by simp only [setAll, List.set_cons_zero, List.set_cons_succ]; rfl)) ?_
        refine OW.storeS rfl ti39 rfl rfl rfl (by first | rfl | (simp only [List.all_cons, List.all_nil, Bool.and_true, Bool.true_and, Bool.and_eq_true, Value.oneCell']; repeat (first | assumption | exact Own.one (by assumption) | constructor))) (hr5) (Nat.le_refl _) ?_
        rintro w6 hr6 hm6
        refine OW.val rfl rfl (EX.assign rfl) ?_
        refine OW.nil ?_
        refine KW.ret (retC2 rfl Tryz.underlying39 rfl ti39 rfl rfl (hr6) rfl ?_)
        exact ⟨no (by rw [e1, if_neg (fun q => q2 (by omega))]), below_mo x5 hm6 x5.size (fun k hk => by simp at hk; omega)⟩
      · have hl1 : l.length = 1 := by omega
        obtain ⟨m, rfl⟩ := List.length_eq_one_iff.1 hl1
        obtain ⟨b, o, rfl, _, hcell⟩ := Sl.flat (cells := M.cells) hsl (c := 5) (fun _ => rfl) (by decide) (Nat.zero_lt_succ _ : 0 < [m].length)
        refine KW.skip (KW.region ?_)
        refine OW.val rfl rfl (EX.move rfl) ?_
        refine OW.val rfl rfl (EX.indexAddrS (i := 0) Tryz.underlying22 ti27 rfl rfl (by omega)) ?_
        refine OW.val rfl rfl (EX.loadA (l := m.cells) Tryz.underlying27 rfl ti27 rfl rfl hcell) ?_
        refine OW.val rfl rfl (EX.fieldAddr (off := 1) Tryz.underlying39 rfl rfl ti27 rfl rfl) ?_
        refine OW.storeS rfl ti27 rfl rfl rfl (by first | rfl | (simp only [List.all_cons, List.all_nil, Bool.and_true, Bool.true_and, Bool.and_eq_true, Value.oneCell']; repeat (first | assumption | exact Own.one (by assumption) | constructor))) (hn5) (Nat.le_refl _) ?_
        rintro w6 hn6 hm6
        refine OW.nil ?_
        refine KW.leave (KW.seq (KW.region ?_))
        replace hn6 : Bk w6 nb 39 (Nt.cells ⟨1, m⟩) := hn6
        have hr6 := hr5.mo hm6 (by simp; exact hnr.symm)
        have x6 : Ext w w6 := below_mo x5 hm6 x5.size (fun k hk => by simp at hk; omega)
        refine OW.val rfl rfl (EX.loadBk Tryz.underlying39 rfl ti39 rfl (hn6) (rfl)) ?_
        refine OW.storeS rfl ti39 rfl rfl rfl (by first | rfl | (simp only [List.all_cons, List.all_nil, Bool.and_true, Bool.true_and, Bool.and_eq_true, Value.oneCell']; repeat (first | assumption | exact Own.one (by assumption) | constructor))) (hr6) (Nat.le_refl _) ?_
        rintro w7 hr7 hm7
        refine OW.val rfl rfl (EX.assign rfl) ?_
        refine OW.nil ?_
        replace hr7 : Bk w7 rb 39 (Nt.cells ⟨1, m⟩) := hr7
        refine KW.ret (retC2 rfl Tryz.underlying39 rfl ti39 rfl rfl (hr7) rfl ?_)
        exact ⟨yes _ (by rw [e1, if_pos ⟨by omega, rfl⟩]; rfl), below_mo x6 hm7 x6.size (fun k hk => by simp at hk; omega)⟩
  · have h1' : ¬ kd = 1 := by omega
    refine KW.seq (KW.region ?_)
    refine OW.val rfl rfl (by first | exact EX.eqlN (b := 2) rfl rfl | exact EX.eqlZ rfl rfl) ?_
    refine OW.val rfl rfl (EX.assign rfl) ?_
    refine OW.nil ?_
    refine KW.condD rfl (fun h2 => ?_) (fun h2 => ?_)
    · have h2' : kd = 2 := by omega
      subst h2'
      have e2 := noteOf2 (g := g) (i := ix) (d := d)
      have hcc := checkP_or d
      refine KW.seq (KW.seq (KW.region ?_))
      refine OW.val rfl rfl (EX.fieldAddr (off := 3) Tryz.underlying64 rfl rfl ti9 rfl rfl) ?_
      refine OW.val rfl rfl (EX.load Tryz.underlying9 rfl rfl (hb4.cell_of rfl)) ?_
      refine OW.call rfl rfl rfl (check_s d (by omega) w4) ?_
      rintro _ w5 ⟨rfl, hx5⟩
      refine OW.val rfl rfl (by first | exact EX.neqN (b := 0) rfl rfl | exact EX.neqZ rfl rfl) ?_
      refine OW.nil ?_
      have hr5 := hr4.ext hx5
      have hn5 := hn4.ext hx5
      have hb5 := hb4.ext hx5
      have x5 := x4.trans hx5
      refine KW.condD rfl (fun q1 => ?_) (fun q1 => ?_)
      · refine KW.seq (KW.region ?_)
        refine OW.val rfl rfl (EX.buildS (pl := [(0, 1), (1, 5)]) (ks := []) (is := []) (zs := [.int .i64 0, str [], .int .i64 0, .int .i64 0, .int .i64 0, .int .u32 0]) Tryz.underlying39 ti39 (by kernel_rfl) rfl rfl rfl (by first | rfl | (simp only [List.all_cons, List.all_nil, Bool.and_true, Bool.true_and, Bool.and_eq_true, Value.oneCell']; repeat (first | assumption | exact Own.one (by assumption) | constructor))) (by simp only [setAll, List.set_cons_zero, List.set_cons_succ]; rfl)) ?_
        refine OW.storeS rfl ti39 rfl rfl rfl (by first | rfl | (simp only [List.all_cons, List.all_nil, Bool.and_true, Bool.true_and, Bool.and_eq_true, Value.oneCell']; repeat (first | assumption | exact Own.one (by assumption) | constructor))) (hr5) (Nat.le_refl _) ?_
        rintro w6 hr6 hm6
        refine OW.val rfl rfl (EX.assign rfl) ?_
        refine OW.nil ?_
        refine KW.ret (retC2 rfl Tryz.underlying39 rfl ti39 rfl rfl (hr6) rfl ?_)
        exact ⟨no (by rw [e2, if_neg (by omega)]), below_mo x5 hm6 x5.size (fun k hk => by simp at hk; omega)⟩
      · refine KW.skip (KW.region ?_)
        refine OW.val rfl rfl (EX.fieldAddr (off := 3) Tryz.underlying64 rfl rfl ti9 rfl rfl) ?_
        refine OW.val rfl rfl (EX.load Tryz.underlying9 rfl rfl (hb5.cell_of rfl)) ?_
        refine OW.val rfl rfl (EX.fieldAddr (off := 1) Tryz.underlying39 rfl rfl ti27 rfl rfl) ?_
        refine OW.val rfl rfl (EX.fieldAddr (off := 0) Tryz.underlying27 rfl rfl ti9 rfl rfl) ?_
        refine OW.storeB rfl ti9 rfl rfl (by first | rfl | assumption | exact Own.one (by assumption)) (hn5) (by simp) ?_
        rintro w6 hn6 hm6
        refine OW.nil ?_
        refine KW.leave (KW.seq (KW.region ?_))
        replace hn6 : Bk w6 nb 39 (Nt.cells ⟨2, bare d⟩) := hn6
        have hr6 := hr5.mo hm6 (by simp; exact hnr.symm)
        have x6 : Ext w w6 := below_mo x5 hm6 x5.size (fun k hk => by simp at hk; omega)
        refine OW.val rfl rfl (EX.loadBk Tryz.underlying39 rfl ti39 rfl (hn6) (rfl)) ?_
        refine OW.storeS rfl ti39 rfl rfl rfl (by first | rfl | (simp only [List.all_cons, List.all_nil, Bool.and_true, Bool.true_and, Bool.and_eq_true, Value.oneCell']; repeat (first | assumption | exact Own.one (by assumption) | constructor))) (hr6) (Nat.le_refl _) ?_
        rintro w7 hr7 hm7
        refine OW.val rfl rfl (EX.assign rfl) ?_
        refine OW.nil ?_
        replace hr7 : Bk w7 rb 39 (Nt.cells ⟨2, bare d⟩) := hr7
        refine KW.ret (retC2 rfl Tryz.underlying39 rfl ti39 rfl rfl (hr7) rfl ?_)
        exact ⟨yes _ (by rw [e2, if_pos (by omega)]), below_mo x6 hm7 x6.size (fun k hk => by simp at hk; omega)⟩
    · have h2' : ¬ kd = 2 := by omega
      refine KW.seq (KW.region ?_)
      refine OW.val rfl rfl (EX.buildS (pl := [(0, 1), (1, 5)]) (ks := []) (is := []) (zs := [.int .i64 0, str [], .int .i64 0, .int .i64 0, .int .i64 0, .int .u32 0]) Tryz.underlying39 ti39 (by kernel_rfl) rfl rfl rfl (by first | rfl | (simp only [List.all_cons, List.all_nil, Bool.and_true, Bool.true_and, Bool.and_eq_true, Value.oneCell']; repeat (first | assumption | exact Own.one (by assumption) | constructor))) (by simp only [setAll, List.set_cons_zero, List.set_cons_succ]; rfl)) ?_
      refine OW.storeS rfl ti39 rfl rfl rfl (by first | rfl | (simp only [List.all_cons, List.all_nil, Bool.and_true, Bool.true_and, Bool.and_eq_true, Value.oneCell']; repeat (first | assumption | exact Own.one (by assumption) | constructor))) (hr4) (Nat.le_refl _) ?_
      rintro w6 hr6 hm6
      refine OW.val rfl rfl (EX.assign rfl) ?_
      refine OW.nil ?_
      refine KW.ret (retC2 rfl Tryz.underlying39 rfl ti39 rfl rfl (hr6) rfl ?_)
      exact ⟨no (noteOf3 h1' h2'), below_mo x4 hm6 x4.size (fun k hk => by simp at hk; omega)⟩
end Go.Proofs.YtlpnoogcdnfllaaGreatDoor
namespace Go.Proofs.YtlpnoogcdnfllaaGreatDoor.Wal
open Go.RowKit Rec Pth Dsk
structure Sm (D : Dv) (k : Nat) : Prop where
  calls : D.calls ≤ k
  pend : D.pend.length ≤ k
  at_ : D.at_ ≤ 9223372036854775807
  keep : D.keep.length ≤ 140737488355328
theorem Sm.small {D : Dv} {k : Nat} (h : Sm D k) (hk : k ≤ 1000000) : Small D := ⟨by have := h.calls; omega, by have := h.pend; omega, h.at_, h.keep⟩
theorem Sm.more {D : Dv} {k k' : Nat} (h : Sm D k) (hk : k ≤ k') : Sm D k' := ⟨by have := h.calls; omega, by have := h.pend; omega, h.at_, h.keep⟩
theorem does_sm {D : Dv} {k : Nat} (h : Sm D k) (c : Option Ch) : Sm (D.does c).1 (k + 1) := by
  obtain ⟨h1, h2, h3, h4⟩ := h
  by_cases h5 : (D.pushed c).at_ = 1
  · rw [does_fall h5]
    refine ⟨?_, by simp, by simp, by simp⟩
    cases c <;> simp only [Dv.pushed] <;> omega
  · rw [does_go h5]
    cases c with
    | none => exact ⟨by simp only [Dv.done, Dv.pushed]; omega, by simp [Dv.done], by simp only [Dv.done, Dv.pushed]; omega, h4⟩
    | some c => exact ⟨by simp only [Dv.done, Dv.pushed]; omega, by simp only [Dv.done, Dv.pushed, List.length_append, List.length_singleton]; omega, by simp only [Dv.done, Dv.pushed]; omega, h4⟩
theorem write_sm {D : Dv} {k : Nat} (h : Sm D k) (i : Int) (s : List UInt8) : Sm (D.write i s).1 (k + 1) := by
  unfold Dv.write
  split
  · exact h.more (by omega)
  · split
    · exact h.more (by omega)
    · split
      · exact h.more (by omega)
      · exact does_sm h _
theorem sync_sm {D : Dv} {k : Nat} (h : Sm D k) : Sm D.sync.1 (k + 1) := by
  unfold Dv.sync
  split
  · exact h.more (by omega)
  · exact does_sm h _
theorem writes_cons (D : Dv) (i : Nat) (s : By) (l : List By) : writes D i (s :: l) = if (D.write i s).2 = 0 then writes (D.write i s).1 (i + 1) l else D.write i s := rfl
theorem writes_sm : ∀ (l : List By) (D : Dv) (i k : Nat), Sm D k → Sm (writes D i l).1 (k + l.length)
  | [], D, i, k, h => h
  | s :: l, D, i, k, h => by
    rw [writes_cons]
    split
    · have := writes_sm l _ (i + 1) (k + 1) (write_sm h i s)
      rw [List.length_cons]
      exact this.more (by omega)
    · exact (write_sm h i s).more (by rw [List.length_cons]; omega)
theorem append_sm {D : Dv} {k : Nat} (h : Sm D k) (gen at_ : Int) (l : List Nt) : Sm (appendW D gen at_ l).1 (k + 21) := by
  unfold appendW
  split
  · exact h.more (by omega)
  · rename_i hb
    have hl : l.length ≤ 19 := by
      have : ¬ badW gen at_ l.length := fun q => hb (.inl q)
      unfold badW at this
      omega
    have h1 := writes_sm (txs gen.toNat at_.toNat l) D (10 + at_.toNat) k h
    rw [txs_length] at h1
    simp only
    split
    · split
      · exact (sync_sm h1).more (by omega)
      · exact (sync_sm h1).more (by omega)
    · exact h1.more (by omega)
theorem recs_len (g : Nat) : ∀ (l : List Nt) (i : Nat), (∀ n ∈ l, mayN n) → ∀ s ∈ recs g i l, s.length = 512
  | [], _, _, s, hs => by simp [recs] at hs
  | n :: l, i, h, s, hs => by
    rw [recs] at hs
    rcases List.mem_cons.1 hs with q | q
    · rw [q]
      exact text_length _ _ _ _ (by have := (noteB_len (h n (by simp))).1; omega)
    · exact recs_len g l (i + 1) (fun x hx => h x (by simp [hx])) s q
theorem txs_len {g i : Nat} {l : List Nt} (h : ∀ n ∈ l, mayN n) : ∀ s ∈ txs g i l, s.length = 512 := by
  intro s hs
  unfold txs at hs
  rcases List.mem_append.1 hs with q | q
  · exact recs_len g l i h s q
  · rw [List.mem_singleton.1 q]
    exact text_length _ _ _ _ (by simp)
theorem app_bad {D : Dv} {gen at_ : Int} {l : List Nt} (h : badW gen at_ l.length ∨ ∃ n ∈ l, ¬ mayN n) : appendW D gen at_ l = (D, 0, 210) := by unfold appendW; rw [if_pos h]
theorem app_go {D : Dv} {gen at_ : Int} {l : List Nt} (h1 : ¬ badW gen at_ l.length) (h2 : ∀ n ∈ l, mayN n) : appendW D gen at_ l = (let r := writes D (10 + at_.toNat) (txs gen.toNat at_.toNat l); if r.2 = 0 then (if r.1.sync.2 = 0 then (r.1.sync.1, at_ + l.length + 1, 0) else (r.1.sync.1, 0, r.1.sync.2)) else (r.1, 0, r.2)) := by
  unfold appendW
  rw [if_neg]
  rintro (h | ⟨n, hn, h⟩)
  · exact h1 h
  · exact h (h2 n hn)
end Go.Proofs.YtlpnoogcdnfllaaGreatDoor.Wal
namespace Go.Proofs.YtlpnoogcdnfllaaGreatDoor
open Go.RowKit Rec Pth Dsk Wal
theorem right_s (gen : Int) (w : World) : Ret Tryz.prog 21 [.int .i64 gen] w fun v w' => v = .bool (decide (¬ badG gen)) ∧ w = w' := by
  refine Ret.enter Tryz.func21 rfl Tryz.ntmps21 (by kernel_rfl) rfl ?_
  refine KW.seq (KW.region ?_)
  refine OW.val rfl rfl (EX.assign rfl) ?_
  refine OW.nil ?_
  refine KW.seq ?_
  refine KW.region ?_
  refine OW.val rfl rfl (EX.move rfl) ?_
  refine OW.val rfl rfl (by first | exact EX.geqN (b := 0) rfl rfl | exact EX.geqZ rfl rfl) ?_
  refine OW.val rfl rfl (EX.move rfl) ?_
  refine OW.splitD 5 rfl (fun h1 => ?_) (fun h1 => ?_)
  · refine OW.val rfl rfl (EX.move rfl) ?_
    refine OW.val rfl rfl (by first | exact EX.leqN (b := 4611686018427387904) rfl rfl | exact EX.leqZ rfl rfl) ?_
    refine OW.val rfl rfl (EX.pickT rfl rfl) ?_
    refine OW.val rfl rfl (EX.assign rfl) ?_
    refine OW.nil ?_
    refine KW.ret (ret1 rfl rfl ?_)
    refine ⟨congrArg Value.bool (decide_eq_decide.2 ?_), rfl⟩
    unfold badG; omega
  · refine OW.pass rfl rfl ?_
    refine OW.pass rfl rfl ?_
    refine OW.val rfl rfl (EX.pickF rfl rfl) ?_
    refine OW.val rfl rfl (EX.assign rfl) ?_
    refine OW.nil ?_
    refine KW.ret (ret1 rfl rfl ?_)
    refine ⟨congrArg Value.bool (decide_eq_false ?_).symm, rfl⟩
    unfold badG; omega
theorem noteGood {n : Nt} (h : mayN n) : n.kind = 1 ∨ n.kind = 2 := (noteB_len h).2
set_option maxRecDepth 20000 in
theorem append_s {D : Dv} (hD : D.Ok) {k : Nat} (hsm : Sm D k) (hk : k ≤ 900000) (B b : Nat) (gen at_ : Int) (g0 : -9223372036854775808 ≤ gen) (g1 : gen ≤ 9223372036854775807) (a0 : -9223372036854775808 ≤ at_) (a1 : at_ ≤ 9223372036854775807) (l : List Nt) (hl : l.length ≤ 140737488355328) (hok : ∀ n ∈ l, n.mem.Ok) (A : Option Addr) (c C : Nat) (w : World) (h : DevAt w B b D) (hs : Sl w C A (ntsV l)) :
    Ret Tryz.prog 9 [.pointer (some ⟨b, 0, none⟩), .int .i64 gen, .int .i64 at_, .slice A l.length c] w fun v w' => v = .tuple #[.int .i64 (appendW D gen at_ l).2.1, .int .i64 (((appendW D gen at_ l).2.2 : Nat) : Int)] ∧ DevAt w' B b (appendW D gen at_ l).1 ∧ Tm w w' B dty := by
  have hcap := hD.cap
  have bye : ∀ w', Ext w w' → (badW gen at_ l.length ∨ ∃ n ∈ l, ¬ mayN n) → (Value.tuple #[.int .i64 0, .int .i64 210] = .tuple #[.int .i64 (appendW D gen at_ l).2.1, .int .i64 (((appendW D gen at_ l).2.2 : Nat) : Int)] ∧ DevAt w' B b (appendW D gen at_ l).1 ∧ Tm w w' B dty) := fun w' hx q => by
    rw [app_bad q]
    exact ⟨rfl, h.ext hx, Tm.of_ext hx _ _⟩
  refine Ret.enter Tryz.func9 rfl Tryz.ntmps9 (by kernel_rfl) rfl ?_
  refine KW.seq (KW.region ?_)
  refine OW.val rfl rfl (EX.assign rfl) ?_
  refine OW.val rfl rfl (EX.assign rfl) ?_
  refine OW.nil ?_
  refine KW.seq (KW.seq (KW.region ?_))
  refine OW.val rfl rfl (EX.move rfl) ?_
  refine OW.call rfl rfl rfl (capacity_d h hD) ?_
  rintro _ _ ⟨rfl, rfl⟩
  refine OW.val rfl rfl (by first | exact EX.eqlN (b := 0) rfl rfl | exact EX.eqlZ rfl rfl) ?_
  refine OW.nil ?_
  refine KW.condD rfl (fun h0 => ?_) (fun h0 => ?_)
  · omega
  · refine KW.skip (KW.seq (KW.seq ?_))
    refine KW.region ?_
    refine OW.val rfl rfl (EX.move rfl) ?_
    refine OW.call rfl rfl rfl (right_s gen w) ?_
    rintro _ _ ⟨rfl, rfl⟩
    refine OW.val rfl rfl (by first | exact EX.notD rfl | exact EX.notB rfl) ?_
    refine OW.val rfl rfl (EX.move rfl) ?_
    refine OW.splitD 29 rfl (fun b0 => ?_) (fun b0 => ?_)
    · refine OW.pass rfl rfl ?_
      refine OW.pass rfl rfl ?_
      refine OW.val rfl rfl (EX.pickT rfl rfl) ?_
      refine OW.val rfl rfl (EX.move rfl) ?_
      refine OW.pass rfl rfl ?_
      refine OW.pass rfl rfl ?_
      refine OW.val rfl rfl (EX.pickT rfl rfl) ?_
      refine OW.val rfl rfl (EX.move rfl) ?_
      refine OW.pass rfl rfl ?_
      refine OW.pass rfl rfl ?_
      refine OW.pass rfl rfl ?_
      refine OW.val rfl rfl (EX.pickT rfl rfl) ?_
      refine OW.val rfl rfl (EX.move rfl) ?_
      refine OW.pass rfl rfl ?_
      refine OW.pass rfl rfl ?_
      refine OW.pass rfl rfl ?_
      refine OW.pass rfl rfl ?_
      refine OW.pass rfl rfl ?_
      refine OW.val rfl rfl (EX.pickT rfl rfl) ?_
      refine OW.nil ?_
      refine KW.condT rfl (KW.seq (KW.region ?_))
      refine OW.val rfl rfl (EX.assign rfl) ?_
      refine OW.val rfl rfl (EX.assign rfl) ?_
      refine OW.nil ?_
      refine KW.ret (ret2 rfl rfl rfl ?_)
      exact bye _ (Ext.refl _) (.inl (by unfold badG at b0; unfold badW; omega))
    · unfold badG at b0
      refine OW.val rfl rfl (EX.move rfl) ?_
      refine OW.val rfl rfl (by first | exact EX.lssN (b := 0) rfl rfl | exact EX.lssZ rfl rfl) ?_
      refine OW.val rfl rfl (EX.pickF rfl rfl) ?_
      refine OW.val rfl rfl (EX.move rfl) ?_
      refine OW.splitD 33 rfl (fun b1 => ?_) (fun b1 => ?_)
      · refine OW.pass rfl rfl ?_
        refine OW.pass rfl rfl ?_
        refine OW.val rfl rfl (EX.pickT rfl rfl) ?_
        refine OW.val rfl rfl (EX.move rfl) ?_
        refine OW.pass rfl rfl ?_
        refine OW.pass rfl rfl ?_
        refine OW.pass rfl rfl ?_
        refine OW.val rfl rfl (EX.pickT rfl rfl) ?_
        refine OW.val rfl rfl (EX.move rfl) ?_
        refine OW.pass rfl rfl ?_
        refine OW.pass rfl rfl ?_
        refine OW.pass rfl rfl ?_
        refine OW.pass rfl rfl ?_
        refine OW.pass rfl rfl ?_
        refine OW.val rfl rfl (EX.pickT rfl rfl) ?_
        refine OW.nil ?_
        refine KW.condT rfl (KW.seq (KW.region ?_))
        refine OW.val rfl rfl (EX.assign rfl) ?_
        refine OW.val rfl rfl (EX.assign rfl) ?_
        refine OW.nil ?_
        refine KW.ret (ret2 rfl rfl rfl ?_)
        exact bye _ (Ext.refl _) (.inl (by unfold badW; omega))
      · refine OW.val rfl rfl (EX.move rfl) ?_
        refine OW.val rfl rfl (by first | exact EX.gtrN (b := 20) rfl rfl | exact EX.gtrZ rfl rfl) ?_
        refine OW.val rfl rfl (EX.pickF rfl rfl) ?_
        refine OW.val rfl rfl (EX.move rfl) ?_
        refine OW.splitD 37 rfl (fun b2 => ?_) (fun b2 => ?_)
        · refine OW.pass rfl rfl ?_
          refine OW.pass rfl rfl ?_
          refine OW.pass rfl rfl ?_
          refine OW.val rfl rfl (EX.pickT rfl rfl) ?_
          refine OW.val rfl rfl (EX.move rfl) ?_
          refine OW.pass rfl rfl ?_
          refine OW.pass rfl rfl ?_
          refine OW.pass rfl rfl ?_
          refine OW.pass rfl rfl ?_
          refine OW.pass rfl rfl ?_
          refine OW.val rfl rfl (EX.pickT rfl rfl) ?_
          refine OW.nil ?_
          refine KW.condT rfl (KW.seq (KW.region ?_))
          refine OW.val rfl rfl (EX.assign rfl) ?_
          refine OW.val rfl rfl (EX.assign rfl) ?_
          refine OW.nil ?_
          refine KW.ret (ret2 rfl rfl rfl ?_)
          exact bye _ (Ext.refl _) (.inl (by unfold badW; omega))
        · refine OW.val rfl rfl (EX.move rfl) ?_
          refine OW.val rfl rfl (EX.lenA Tryz.underlying23 rfl) ?_
          refine OW.val rfl rfl (by first | exact EX.eqlN (b := 0) rfl rfl | exact EX.eqlZ rfl rfl) ?_
          refine OW.val rfl rfl (EX.pickF rfl rfl) ?_
          refine OW.val rfl rfl (EX.move rfl) ?_
          refine OW.splitD 42 rfl (fun b3 => ?_) (fun b3 => ?_)
          · refine OW.pass rfl rfl ?_
            refine OW.pass rfl rfl ?_
            refine OW.pass rfl rfl ?_
            refine OW.pass rfl rfl ?_
            refine OW.pass rfl rfl ?_
            refine OW.val rfl rfl (EX.pickT rfl rfl) ?_
            refine OW.nil ?_
            refine KW.condT rfl (KW.seq (KW.region ?_))
            refine OW.val rfl rfl (EX.assign rfl) ?_
            refine OW.val rfl rfl (EX.assign rfl) ?_
            refine OW.nil ?_
            refine KW.ret (ret2 rfl rfl rfl ?_)
            exact bye _ (Ext.refl _) (.inl (by unfold badW; omega))
          · refine OW.val rfl rfl (EX.move rfl) ?_
            refine OW.val rfl rfl (EX.lenA Tryz.underlying23 rfl) ?_
            refine OW.val rfl rfl (EX.move rfl) ?_
            refine OW.val rfl rfl (by first | exact EX.subN (a := 20) (m := 9223372036854775807) rfl rfl rfl (by omega) | exact EX.subZ (m := 9223372036854775807) rfl rfl rfl rfl (by omega)) ?_
            refine OW.val rfl rfl (by first | exact EX.geqN rfl rfl | exact EX.geqZ rfl rfl) ?_
            refine OW.val rfl rfl (EX.pickF rfl rfl) ?_
            refine OW.nil ?_
            refine KW.condD rfl (fun b4 => ?_) (fun b4 => ?_)
            · refine KW.seq (KW.region ?_)
              refine OW.val rfl rfl (EX.assign rfl) ?_
              refine OW.val rfl rfl (EX.assign rfl) ?_
              refine OW.nil ?_
              refine KW.ret (ret2 rfl rfl rfl ?_)
              exact bye _ (Ext.refl _) (.inl (by unfold badW; omega))
            · obtain ⟨a, rfl⟩ := Int.eq_ofNat_of_zero_le (show 0 ≤ at_ by omega)
              obtain ⟨g, rfl⟩ := Int.eq_ofNat_of_zero_le (show 0 ≤ gen by omega)
              have nb : ¬ badW (g : Int) (a : Int) l.length := by unfold badW; omega
              refine KW.skip (KW.seq (KW.region ?_))
              refine OW.val rfl rfl (EX.assign rfl) ?_
              refine OW.nil ?_
              refine KW.seq (KW.seq (KW.region ?_))
              refine OW.val rfl rfl (EX.move rfl) ?_
              refine OW.val rfl rfl (EX.lenA Tryz.underlying23 rfl) ?_
              refine OW.val rfl rfl (EX.move rfl) ?_
              refine OW.nil ?_
              refine KW.cut2 (fun (v : Value) (wr : World) => (∀ n ∈ l, mayN n) ∧ Own wr w.heap.size 9 1 v l.length ((recs g a l).map str) ∧ Ext w wr) (fun (v : Value) (wr : World) => [(0, .pointer (some ⟨b, 0, none⟩)), (1, .int .i64 ((g : Nat) : Int)), (2, .int .i64 ((a : Nat) : Int)), (3, .slice A l.length c), (10, v)]) (fun (v : Value) (wr : World) => wr) ?_ ?_
              · refine KW.block ?_
                refine KW.loop3 (fun (i : Nat) (v : Value) (wr : World) => i ≤ l.length ∧ (∀ n ∈ l.take i, mayN n) ∧ Own wr w.heap.size 9 1 v i ((recs g a (l.take i)).map str) ∧ Ext w wr) (fun (i : Nat) (v : Value) (wr : World) => [(0, .pointer (some ⟨b, 0, none⟩)), (1, .int .i64 ((g : Nat) : Int)), (2, .int .i64 ((a : Nat) : Int)), (3, .slice A l.length c), (10, v), (49, .slice A l.length c), (50, .int .i64 ((l.length : Nat) : Int)), (51, .int .i64 ((i : Nat) : Int))]) (fun (i : Nat) (v : Value) (wr : World) => wr) (fun (i : Nat) (v : Value) (wr : World) => l.length - i) (0) (.slice none 0 0) (w) ⟨rfl, rfl, rfl, rfl, rfl, rfl, rfl, rfl, trivial⟩ rfl ?_ ?_
                · exact ⟨by omega, by simp, Own.nil _ _ _ _, Ext.refl _⟩
                · rintro i v wr ⟨hi, hall, hown, hx⟩
                  refine KW.seq (KW.region ?_)
                  refine OW.val rfl rfl (by first | exact EX.lssN rfl rfl | exact EX.lssZ rfl rfl) ?_
                  refine OW.nil ?_
                  refine KW.seq ?_
                  refine KW.condD rfl (fun hlt => ?_) (fun hlt => ?_)
                  · obtain ⟨bb, o, rfl, _, hcell⟩ := (hs.ext hx).flat (c := 6) (fun _ => rfl) (by decide) hlt
                    have hsn : l.take (i + 1) = l.take i ++ [l[i]] := (List.take_append_getElem hlt).symm
                    have hni := hok l[i] (List.getElem_mem hlt)
                    have hin : l[i] ∈ l := List.getElem_mem hlt
                    have hlt' : (l.take i).length = i := by rw [List.length_take]; omega
                    have hrec : recs g a (l.take (i + 1)) = recs g a (l.take i) ++ [text (l[i]).kind.toNat g (a + i) (noteB l[i])] := by rw [hsn, recs_snoc, hlt']
                    generalize l[i] = n at hni hin hcell hsn hrec
                    refine KW.skip (KW.seq (KW.block (KW.seq (KW.region ?_))))
                    refine OW.val rfl rfl (EX.move rfl) ?_
                    refine OW.val rfl rfl (EX.indexAddrS Tryz.underlying23 ti39 rfl rfl (by omega)) ?_
                    refine OW.val rfl rfl (EX.loadA (l := n.cells) Tryz.underlying39 rfl ti39 rfl rfl hcell) ?_
                    refine OW.allocB (l := [.int .i64 0, str [], .int .i64 0, .int .i64 0, .int .i64 0, .int .u32 0]) rfl rfl ti39 rfl ?_
                    rintro pb w1 hge1 hp1 hx1
                    refine OW.val rfl rfl (EX.assign rfl) ?_
                    refine OW.storeS rfl ti39 rfl rfl rfl (by first | rfl | (simp only [List.all_cons, List.all_nil, Bool.and_true, Bool.true_and, Bool.and_eq_true, Value.oneCell']; repeat (first | assumption | exact Own.one (by assumption) | constructor))) (hp1) (Nat.le_refl _) ?_
                    rintro w2 hp2 hm2
                    refine OW.nil ?_
                    refine KW.seq (KW.region ?_)
                    replace hp2 : Bk w2 pb 39 n.cells := hp2
                    have x2 : Ext w w2 := below_mo (hx.trans hx1) hm2 (hx.trans hx1).size (fun k hk => by simp at hk; have := hx.size; omega)
                    refine OW.val rfl rfl (EX.loadBk Tryz.underlying39 rfl ti39 rfl (hp2) (rfl)) ?_
                    refine OW.call rfl rfl rfl (data_s n hni w2) ?_
                    rintro _ w3 ⟨⟨s, rfl, hsb⟩, hx3⟩
                    refine OW.val rfl rfl (EX.move rfl) ?_
                    refine OW.val rfl rfl (EX.extract rfl rfl) ?_
                    refine OW.val rfl rfl (EX.extract rfl rfl) ?_
                    refine OW.val rfl rfl (EX.assign rfl) ?_
                    refine OW.val rfl rfl (EX.assign rfl) ?_
                    refine OW.nil ?_
                    refine KW.seq (KW.seq (KW.region ?_))
                    refine OW.val rfl rfl (EX.move rfl) ?_
                    refine OW.val rfl rfl (by first | exact EX.notD rfl | exact EX.notB rfl) ?_
                    refine OW.nil ?_
                    refine KW.condD rfl (fun hmay => ?_) (fun hmay => ?_)
                    · refine KW.seq (KW.region ?_)
                      refine OW.val rfl rfl (EX.assign rfl) ?_
                      refine OW.val rfl rfl (EX.assign rfl) ?_
                      refine OW.nil ?_
                      refine KW.ret (ret2 rfl rfl rfl ?_)
                      exact bye _ (x2.trans hx3) (.inr ⟨n, hin, hmay⟩)
                    · have hmay : mayN n := Classical.not_not.1 hmay
                      obtain rfl := hsb hmay
                      have hkd := noteGood hmay
                      have hsl := (noteB_len hmay).1
                      have hp3 := hp2.ext hx3
                      have x3 := x2.trans hx3
                      have hown3 := ((hown.ext hx1).mo hm2 (fun k hk => by simp; have := hown.lt k hk; omega)).ext hx3
                      obtain ⟨kd, hkd1⟩ := Int.eq_ofNat_of_zero_le (show 0 ≤ n.kind by omega)
                      have hkb : 1 ≤ kd ∧ kd ≤ 255 := by omega
                      have hp3' : Bk w3 pb 39 (.int .i64 (kd : Int) :: n.mem.cells) := by rw [← hkd1]; exact hp3
                      have e1 : encodeR kd (g : Int) ((a + i : Nat) : Int) (noteB n) = (text n.kind.toNat g (a + i) (noteB n), 0) := by
                        unfold encodeR
                        rw [if_neg (by unfold bad; omega), hkd1]
                        rfl
                      have ce := encode_s kd (by omega) (g : Int) ((a + i : Nat) : Int) (noteB n) (by omega) w3
                      rw [e1] at ce
                      refine KW.skip (KW.seq (KW.region ?_))
                      refine OW.val rfl rfl (EX.fieldAddr (off := 0) Tryz.underlying39 rfl rfl ti3 rfl rfl) ?_
                      refine OW.val rfl rfl (EX.load Tryz.underlying3 rfl rfl (hp3'.cell_of rfl)) ?_
                      refine OW.val rfl rfl (by first | exact EX.convN (m := 255) Tryz.underlying3 Tryz.underlying5 rfl rfl (by omega) | exact EX.convW (m := 256) Tryz.underlying3 Tryz.underlying5 rfl rfl (by decide) | exact EX.convZ Tryz.underlying3 Tryz.underlying5 rfl) ?_
                      refine OW.val rfl rfl (EX.move rfl) ?_
                      refine OW.val rfl rfl (EX.move rfl) ?_
                      refine OW.val rfl rfl (EX.move rfl) ?_
                      refine OW.val rfl rfl (by first | exact EX.addN (m := 9223372036854775807) rfl rfl rfl (by omega) | exact EX.addZ (m := 9223372036854775807) rfl rfl rfl rfl (by omega)) ?_
                      refine OW.val rfl rfl (EX.move rfl) ?_
                      refine OW.call rfl rfl rfl (ce) ?_
                      rintro _ w4 ⟨rfl, hx4⟩
                      refine OW.val rfl rfl (EX.move rfl) ?_
                      refine OW.val rfl rfl (EX.extract rfl rfl) ?_
                      refine OW.val rfl rfl (EX.extract rfl rfl) ?_
                      refine OW.val rfl rfl (EX.assign rfl) ?_
                      refine OW.val rfl rfl (EX.assign rfl) ?_
                      refine OW.nil ?_
                      refine KW.region ?_
                      refine OW.val rfl rfl (EX.move rfl) ?_
                      refine OW.val rfl rfl (EX.move rfl) ?_
                      refine OW.push rfl rfl (fun _ => rfl) rfl Tryz.underlying54 ti9 rfl rfl (fun _ => rfl) rfl ((x3.trans hx4)) ((hown3.ext hx4)) (by simp only [maxLen]; omega) (by omega) ?_
                      rintro _ v5 w5 hown5 hx5 _ _
                      refine OW.val rfl rfl (EX.assign rfl) ?_
                      refine OW.nil ?_
                      refine KW.leave (KW.region ?_)
                      refine OW.val rfl rfl (by first | exact EX.addN (b := 1) (m := 9223372036854775807) rfl rfl rfl (by omega) | exact EX.addZ (m := 9223372036854775807) rfl rfl rfl rfl (by omega)) ?_
                      refine OW.val rfl rfl (EX.move rfl) ?_
                      refine OW.nil ?_
                      refine KW.back3 (i + 1) (v5) (w5) ⟨rfl, rfl, rfl, rfl, rfl, rfl, rfl, rfl, trivial⟩ rfl ?_ (by omega)
                      refine ⟨by omega, ?_, by rw [hrec, List.map_append]; exact hown5, hx5⟩
                      rw [hsn]
                      intro n' hn'
                      rcases List.mem_append.1 hn' with q | q
                      · exact hall n' q
                      · rw [List.mem_singleton.1 q]; exact hmay
                  · obtain rfl : i = l.length := by omega
                    rw [List.take_length] at hall hown
                    refine KW.exit rfl ?_
                    refine KW.meet2 (v) (wr) ⟨rfl, rfl, rfl, rfl, rfl, trivial⟩ rfl ?_
                    exact ⟨hall, hown, hx⟩
              · rintro v wr ⟨hall, hown, hx⟩
                have hl19 : l.length ≤ 19 := by omega
                have hgb : g ≤ 4611686018427387904 := by omega
                have ec : encodeR 3 (g : Int) ((a + l.length : Nat) : Int) [UInt8.ofNat l.length] = (text 3 g (a + l.length) [UInt8.ofNat l.length], 0) := by
                  unfold encodeR
                  rw [if_neg (by unfold bad; simp; omega)]
                  rfl
                have el : appendW D (g : Int) (a : Int) l = (let r := writes D (10 + a) (txs g a l); if r.2 = 0 then (if r.1.sync.2 = 0 then (r.1.sync.1, (a : Int) + l.length + 1, 0) else (r.1.sync.1, 0, r.1.sync.2)) else (r.1, 0, r.2)) := app_go nb hall
                have hlen := txs_len (g := g) (i := a) hall
                have hnt := txs_length g a l
                have het : recs g a l ++ [text 3 g (a + l.length) [UInt8.ofNat l.length]] = txs g a l := rfl
                generalize txs g a l = T at el hlen hnt het
                refine KW.seq (KW.region ?_)
                refine OW.val rfl rfl (EX.move rfl) ?_
                refine OW.val rfl rfl (EX.move rfl) ?_
                refine OW.val rfl rfl (EX.move rfl) ?_
                refine OW.val rfl rfl (EX.lenA Tryz.underlying23 rfl) ?_
                refine OW.val rfl rfl (by first | exact EX.addN (m := 9223372036854775807) rfl rfl rfl (by omega) | exact EX.addZ (m := 9223372036854775807) rfl rfl rfl rfl (by omega)) ?_
                refine OW.val rfl rfl (EX.move rfl) ?_
                refine OW.val rfl rfl (EX.lenA Tryz.underlying23 rfl) ?_
                refine OW.val rfl rfl (by first | exact EX.convN (m := 255) Tryz.underlying3 Tryz.underlying5 rfl rfl (by omega) | exact EX.convW (m := 256) Tryz.underlying3 Tryz.underlying5 rfl rfl (by decide) | exact EX.convZ Tryz.underlying3 Tryz.underlying5 rfl) ?_
                refine OW.buildB 1 rfl rfl Tryz.underlying59 ti5 rfl rfl rfl rfl (by first | rfl | (simp only [List.all_cons, List.all_nil, Bool.and_true, Bool.and_eq_true]; assumption)) (by decide) ?_
                rintro sb w1 hge1 hb1 hx1
                refine OW.val rfl rfl (EX.strOf Tryz.underlying59 Tryz.underlying5 Tryz.underlying9 rfl (oneB hb1 (by omega)) (rfl)) ?_
                have ce := encode_s 3 (by omega) (g : Int) ((a + l.length : Nat) : Int) [UInt8.ofNat l.length] (by simp) w1
                rw [ec] at ce
                refine OW.call rfl rfl rfl (ce) ?_
                rintro _ w2 ⟨rfl, hx2⟩
                refine OW.val rfl rfl (EX.move rfl) ?_
                refine OW.val rfl rfl (EX.extract rfl rfl) ?_
                refine OW.val rfl rfl (EX.extract rfl rfl) ?_
                refine OW.val rfl rfl (EX.assign rfl) ?_
                refine OW.val rfl rfl (EX.assign rfl) ?_
                refine OW.nil ?_
                refine KW.seq (KW.seq (KW.region ?_))
                refine OW.val rfl rfl (EX.move rfl) ?_
                refine OW.val rfl rfl (EX.move rfl) ?_
                have x2 := (hx.trans hx1).trans hx2
                have es : (recs g a l).map str ++ [str (text 3 g (a + l.length) [UInt8.ofNat l.length])] = T.map str := by rw [← het, List.map_append]; rfl
                refine OW.push rfl rfl (fun _ => rfl) rfl Tryz.underlying54 ti9 rfl rfl (fun _ => rfl) rfl (x2) (((hown.ext hx1).ext hx2)) (by simp only [maxLen]; omega) (by omega) ?_
                rintro _ v3 w3 hown3 hx3 _ _
                replace hown3 : Own w3 w.heap.size 9 1 v3 (l.length + 1) ((recs g a l).map str ++ [str (text 3 g (a + l.length) [UInt8.ofNat l.length])]) := hown3
                rw [es] at hown3
                obtain ⟨A3, c3, rfl, hc3, _⟩ := hown3.slice
                refine OW.val rfl rfl (EX.lenA Tryz.underlying54 rfl) ?_
                refine OW.val rfl rfl (EX.move rfl) ?_
                refine OW.nil ?_
                refine KW.block ?_
                refine KW.loop3 (fun (i : Nat) (E : Dv) (wr : World) => i ≤ l.length + 1 ∧ E.Ok ∧ Sm E (k + i) ∧ writes E (10 + a + i) (T.drop i) = writes D (10 + a) T ∧ DevAt wr B b E ∧ Tm w wr B dty ∧ Own wr w.heap.size 9 1 (.slice A3 (l.length + 1) c3) (l.length + 1) (T.map str)) (fun (i : Nat) (E : Dv) (wr : World) => [(0, .pointer (some ⟨b, 0, none⟩)), (2, .int .i64 ((a : Nat) : Int)), (3, .slice A l.length c), (97, .slice A3 (l.length + 1) c3), (98, .int .i64 (((l.length + 1) : Nat) : Int)), (99, .int .i64 ((i : Nat) : Int))]) (fun (i : Nat) (E : Dv) (wr : World) => wr) (fun (i : Nat) (E : Dv) (wr : World) => l.length + 1 - i) (0) (D) (w3) ⟨rfl, rfl, rfl, rfl, rfl, rfl, trivial⟩ rfl ?_ ?_
                · exact ⟨by omega, hD, hsm, rfl, h.ext hx3, Tm.of_ext hx3 _ _, hown3⟩
                · rintro i E wr ⟨hi, hE, hsE, hw, hdev, htm, hownr⟩
                  refine KW.seq (KW.region ?_)
                  refine OW.val rfl rfl (by first | exact EX.lssN rfl rfl | exact EX.lssZ rfl rfl) ?_
                  refine OW.nil ?_
                  refine KW.seq ?_
                  refine KW.condD rfl (fun hlt => ?_) (fun hlt => ?_)
                  · have hltT : i < T.length := by omega
                    have hdr : T.drop i = T[i] :: T.drop (i + 1) := List.drop_eq_getElem_cons hltT
                    have hT5 := hlen T[i] (List.getElem_mem hltT)
                    have hTi : (T.map str)[i]? = some (str T[i]) := by rw [List.getElem?_map, List.getElem?_eq_getElem hltT]; rfl
                    rw [hdr, writes_cons] at hw
                    generalize T[i] = s at hw hT5 hTi
                    obtain ⟨A4, c4, e4, _, hsl4⟩ := hownr.slice
                    cases e4
                    obtain ⟨bb, o, rfl, _, hcell⟩ := hsl4.at_ (by rw [List.length_map]; omega)
                    refine KW.skip (KW.seq (KW.block (KW.seq (KW.region ?_))))
                    refine OW.val rfl rfl (EX.move rfl) ?_
                    refine OW.val rfl rfl (by first | exact EX.indexAddrS0 Tryz.underlying54 ti9 rfl rfl (by omega) | exact EX.indexAddrS1 Tryz.underlying54 ti9 rfl rfl (by omega)) ?_
                    refine OW.val rfl rfl (EX.load Tryz.underlying9 rfl rfl (hcell i _ hTi)) ?_
                    refine OW.val rfl rfl (EX.assign rfl) ?_
                    refine OW.val rfl rfl (EX.assign rfl) ?_
                    refine OW.nil ?_
                    refine KW.seq (KW.region ?_)
                    refine OW.val rfl rfl (EX.move rfl) ?_
                    refine OW.val rfl rfl (EX.move rfl) ?_
                    refine OW.val rfl rfl (by first | exact EX.addN (a := 10) (m := 9223372036854775807) rfl rfl rfl (by omega) | exact EX.addZ (m := 9223372036854775807) rfl rfl rfl rfl (by omega)) ?_
                    refine OW.val rfl rfl (EX.move rfl) ?_
                    refine OW.val rfl rfl (by first | exact EX.addN (m := 9223372036854775807) rfl rfl rfl (by omega) | exact EX.addZ (m := 9223372036854775807) rfl rfl rfl rfl (by omega)) ?_
                    refine OW.val rfl rfl (EX.move rfl) ?_
                    have cw := write_d hdev hE (hsE.small (by omega)) ((10 + a + i : Nat) : Int) (by omega) (by omega) s (by omega)
                    refine OW.call rfl rfl rfl (cw) ?_
                    rintro _ w5 ⟨rfl, hdev5, htm5⟩
                    refine OW.val rfl rfl (EX.assign rfl) ?_
                    refine OW.nil ?_
                    refine KW.seq (KW.region ?_)
                    refine OW.val rfl rfl (EX.move rfl) ?_
                    refine OW.val rfl rfl (by first | exact EX.neqN (b := 0) rfl rfl | exact EX.neqZ rfl rfl) ?_
                    refine OW.nil ?_
                    refine KW.condD rfl (fun he => ?_) (fun he => ?_)
                    · rw [if_neg (by omega)] at hw
                      refine KW.seq (KW.region ?_)
                      refine OW.val rfl rfl (EX.move rfl) ?_
                      refine OW.val rfl rfl (EX.assign rfl) ?_
                      refine OW.val rfl rfl (EX.assign rfl) ?_
                      refine OW.nil ?_
                      refine KW.ret (ret2 rfl rfl rfl ?_)
                      rw [el, ← hw]
                      simp only
                      rw [if_neg (by omega)]
                      exact ⟨rfl, hdev5, htm.trans htm5⟩
                    · rw [if_pos (by omega)] at hw
                      refine KW.skip (KW.leave (KW.region ?_))
                      refine OW.val rfl rfl (by first | exact EX.addN (b := 1) (m := 9223372036854775807) rfl rfl rfl (by omega) | exact EX.addZ (m := 9223372036854775807) rfl rfl rfl rfl (by omega)) ?_
                      refine OW.val rfl rfl (EX.move rfl) ?_
                      refine OW.nil ?_
                      refine KW.back3 (i + 1) ((E.write ((10 + a + i : Nat) : Int) s).1) (w5) ⟨rfl, rfl, rfl, rfl, rfl, rfl, trivial⟩ rfl ?_ (by omega)
                      exact ⟨by omega, write_ok hE _ _, write_sm hsE _ _, hw, hdev5, htm.trans htm5, htm5.own hownr (by decide)⟩
                  · obtain rfl : i = l.length + 1 := by omega
                    rw [List.drop_eq_nil_of_le (by omega)] at hw
                    have hw' : writes D (10 + a) T = (E, 0) := hw.symm
                    rw [hw'] at el
                    simp only [if_true] at el
                    refine KW.exit rfl (KW.seq (KW.seq (KW.region ?_)))
                    refine OW.val rfl rfl (EX.move rfl) ?_
                    refine OW.call rfl rfl rfl (sync_d hdev hE (hsE.small (by omega))) ?_
                    rintro _ w5 ⟨rfl, hdev5, htm5⟩
                    refine OW.val rfl rfl (EX.assign rfl) ?_
                    refine OW.nil ?_
                    refine KW.seq (KW.region ?_)
                    refine OW.val rfl rfl (EX.move rfl) ?_
                    refine OW.val rfl rfl (by first | exact EX.neqN (b := 0) rfl rfl | exact EX.neqZ rfl rfl) ?_
                    refine OW.nil ?_
                    refine KW.condD rfl (fun he => ?_) (fun he => ?_)
                    · rw [if_neg (by omega)] at el
                      refine KW.seq (KW.region ?_)
                      refine OW.val rfl rfl (EX.move rfl) ?_
                      refine OW.val rfl rfl (EX.assign rfl) ?_
                      refine OW.val rfl rfl (EX.assign rfl) ?_
                      refine OW.nil ?_
                      refine KW.ret (ret2 rfl rfl rfl ?_)
                      rw [el]
                      exact ⟨rfl, hdev5, htm.trans htm5⟩
                    · rw [if_pos (by omega)] at el
                      refine KW.skip (KW.seq (KW.region ?_))
                      refine OW.val rfl rfl (EX.move rfl) ?_
                      refine OW.val rfl rfl (EX.move rfl) ?_
                      refine OW.val rfl rfl (EX.lenA Tryz.underlying23 rfl) ?_
                      refine OW.val rfl rfl (by first | exact EX.addN (m := 9223372036854775807) rfl rfl rfl (by omega) | exact EX.addZ (m := 9223372036854775807) rfl rfl rfl rfl (by omega)) ?_
                      refine OW.val rfl rfl (by first | exact EX.addN (b := 1) (m := 9223372036854775807) rfl rfl rfl (by omega) | exact EX.addZ (m := 9223372036854775807) rfl rfl rfl rfl (by omega)) ?_
                      refine OW.val rfl rfl (EX.assign rfl) ?_
                      refine OW.val rfl rfl (EX.assign rfl) ?_
                      refine OW.nil ?_
                      refine KW.ret (ret2 rfl rfl rfl ?_)
                      rw [el]
                      exact ⟨rfl, hdev5, htm.trans htm5⟩
end Go.Proofs.YtlpnoogcdnfllaaGreatDoor
namespace Go.Proofs.YtlpnoogcdnfllaaGreatDoor
open Go.RowKit Dsk
def _root_.Go.Proofs.YtlpnoogcdnfllaaGreatDoor.Dsk.Dv.read (D : Dv) (i : Int) : Dv × List UInt8 × Nat :=
  if D.dead then (D, [], 190) else if i < 0 ∨ ((D.now.length / 512 : Nat) : Int) ≤ i then (D, [], 191) else ({ D with calls := D.calls + 1 }, (D.now.drop (i.toNat * 512)).take 512, 0)
theorem bytesV_drop_take (l : List UInt8) (i j : Nat) : ((bytesV l).drop i).take j = bytesV ((l.drop i).take j) := by simp [bytesV, List.map_take, List.map_drop]
section
variable {w : World} {B b : Nat} {D : Dv}
set_option maxRecDepth 20000 in
theorem read_d (h : DevAt w B b D) (hD : D.Ok) (hs : Small D) (i : Int) (i0 : -9223372036854775808 ≤ i) (i1 : i ≤ 9223372036854775807) :
    Ret Tryz.prog 27 [.pointer (some ⟨b, 0, none⟩), .int .i64 i] w fun v w' => v = .tuple #[str (D.read i).2.1, .int .i64 (((D.read i).2.2 : Nat) : Int)] ∧ DevAt w' B b (D.read i).1 ∧ Tm w w' B dty := by
  have q1 := hD.now
  have q2 := hD.cap
  have q3 := hs.calls
  refine Ret.enter Tryz.func27 rfl Tryz.ntmps27 (by kernel_rfl) rfl ?_
  refine KW.seq (KW.region ?_)
  refine OW.val rfl rfl (EX.assign rfl) ?_
  refine OW.val rfl rfl (EX.assign rfl) ?_
  refine OW.nil ?_
  refine KW.seq (KW.seq (KW.region ?_))
  refine OW.val rfl rfl (EX.move rfl) ?_
  refine OW.call rfl rfl rfl (alive_d h hD) ?_
  rintro _ _ ⟨rfl, rfl⟩
  refine OW.val rfl rfl (EX.assign rfl) ?_
  refine OW.nil ?_
  refine KW.seq (KW.region ?_)
  refine OW.val rfl rfl (EX.move rfl) ?_
  refine OW.val rfl rfl (by first | exact EX.neqN (b := 0) rfl rfl | exact EX.neqZ rfl rfl) ?_
  refine OW.nil ?_
  rcases hd : D.dead with _ | _
  · rw [if_neg (by simp)]
    refine KW.as 10 (.bool false) rfl (congrArg Value.bool (decide_eq_false (by decide))) ?_
    refine KW.condF rfl (KW.skip (KW.seq (KW.seq ?_)))
    refine KW.region ?_
    refine OW.val rfl rfl (EX.move rfl) ?_
    refine OW.val rfl rfl (by first | exact EX.lssN (b := 0) rfl rfl | exact EX.lssZ rfl rfl) ?_
    refine OW.val rfl rfl (EX.move rfl) ?_
    refine OW.splitD 14 rfl (fun a1 => ?_) (fun a1 => ?_)
    · have e : D.read i = (D, [], 191) := by unfold Dv.read; rw [hd, if_neg (by simp), if_pos (.inl a1)]
      refine OW.pass rfl rfl ?_
      refine OW.pass rfl rfl ?_
      refine OW.pass rfl rfl ?_
      refine OW.pass rfl rfl ?_
      refine OW.val rfl rfl (EX.pickT rfl rfl) ?_
      refine OW.nil ?_
      refine KW.condT rfl (KW.seq (KW.region ?_))
      refine OW.val rfl rfl (EX.assign rfl) ?_
      refine OW.val rfl rfl (EX.assign rfl) ?_
      refine OW.nil ?_
      refine KW.ret (ret2 rfl rfl rfl ?_)
      rw [e]
      exact ⟨rfl, h, Tm.refl _ _ _⟩
    · refine OW.val rfl rfl (EX.move rfl) ?_
      refine OW.val rfl rfl (EX.move rfl) ?_
      refine OW.call rfl rfl rfl (len_d h hD) ?_
      rintro _ _ ⟨rfl, rfl⟩
      refine OW.val rfl rfl (by first | exact EX.geqN rfl rfl | exact EX.geqZ rfl rfl) ?_
      refine OW.val rfl rfl (EX.pickF rfl rfl) ?_
      refine OW.nil ?_
      refine KW.condD rfl (fun a2 => ?_) (fun a2 => ?_)
      · have e : D.read i = (D, [], 191) := by unfold Dv.read; rw [hd, if_neg (by simp), if_pos (.inr a2)]
        refine KW.seq (KW.region ?_)
        refine OW.val rfl rfl (EX.assign rfl) ?_
        refine OW.val rfl rfl (EX.assign rfl) ?_
        refine OW.nil ?_
        refine KW.ret (ret2 rfl rfl rfl ?_)
        rw [e]
        exact ⟨rfl, h, Tm.refl _ _ _⟩
      · obtain ⟨j, rfl⟩ := Int.eq_ofNat_of_zero_le (show 0 ≤ i by omega)
        have hj : (j + 1) * 512 ≤ D.now.length := by omega
        have e : D.read (j : Int) = ({ D with calls := D.calls + 1 }, (D.now.drop (j * 512)).take 512, 0) := by unfold Dv.read; rw [hd, if_neg (by simp), if_neg (by omega)]; rfl
        obtain ⟨vk, vn, vp, vq, vs, hv⟩ := id h
        obtain ⟨An, cn, rfl, hcn, hsln⟩ := hv.now.slice
        refine KW.skip (KW.seq (KW.region ?_))
        refine OW.val rfl rfl (EX.move rfl) ?_
        refine OW.val rfl rfl (EX.nilCheck rfl) ?_
        refine OW.val rfl rfl (EX.fieldAddr (off := 7) Tryz.underlying74 rfl rfl ti3 rfl rfl) ?_
        refine OW.val rfl rfl (EX.load Tryz.underlying3 rfl rfl (hv.cells.cell_of rfl)) ?_
        refine OW.val rfl rfl (by first | exact EX.addN (b := 1) (m := 9223372036854775807) rfl rfl rfl (by omega) | exact EX.addZ (m := 9223372036854775807) rfl rfl rfl rfl (by omega)) ?_
        refine OW.val rfl rfl (EX.nilCheck rfl) ?_
        refine OW.val rfl rfl (EX.fieldAddr (off := 7) Tryz.underlying74 rfl rfl ti3 rfl rfl) ?_
        refine OW.storeB rfl ti3 rfl rfl (by first | rfl | assumption | exact Own.one (by assumption)) (hv.cells) (by simp) ?_
        rintro w2 hb2 hm2
        refine OW.nil ?_
        refine KW.seq (KW.region ?_)
        refine OW.val rfl rfl (EX.move rfl) ?_
        refine OW.val rfl rfl (EX.nilCheck rfl) ?_
        refine OW.val rfl rfl (EX.fieldAddr (off := 2) Tryz.underlying74 rfl rfl ti59 rfl rfl) ?_
        have hv2 := Dev.after (D' := { D with calls := D.calls + 1 }) hv.lo hv.cells hm2 hb2 hv.kept hv.now hv.apart hv.pend hv.chs hv.keep
        obtain ⟨A2, c2, e2, hc2, hsl2⟩ := hv2.now.slice
        simp only [Value.slice.injEq, true_and] at e2
        obtain ⟨rfl, rfl⟩ := e2
        dsimp only at hc2 hsl2
        refine OW.val rfl rfl (EX.load Tryz.underlying59 rfl rfl (hv2.cells.cell_of rfl)) ?_
        refine OW.val rfl rfl (EX.move rfl) ?_
        refine OW.val rfl rfl (by first | exact EX.mulN (b := 512) (m := 9223372036854775807) rfl rfl rfl (by omega) | exact EX.mulZ (m := 9223372036854775807) rfl rfl rfl rfl (by omega)) ?_
        refine OW.val rfl rfl (EX.move rfl) ?_
        refine OW.val rfl rfl (by first | exact EX.addN (b := 1) (m := 9223372036854775807) rfl rfl rfl (by omega) | exact EX.addZ (m := 9223372036854775807) rfl rfl rfl rfl (by omega)) ?_
        refine OW.val rfl rfl (by first | exact EX.mulN (b := 512) (m := 9223372036854775807) rfl rfl rfl (by omega) | exact EX.mulZ (m := 9223372036854775807) rfl rfl rfl rfl (by omega)) ?_
        refine OW.sliceALH rfl rfl Tryz.underlying59 ti5 rfl rfl rfl (by omega) (hsl2) (bytesV_length _) ?_
        rintro A3 hsl3
        rw [bytesV_drop_take] at hsl3
        have hsub : (j + 1) * 512 - j * 512 = 512 := by omega
        have hlen : ((D.now.drop (j * 512)).take ((j + 1) * 512 - j * 512)).length = (j + 1) * 512 - j * 512 := by rw [List.length_take, List.length_drop]; omega
        refine OW.val rfl rfl (EX.strOf Tryz.underlying59 Tryz.underlying5 Tryz.underlying9 rfl (hsl3) (hlen)) ?_
        refine OW.val rfl rfl (EX.assign rfl) ?_
        refine OW.val rfl rfl (EX.assign rfl) ?_
        refine OW.nil ?_
        refine KW.ret (ret2 rfl rfl rfl ?_)
        rw [e]
        refine ⟨?_, ⟨_, _, _, _, _, hv2⟩, Dev.tmD hv.lo hv.cells hm2⟩
        rw [hsub]
        rfl
  · have e : D.read i = (D, [], 190) := by unfold Dv.read; rw [hd]; rfl
    rw [if_pos rfl]
    refine KW.as 10 (.bool true) rfl (congrArg Value.bool (decide_eq_true (by decide))) ?_
    refine KW.condT rfl (KW.seq (KW.region ?_))
    refine OW.val rfl rfl (EX.move rfl) ?_
    refine OW.val rfl rfl (EX.assign rfl) ?_
    refine OW.val rfl rfl (EX.assign rfl) ?_
    refine OW.nil ?_
    refine KW.ret (ret2 rfl rfl rfl ?_)
    rw [e]
    exact ⟨rfl, h, Tm.refl _ _ _⟩
end
end Go.Proofs.YtlpnoogcdnfllaaGreatDoor
namespace Go.Proofs.YtlpnoogcdnfllaaGreatDoor.Wal
open Go.RowKit Rec Pth Dsk
def repN (gen : Int) (rd : Nat → By) (m : Nat) : Nat → Nat → List Nt → Nat
  | 0, _, _ => 0
  | f + 1, i, op =>
    if i < m then
      let x := decodeR (rd i)
      if x.2 ≠ 0 ∨ x.1.gen ≠ gen ∨ x.1.index ≠ i then 1
      else if x.1.kind = 3 then (if op = [] ∨ x.1.data ≠ [UInt8.ofNat op.length] then 1 else repN gen rd m f (i + 1) [] + 1)
      else match noteOf x.1 with
        | some n => repN gen rd m f (i + 1) (op ++ [n]) + 1
        | none => 1
    else 0
def readsD (D : Dv) (gen : Int) : Nat := if badG gen then 0 else if D.dead then 0 else repN gen (fun i => sec D.now (10 + i)) (logN D.now) 21 0 []
def replayed (D : Dv) (gen : Int) : Dv := { D with calls := D.calls + readsD D gen }
theorem repN_le (gen : Int) (rd : Nat → By) (m : Nat) : ∀ (f i : Nat) (op : List Nt), repN gen rd m f i op ≤ f
  | 0, _, _ => Nat.le_refl _
  | f + 1, i, op => by
    have h1 := repN_le gen rd m f (i + 1) []
    rw [repN]
    split
    · simp only
      split
      · omega
      · split
        · split
          · omega
          · omega
        · split
          · rename_i n _
            have h2 := repN_le gen rd m f (i + 1) (op ++ [n])
            omega
          · omega
    · omega
theorem readsD_le (D : Dv) (gen : Int) : readsD D gen ≤ 21 := by
  unfold readsD
  split
  · omega
  · split
    · omega
    · exact repN_le _ _ _ _ _ _
theorem replayed_ok {D : Dv} (h : D.Ok) (gen : Int) : (replayed D gen).Ok := ⟨h.cap, h.kept, h.now, h.keptM, h.nowM, h.pend⟩
theorem replayed_sm {D : Dv} {k : Nat} (h : Sm D k) (gen : Int) : Sm (replayed D gen) (k + 21) :=
  ⟨by have h1 := h.calls; have h2 := readsD_le D gen; show D.calls + readsD D gen ≤ _; omega, by have h1 := h.pend; show D.pend.length ≤ _; omega, h.at_, h.keep⟩
section
variable {gen : Int} {rd : Nat → By} {m f i : Nat} {op : List Nt} {out : List (List Nt)} {b : Nat} {x : R} {e : Nat}
theorem rep_0 (h : ¬ i < m) : rep gen rd m (f + 1) i op out b = (out, b) ∧ repN gen rd m (f + 1) i op = 0 := by
  rw [rep, repN, if_neg h, if_neg h]
  exact ⟨rfl, rfl⟩
theorem rep_1 (h : i < m) (hx : decodeR (rd i) = (x, e)) (h2 : e ≠ 0 ∨ x.gen ≠ gen ∨ x.index ≠ i) : rep gen rd m (f + 1) i op out b = (out, b) ∧ repN gen rd m (f + 1) i op = 1 := by
  rw [rep, repN, if_pos h, if_pos h, hx]
  simp only
  rw [if_pos h2, if_pos h2]
  exact ⟨rfl, rfl⟩
theorem rep_2 (h : i < m) (hx : decodeR (rd i) = (x, e)) (h2 : ¬ (e ≠ 0 ∨ x.gen ≠ gen ∨ x.index ≠ i)) (h3 : x.kind = 3) (h4 : op = [] ∨ x.data ≠ [UInt8.ofNat op.length]) : rep gen rd m (f + 1) i op out b = (out, b) ∧ repN gen rd m (f + 1) i op = 1 := by
  rw [rep, repN, if_pos h, if_pos h, hx]
  simp only
  rw [if_neg h2, if_neg h2, if_pos h3, if_pos h3, if_pos h4, if_pos h4]
  exact ⟨rfl, rfl⟩
theorem rep_3 (h : i < m) (hx : decodeR (rd i) = (x, e)) (h2 : ¬ (e ≠ 0 ∨ x.gen ≠ gen ∨ x.index ≠ i)) (h3 : x.kind = 3) (h4 : ¬ (op = [] ∨ x.data ≠ [UInt8.ofNat op.length])) :
    rep gen rd m (f + 1) i op out b = rep gen rd m f (i + 1) [] (out ++ [op]) (i + 1) ∧ repN gen rd m (f + 1) i op = repN gen rd m f (i + 1) [] + 1 := by
  rw [rep, repN, if_pos h, if_pos h, hx]
  simp only
  rw [if_neg h2, if_neg h2, if_pos h3, if_pos h3, if_neg h4, if_neg h4]
  exact ⟨rfl, rfl⟩
theorem rep_4 (h : i < m) (hx : decodeR (rd i) = (x, e)) (h2 : ¬ (e ≠ 0 ∨ x.gen ≠ gen ∨ x.index ≠ i)) (h3 : ¬ x.kind = 3) (h4 : noteOf x = none) : rep gen rd m (f + 1) i op out b = (out, b) ∧ repN gen rd m (f + 1) i op = 1 := by
  rw [rep, repN, if_pos h, if_pos h, hx]
  simp only
  rw [if_neg h2, if_neg h2, if_neg h3, if_neg h3, h4]
  exact ⟨rfl, rfl⟩
theorem rep_5 {n : Nt} (h : i < m) (hx : decodeR (rd i) = (x, e)) (h2 : ¬ (e ≠ 0 ∨ x.gen ≠ gen ∨ x.index ≠ i)) (h3 : ¬ x.kind = 3) (h4 : noteOf x = some n) :
    rep gen rd m (f + 1) i op out b = rep gen rd m f (i + 1) (op ++ [n]) out b ∧ repN gen rd m (f + 1) i op = repN gen rd m f (i + 1) (op ++ [n]) + 1 := by
  rw [rep, repN, if_pos h, if_pos h, hx]
  simp only
  rw [if_neg h2, if_neg h2, if_neg h3, if_neg h3, h4]
  exact ⟨rfl, rfl⟩
end
end Go.Proofs.YtlpnoogcdnfllaaGreatDoor.Wal
