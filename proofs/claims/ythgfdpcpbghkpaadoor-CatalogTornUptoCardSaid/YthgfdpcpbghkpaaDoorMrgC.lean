/-
  What the statements rest on, part 3 of 4: many small texts, one behind the other.
-/
import Derived.Test.YthgfdpcpbghkpaaDoorMrgB
import Derived.Scope
import Derived.Maps.RangeRun
import Derived.Carry
import Derived.MapKept
import Derived.ChangeMaps4
import Derived.Shelf.SlSortCmp.NoneTotal
import Derived.Test.YthgfdpcpbghkpaaDoorProg
import Derived.Shelf.SlGeneric
import Derived.Ground.SlsfProg
import Derived.Lib.Builder
import Derived.Lib.UnsafeStr
import Derived.Laws.Externs
set_option linter.unusedSimpArgs false
set_option linter.unusedVariables false
set_option linter.unnecessarySimpa false
namespace Go.Proofs.YthgfdpcpbghkpaaDoor
open Go.RowKit Dsk
def boolsV (l : List Bool) : List Value := l.map fun b => .bool b
theorem boolsV_length (l : List Bool) : (boolsV l).length = l.length := by simp [boolsV]
theorem boolsV_one (l : List Bool) : ∀ u ∈ boolsV l, u.oneCell' = true := by
  intro u hu
  obtain ⟨_, _, rfl⟩ := List.mem_map.1 hu
  rfl
def ChV (w : World) : Ch → Value → Prop
  | .write i s, v => ∃ bi bs : Nat, v = .func (.func 41) (List.toArray []) (List.toArray [.pointer (some ⟨bi, 0, none⟩), .pointer (some ⟨bs, 0, none⟩)]) ∧ Bk w bi 3 [.int .i64 (i : Int)] ∧ Bk w bs 9 [str s]
  | .cut n, v => False
def ChVs (w : World) : List Ch → List Value → Prop
  | [], [] => True
  | c :: cs, v :: vs => ChV w c v ∧ ChVs w cs vs
  | _, _ => False
theorem ChV.tm {w w' : World} {B : Nat} {p : TypeId → Bool} (h : Tm w w' B p) (hi : p 3 = false) (hs : p 9 = false) : ∀ {c : Ch} {v : Value}, ChV w c v → ChV w' c v
  | .write i s, v, ⟨bi, bs, e, h1, h2⟩ => ⟨bi, bs, e, h.bk h1 hi, h.bk h2 hs⟩
  | .cut n, v, h1 => (h1 : False).elim
theorem ChV.one {w : World} : ∀ {c : Ch} {v : Value}, ChV w c v → v.oneCell' = true
  | .write i s, v, ⟨bi, bs, e, h1, h2⟩ => by rw [e]; rfl
  | .cut n, v, h1 => (h1 : False).elim
theorem ChVs.tm {w w' : World} {B : Nat} {p : TypeId → Bool} (h : Tm w w' B p) (hi : p 3 = false) (hs : p 9 = false) : ∀ {cs : List Ch} {vs : List Value}, ChVs w cs vs → ChVs w' cs vs
  | [], [], _ => trivial
  | c :: cs, v :: vs, ⟨h1, h2⟩ => ⟨h1.tm h hi hs, ChVs.tm h hi hs h2⟩
  | [], _ :: _, h => h.elim
  | _ :: _, [], h => h.elim
theorem ChVs.len {w : World} : ∀ {cs : List Ch} {vs : List Value}, ChVs w cs vs → vs.length = cs.length
  | [], [], _ => rfl
  | c :: cs, v :: vs, ⟨_, h2⟩ => by simp [ChVs.len h2]
  | [], _ :: _, h => h.elim
  | _ :: _, [], h => h.elim
theorem ChVs.snoc {w : World} : ∀ {cs : List Ch} {vs : List Value} {c : Ch} {v : Value}, ChVs w cs vs → ChV w c v → ChVs w (cs ++ [c]) (vs ++ [v])
  | [], [], _, _, _, h => ⟨h, trivial⟩
  | c :: cs, v :: vs, _, _, ⟨h1, h2⟩, h => ⟨h1, ChVs.snoc h2 h⟩
  | [], _ :: _, _, _, h, _ => h.elim
  | _ :: _, [], _, _, h, _ => h.elim
theorem ChVs.at_ {w : World} : ∀ {cs : List Ch} {vs : List Value}, ChVs w cs vs → ∀ (j : Nat) (hj : j < cs.length), ∃ v, vs[j]? = some v ∧ ChV w cs[j] v
  | [], [], _, j, hj => by simp at hj
  | c :: cs, v :: vs, ⟨h1, h2⟩, 0, hj => ⟨v, rfl, h1⟩
  | c :: cs, v :: vs, ⟨h1, h2⟩, j + 1, hj => by
    obtain ⟨u, h3, h4⟩ := ChVs.at_ h2 j (by simpa using hj)
    exact ⟨u, by simpa using h3, by simpa using h4⟩
  | [], _ :: _, h, _, _ => h.elim
  | _ :: _, [], h, _, _ => h.elim
structure Dev (w : World) (B b : Nat) (D : Dv) (vk vn vp vq : Value) (vs : List Value) : Prop where
  lo : B ≤ b
  cells : Bk w b 82 [.int .i64 (D.cap : Int), vk, vn, vp, .int .i64 (D.at_ : Int), vq, .bool D.dead, .int .i64 (D.calls : Int)]
  kept : Own w B 5 1 vk D.kept.length (bytesV D.kept)
  now : Own w B 5 1 vn D.now.length (bytesV D.now)
  apart : ∀ k, vk.ownBlock = some k → vn.ownBlock ≠ some k
  pend : Own w B 111 1 vp D.pend.length vs
  chs : ChVs w D.pend vs
  keep : Own w B 4 1 vq D.keep.length (boolsV D.keep)
def DevAt (w : World) (B b : Nat) (D : Dv) : Prop := ∃ vk vn vp vq vs, Dev w B b D vk vn vp vq vs
def dty (T : TypeId) : Bool := T == 82 || T == 111 || T == 5
theorem DevAt.ext {w w' : World} {B b : Nat} {D : Dv} (h : DevAt w B b D) (hx : Ext w w') : DevAt w' B b D := by
  obtain ⟨vk, vn, vp, vq, vs, h1, h2, h3, h4, h5, h6, h7, h8⟩ := h
  exact ⟨vk, vn, vp, vq, vs, h1, h2.ext hx, h3.ext hx, h4.ext hx, h5, h6.ext hx, h7.tm (Tm.of_ext hx 0 (fun _ => false)) rfl rfl, h8.ext hx⟩
theorem DevAt.lt {w : World} {B b : Nat} {D : Dv} (h : DevAt w B b D) : B ≤ b ∧ b < w.heap.size := by
  obtain ⟨vk, vn, vp, vq, vs, h⟩ := h
  exact ⟨h.lo, h.cells.lt⟩
section
variable {w : World} {B b : Nat} {D : Dv}
theorem none_d (h : DevAt w B b D) (hD : D.Ok) : Ret Tryd.prog 33 [.pointer (some ⟨b, 0, none⟩)] w fun v w' => v = .bool false ∧ w = w' := by
  obtain ⟨vk, vn, vp, vq, vs, h⟩ := h
  have hc := hD.cap
  refine Ret.enter Tryd.func33 rfl Tryd.ntmps33 (by kernel_rfl) rfl ?_
  refine KW.seq (KW.region ?_)
  refine OW.val rfl rfl (EX.assign rfl) ?_
  refine OW.nil ?_
  refine KW.seq ?_
  refine KW.region ?_
  refine OW.val rfl rfl (EX.move rfl) ?_
  refine OW.val rfl rfl (by first | exact EX.eqlP1 Tryd.underlying31 rfl rfl | exact EX.eqlP0 Tryd.underlying31 rfl rfl) ?_
  refine OW.val rfl rfl (EX.move rfl) ?_
  refine OW.val rfl rfl (EX.move rfl) ?_
  refine OW.val rfl rfl (EX.nilCheck rfl) ?_
  refine OW.val rfl rfl (EX.fieldAddr (off := 0) Tryd.underlying82 rfl rfl ti3 rfl rfl) ?_
  refine OW.val rfl rfl (EX.load Tryd.underlying3 rfl rfl (h.cells.cell_of rfl)) ?_
  refine OW.val rfl rfl (by first | exact EX.eqlN (b := 0) rfl rfl | exact EX.eqlZ rfl rfl) ?_
  refine OW.val rfl rfl (EX.pickF rfl rfl) ?_
  refine OW.val rfl rfl (EX.assign rfl) ?_
  refine OW.nil ?_
  refine KW.as 2 (.bool false) rfl (congrArg Value.bool (decide_eq_false (by omega))) ?_
  refine KW.ret (ret1 rfl rfl ?_)
  exact ⟨by simp, rfl⟩
theorem alive_d (h : DevAt w B b D) (hD : D.Ok) : Ret Tryd.prog 31 [.pointer (some ⟨b, 0, none⟩)] w fun v w' => v = .int .i64 ((if D.dead then 190 else 0 : Nat) : Int) ∧ w = w' := by
  have h0 := h
  obtain ⟨vk, vn, vp, vq, vs, h⟩ := h
  refine Ret.enter Tryd.func31 rfl Tryd.ntmps31 (by kernel_rfl) rfl ?_
  refine KW.seq (KW.region ?_)
  refine OW.val rfl rfl (EX.assign rfl) ?_
  refine OW.nil ?_
  refine KW.seq (KW.block (KW.seq (KW.region ?_)))
  refine OW.val rfl rfl (EX.move rfl) ?_
  refine OW.call rfl rfl rfl (none_d h0 hD) ?_
  rintro _ _ ⟨rfl, rfl⟩
  refine OW.val rfl rfl (EX.assign rfl) ?_
  refine OW.nil ?_
  refine KW.condF rfl (KW.seq (KW.region ?_))
  refine OW.val rfl rfl (EX.move rfl) ?_
  refine OW.val rfl rfl (EX.nilCheck rfl) ?_
  refine OW.val rfl rfl (EX.fieldAddr (off := 6) Tryd.underlying82 rfl rfl ti4 rfl rfl) ?_
  refine OW.val rfl rfl (EX.load Tryd.underlying4 rfl rfl (h.cells.cell_of rfl)) ?_
  refine OW.val rfl rfl (EX.assign rfl) ?_
  refine OW.nil ?_
  refine KW.cond rfl (fun hd => ?_) (fun hd => ?_)
  · refine KW.seq (KW.region ?_)
    refine OW.val rfl rfl (EX.assign rfl) ?_
    refine OW.nil ?_
    refine KW.ret (ret1 rfl rfl ?_)
    rw [hd]
    exact ⟨rfl, rfl⟩
  · refine KW.skip (KW.leave (KW.seq (KW.region ?_)))
    refine OW.val rfl rfl (EX.assign rfl) ?_
    refine OW.nil ?_
    refine KW.ret (ret1 rfl rfl ?_)
    rw [hd]
    exact ⟨rfl, rfl⟩
end
theorem chV_call {w : World} {c : Ch} {v : Value} (h : ChV w c v) {cap : Nat} (hok : c.ok cap) (hcap : cap ≤ 4096) {u : Value} {all : List UInt8} (hown : Own w 0 5 1 u all.length (bytesV all)) (hl : all.length ≤ 100000000) :
    ∃ (f : FuncId) (cs : List Value), v = .func (.func f) (List.toArray []) (List.toArray cs) ∧ Ret Tryd.prog f ([u] ++ cs) w fun v' w' => Chd w w' u v' (c.ap all) := by
  cases c with
  | write i s =>
    obtain ⟨bi, bs, rfl, h1, h2⟩ := h
    exact ⟨_, _, rfl, write1_c bi bs i s u all w h1 h2 hown (by have := hok.1; omega) hok.2 (by omega)⟩
  | cut n =>
    exact (h : False).elim
section
variable {w w' : World} {B b : Nat} {D D' : Dv} {vk vn vp vq vk' vn' vp' vq' : Value} {vs vs' : List Value}
theorem Dev.after {l0 : List Value} (hlo : B ≤ b) (h0 : Bk w b 82 l0) (hm : Mo w w' [b])
    (hb : Bk w' b 82 [.int .i64 (D'.cap : Int), vk', vn', vp', .int .i64 (D'.at_ : Int), vq', .bool D'.dead, .int .i64 (D'.calls : Int)])
    (hk : Own w B 5 1 vk' D'.kept.length (bytesV D'.kept)) (hn : Own w B 5 1 vn' D'.now.length (bytesV D'.now)) (ha : ∀ k, vk'.ownBlock = some k → vn'.ownBlock ≠ some k)
    (hp : Own w B 111 1 vp' D'.pend.length vs') (hc : ChVs w D'.pend vs') (hq : Own w B 4 1 vq' D'.keep.length (boolsV D'.keep)) : Dev w' B b D' vk' vn' vp' vq' vs' := by
  have tm := Tm.set h0 hm hlo
  exact ⟨hlo, hb, tm.own hk rfl, tm.own hn rfl, ha, tm.own hp rfl, hc.tm tm rfl rfl, tm.own hq rfl⟩
theorem Dev.tmD {l0 : List Value} (hlo : B ≤ b) (h0 : Bk w b 82 l0) (hm : Mo w w' [b]) : Tm w w' B dty := (Tm.set h0 hm hlo).mono fun T hT => by simp at hT; simp [dty, hT]
theorem Dev.ext (h : Dev w B b D vk vn vp vq vs) (hx : Ext w w') : Dev w' B b D vk vn vp vq vs :=
  ⟨h.lo, h.cells.ext hx, h.kept.ext hx, h.now.ext hx, h.apart, h.pend.ext hx, h.chs.tm (Tm.of_ext hx 0 (fun _ => false)) rfl rfl, h.keep.ext hx⟩
end
theorem Own.noneEmpty {w : World} {B T n c : Nat} {xs : List Value} {A : Option Addr} (h : Own w B T 1 (.slice A n c) n xs) : A = none → xs = [] := by
  rintro rfl
  rcases h.2 with ⟨e, rfl⟩ | ⟨g, cap, rest, e, _⟩
  · exact List.eq_nil_of_length_eq_zero (by simpa using h.1)
  · simp at e
theorem does_go {D : Dv} {c : Option Ch} (h : (D.pushed c).at_ ≠ 1) : D.does c = (Dv.done { D.pushed c with at_ := (D.pushed c).at_ - 1 } c, 0) := by
  unfold Dv.does
  simp only
  split
  · rename_i h0
    have : ({ D.pushed c with at_ := (D.pushed c).at_ - 1 } : Dv) = D.pushed c := by
      generalize D.pushed c = E at h0
      cases E
      simp at h0
      simp [h0]
    rw [this]
  · first | rfl | rw [if_neg h]
theorem does_fall {D : Dv} {c : Option Ch} (h : (D.pushed c).at_ = 1) : D.does c = ({ D.pushed c with kept := fallen (D.pushed c).pend (D.pushed c).keep (D.pushed c).kept, now := fallen (D.pushed c).pend (D.pushed c).keep (D.pushed c).kept, pend := [], at_ := 0, keep := [], dead := true }, 190) := by
  unfold Dv.does
  simp only
  rw [if_neg (by omega), if_pos h]
theorem fallen_step {cs : List Ch} {bs : List Bool} {all : List UInt8} {k : Nat} (h : k < cs.length) : fallen (cs.take (k + 1)) bs all = if bs.getD k false then (cs[k]).ap (fallen (cs.take k) bs all) else fallen (cs.take k) bs all := by
  have e : cs.take (k + 1) = cs.take k ++ [cs[k]] := by rw [List.take_add_one, List.getElem?_eq_getElem h]; rfl
  rw [e, fallen_snoc, List.length_take, Nat.min_eq_left (by omega)]
theorem Dev.at_ {w : World} {B b : Nat} {D : Dv} {vk vn vp vq : Value} {vs : List Value} (h : Dev w B b D vk vn vp vq vs) : DevAt w B b D := ⟨_, _, _, _, _, h⟩
def Kp (w w' : World) (b : Nat) (v1 v2 v3 : Value) : Prop := ∀ g T l, g ≠ b → v1.ownBlock ≠ some g → v2.ownBlock ≠ some g → v3.ownBlock ≠ some g → Bk w g T l → Bk w' g T l
theorem Kp.refl (w : World) (b : Nat) (v1 v2 v3 : Value) : Kp w w b v1 v2 v3 := fun _ _ _ _ _ _ _ h => h
theorem Kp.ext {w w1 w2 : World} {b : Nat} {v1 v2 v3 : Value} (h : Kp w w1 b v1 v2 v3) (hx : Ext w1 w2) : Kp w w2 b v1 v2 v3 := fun g T l a1 a2 a3 a4 hb => (h g T l a1 a2 a3 a4 hb).ext hx
theorem Kp.mo {w w1 w2 : World} {b : Nat} {v1 v2 v3 : Value} {S : List Nat} (h : Kp w w1 b v1 v2 v3) (hm : Mo w1 w2 S) (hS : ∀ k ∈ S, k = b ∨ v1.ownBlock = some k ∨ v2.ownBlock = some k ∨ v3.ownBlock = some k ∨ w.heap.size ≤ k) : Kp w w2 b v1 v2 v3 := fun g T l a1 a2 a3 a4 hb => (h g T l a1 a2 a3 a4 hb).mo hm (fun q => by
  rcases hS g q with e | e | e | e | e
  · exact a1 e
  · exact a2 e
  · exact a3 e
  · exact a4 e
  · exact absurd hb.lt (by omega))
theorem Kp.b {w w1 w2 : World} {b : Nat} {v1 v2 v3 : Value} (h : Kp w w1 b v1 v2 v3) (hm : Mo w1 w2 [b]) : Kp w w2 b v1 v2 v3 := h.mo hm (by simp)
theorem does_x {w : World} {B b : Nat} {D : Dv} {vk vn vp vq : Value} {vs : List Value} (h : Dev w B b D vk vn vp vq vs) (hD : D.Ok) (vc : Value) (c : Option Ch) (hcn : c = none → vc = .nilFunc) (hcs : ∀ d, c = some d → ChV w d vc ∧ d.ok D.cap)
    (hcalls : D.calls ≤ 1000000) (hpl : D.pend.length ≤ 1000000) (hat : D.at_ ≤ 9223372036854775807) (hkl : D.keep.length ≤ 140737488355328) :
    Ret Tryd.prog 40 [.pointer (some ⟨b, 0, none⟩), vc] w fun v w' => v = .int .i64 (((D.does c).2 : Nat) : Int) ∧ DevAt w' B b (D.does c).1 ∧ Tm w w' B dty ∧ Kp w w' b vk vn vp := by
  have h0 := h.at_
  have hq : vc = .nilFunc ∧ c.isSome = false ∨ ∃ f fi ca, vc = .func f fi ca ∧ c.isSome = true := by
    cases c with
    | none => exact .inl ⟨hcn rfl, rfl⟩
    | some d =>
      obtain ⟨h1, _⟩ := hcs d rfl
      cases d with
      | write i s => obtain ⟨bi, bs, e, _⟩ := h1; exact .inr ⟨_, _, _, e, rfl⟩
      | cut n => exact (h1 : False).elim
  have hE := pushed_ok hD (fun d hd => (hcs d hd).2)
  have hlt := h0.lt
  have hvl := h.chs.len
  refine Ret.enter Tryd.func40 rfl Tryd.ntmps40 (by kernel_rfl) rfl ?_
  refine KW.seq (KW.region ?_)
  refine OW.val rfl rfl (EX.assign rfl) ?_
  refine OW.nil ?_
  refine KW.seq (KW.seq (KW.region ?_))
  refine OW.val rfl rfl (EX.move rfl) ?_
  refine OW.val rfl rfl (EX.neqFb Tryd.underlying111 rfl rfl hq) ?_
  refine OW.nil ?_
  refine KW.cut3 (fun (w1 : World) (vp1 : Value) (vs1 : List Value) => Dev w1 B b (D.pushed c) vk vn vp1 vq vs1 ∧ Tm w w1 B dty ∧ Kp w w1 b vk vn vp) (fun (w1 : World) (vp1 : Value) (vs1 : List Value) => [(0, .pointer (some ⟨b, 0, none⟩)), (1, vc)]) (fun (w1 : World) (vp1 : Value) (vs1 : List Value) => w1) ?_ ?_
  · refine KW.cond rfl (fun hc => ?_) (fun hc => ?_)
    · obtain ⟨ch, rfl⟩ := Option.isSome_iff_exists.1 hc
      have hv := (hcs ch rfl).1
      have hv1 := hv.one
      refine KW.region ?_
      refine OW.val rfl rfl (EX.move rfl) ?_
      refine OW.val rfl rfl (EX.move rfl) ?_
      refine OW.val rfl rfl (EX.nilCheck rfl) ?_
      refine OW.val rfl rfl (EX.fieldAddr (off := 3) Tryd.underlying82 rfl rfl ti80 rfl rfl) ?_
      refine OW.val rfl rfl (EX.load Tryd.underlying80 rfl rfl (h.cells.cell_of rfl)) ?_
      refine OW.val rfl rfl (EX.move rfl) ?_
      refine OW.buildB 1 rfl rfl Tryd.underlying80 ti111 rfl rfl rfl rfl (by first | rfl | (simp only [List.all_cons, List.all_nil, Bool.and_true, Bool.and_eq_true]; assumption)) (by decide) ?_
      rintro bq w2 hge hb2 hx2
      have h2 := h.ext hx2
      refine OW.append 0 rfl rfl Tryd.underlying80 ti111 rfl (by decide) rfl rfl ((h2.pend.more (Nat.zero_le _))) (Src.of_sl Tryd.underlying80 hb2.sl (by simp) (by simp [hv1]) (by decide)) (by simp only [maxLen]; omega) (by omega) (Nat.zero_le _) ?_
      rintro v3 w3 hown3 hg3 hv3
      refine OW.val rfl rfl (EX.nilCheck rfl) ?_
      refine OW.val rfl rfl (EX.fieldAddr (off := 3) Tryd.underlying82 rfl rfl ti80 rfl rfl) ?_
      have t3 : Tm w2 w3 B (fun U => U == 111) := Tm.grown h2.pend hg3
      have hd3 := t3.bk h2.cells rfl
      have hown3' : Own w3 B 111 1 v3 (D.pend.length + 1) (vs ++ [vc]) := hown3.base (by
        intro k hk
        rcases hv3 with e | e
        · exact (h2.pend.lt k (by rw [← e]; exact hk)).1
        · rw [e] at hk; injection hk with hk; have := hx2.size; omega)
      have hv31 := hown3.one
      refine OW.storeB rfl ti80 rfl rfl (by first | rfl | assumption | exact Own.one (by assumption)) (hd3) (by simp) ?_
      rintro w4 hb4 hm4
      refine OW.nil ?_
      refine KW.meet3 (w4) (v3) (vs ++ [vc]) ⟨rfl, rfl, trivial⟩ rfl ?_
      refine ⟨Dev.after (D' := D.pushed (some ch)) h.lo hd3 hm4 hb4 (t3.own h2.kept rfl) (t3.own h2.now rfl) h.apart ?_ ((h2.chs.tm t3 rfl rfl).snoc ((hv.tm (Tm.of_ext hx2 0 (fun _ => false)) rfl rfl).tm t3 rfl rfl)) (t3.own h2.keep rfl), ?_, (((Kp.refl w b vk vn vp).ext hx2).mo (Mo.grown hg3 (fun k e => by rw [e]; simp)) (fun k hk => .inr (.inr (.inr (.inl (Option.mem_toList.1 hk)))))).b hm4⟩
      · have : (D.pushed (some ch)).pend.length = D.pend.length + 1 := by simp [Dv.pushed]
        rw [this]; exact hown3'
      · exact ((Tm.of_ext hx2 B dty).trans (t3.mono fun T hT => by simp at hT; simp [dty, hT])).trans (Dev.tmD h.lo hd3 hm4)
    · obtain rfl : c = none := by cases c; rfl; simp at hc
      refine KW.skip ?_
      refine KW.meet3 (w) (vp) (vs) ⟨rfl, rfl, trivial⟩ rfl ?_
      exact ⟨h, Tm.refl _ _ _, Kp.refl _ _ _ _ _⟩
  · rintro w1 vp1 vs1 ⟨h1, ht1, kp1⟩
    generalize hEd : D.pushed c = E at h1 hE
    have hEc : E.cap = D.cap := by rw [← hEd, pushed_cap]
    have hEat : E.at_ = D.at_ := by rw [← hEd]; cases c <;> rfl
    have hEk : E.keep = D.keep := by rw [← hEd]; cases c <;> rfl
    have hEl : E.pend.length ≤ 1000001 := by
      rw [← hEd]
      cases c with
      | none => exact Nat.le_succ_of_le hpl
      | some c => simp [Dv.pushed]; omega
    have hvl1 := h1.chs.len
    refine KW.seq (KW.seq (KW.region ?_))
    refine OW.val rfl rfl (EX.move rfl) ?_
    refine OW.val rfl rfl (EX.nilCheck rfl) ?_
    refine OW.val rfl rfl (EX.fieldAddr (off := 4) Tryd.underlying82 rfl rfl ti39 rfl rfl) ?_
    refine OW.val rfl rfl (EX.fieldAddr (off := 0) Tryd.underlying39 rfl rfl ti3 rfl rfl) ?_
    refine OW.val rfl rfl (EX.load Tryd.underlying3 rfl rfl (h1.cells.cell_of rfl)) ?_
    refine OW.val rfl rfl (by first | exact EX.gtrN (b := 0) rfl rfl | exact EX.gtrZ rfl rfl) ?_
    refine OW.nil ?_
    refine KW.cut1 (fun (w2 : World) => Dev w2 B b { E with at_ := E.at_ - 1 } vk vn vp1 vq vs1 ∧ Tm w w2 B dty ∧ E.at_ ≠ 1 ∧ Kp w w2 b vk vn vp) (fun (w2 : World) => [(0, .pointer (some ⟨b, 0, none⟩)), (1, vc)]) (fun (w2 : World) => w2) ?_ ?_
    · refine KW.condD rfl (fun hat1 => ?_) (fun hat1 => ?_)
      · refine KW.seq (KW.region ?_)
        refine OW.val rfl rfl (EX.move rfl) ?_
        refine OW.val rfl rfl (EX.nilCheck rfl) ?_
        refine OW.val rfl rfl (EX.fieldAddr (off := 4) Tryd.underlying82 rfl rfl ti39 rfl rfl) ?_
        refine OW.val rfl rfl (EX.fieldAddr (off := 0) Tryd.underlying39 rfl rfl ti3 rfl rfl) ?_
        refine OW.val rfl rfl (EX.load Tryd.underlying3 rfl rfl (h1.cells.cell_of rfl)) ?_
        refine OW.val rfl rfl (by first | exact EX.subN (b := 1) (m := 9223372036854775807) rfl rfl rfl (by omega) | exact EX.subZ (m := 9223372036854775807) rfl rfl rfl rfl (by omega)) ?_
        refine OW.val rfl rfl (EX.nilCheck rfl) ?_
        refine OW.val rfl rfl (EX.fieldAddr (off := 4) Tryd.underlying82 rfl rfl ti39 rfl rfl) ?_
        refine OW.val rfl rfl (EX.fieldAddr (off := 0) Tryd.underlying39 rfl rfl ti3 rfl rfl) ?_
        refine OW.storeB rfl ti3 rfl rfl (by first | rfl | assumption | exact Own.one (by assumption)) (h1.cells) (by simp) ?_
        rintro w2 hb2 hm2
        refine OW.nil ?_
        refine KW.seq (KW.region ?_)
        refine OW.val rfl rfl (EX.move rfl) ?_
        refine OW.val rfl rfl (EX.nilCheck rfl) ?_
        refine OW.val rfl rfl (EX.fieldAddr (off := 4) Tryd.underlying82 rfl rfl ti39 rfl rfl) ?_
        refine OW.val rfl rfl (EX.fieldAddr (off := 0) Tryd.underlying39 rfl rfl ti3 rfl rfl) ?_
        have h2 : Dev w2 B b { E with at_ := E.at_ - 1 } vk vn vp1 vq vs1 := Dev.after h1.lo h1.cells hm2 hb2 h1.kept h1.now h1.apart h1.pend h1.chs h1.keep
        have ht2 : Tm w w2 B dty := ht1.trans (Dev.tmD h1.lo h1.cells hm2)
        have kp2 := kp1.b hm2
        refine OW.val rfl rfl (EX.load Tryd.underlying3 rfl rfl (h2.cells.cell_of rfl)) ?_
        refine OW.val rfl rfl (by first | exact EX.eqlN (b := 0) rfl rfl | exact EX.eqlZ rfl rfl) ?_
        refine OW.nil ?_
        refine KW.condD rfl (fun hz => ?_) (fun hz => ?_)
        · have hz1 : E.at_ = 1 := by have : E.at_ - 1 = 0 := hz; omega
          obtain ⟨A, cp, rfl, hcp, hslp⟩ := h2.pend.slice
          obtain ⟨Aq, cq, rfl, hcq, hslq⟩ := h2.keep.slice
          have hkk : E.keep.length ≤ 140737488355328 := by rw [hEk]; exact hkl
          refine KW.seq (KW.seq (KW.region ?_))
          refine OW.val rfl rfl (EX.move rfl) ?_
          refine OW.val rfl rfl (EX.nilCheck rfl) ?_
          refine OW.val rfl rfl (EX.fieldAddr (off := 3) Tryd.underlying82 rfl rfl ti80 rfl rfl) ?_
          refine OW.val rfl rfl (EX.load Tryd.underlying80 rfl rfl (h2.cells.cell_of rfl)) ?_
          refine OW.val rfl rfl (EX.lenA Tryd.underlying80 rfl) ?_
          refine OW.val rfl rfl (EX.move rfl) ?_
          refine OW.nil ?_
          refine KW.block ?_
          refine KW.loop4 (fun (k : Nat) (vkr : Value) (all : List UInt8) (wr : World) => k ≤ E.pend.length ∧ all = fallen (E.pend.take k) E.keep E.kept ∧ all.length ≤ 512 * E.cap ∧ Dev wr B b { E with at_ := 0, kept := all } vkr vn (.slice A E.pend.length cp) (.slice Aq E.keep.length cq) vs1 ∧ Tm w wr B dty ∧ Kp w wr b vk vn vp ∧ (∀ k, vkr.ownBlock = some k → vk.ownBlock = some k ∨ w.heap.size ≤ k)) (fun (k : Nat) (vkr : Value) (all : List UInt8) (wr : World) => [(0, .pointer (some ⟨b, 0, none⟩)), (43, .slice A E.pend.length cp), (44, .int .i64 ((E.pend.length : Nat) : Int)), (45, .int .i64 ((k : Nat) : Int))]) (fun (k : Nat) (vkr : Value) (all : List UInt8) (wr : World) => wr) (fun (k : Nat) (vkr : Value) (all : List UInt8) (wr : World) => E.pend.length - k) (0) (vk) (E.kept) (w2) ⟨rfl, rfl, rfl, rfl, trivial⟩ rfl ?_ ?_
          · refine ⟨by omega, by simp [fallen], hE.kept, ?_, ht2, kp2, fun k hk => .inl hk⟩
            have : E.at_ - 1 = 0 := by omega
            rw [← this]
            exact h2
          · rintro k vkr all wr ⟨hk, hall, hal, hd, htr, kpr, hvk⟩
            have hcapE := hE.cap
            refine KW.seq (KW.region ?_)
            refine OW.val rfl rfl (by first | exact EX.lssN rfl rfl | exact EX.lssZ rfl rfl) ?_
            refine OW.nil ?_
            refine KW.seq ?_
            refine KW.condD rfl (fun hk1 => ?_) (fun hk1 => ?_)
            · obtain ⟨v, hv, hcv⟩ := hd.chs.at_ k hk1
              have hone := hcv.one
              obtain ⟨g, cap', rest, e, hgB, hg, hgl, hgn, hgm⟩ := hd.pend.blk (by rw [hvl1]; omega)
              simp only [Value.slice.injEq, true_and] at e
              obtain ⟨rfl, rfl⟩ := e
              have hvg : (vs1 ++ rest)[k]? = some v := by rw [List.getElem?_append_left (by rw [hvl1]; exact hk1)]; exact hv
              have hstep := fallen_step (bs := E.keep) (all := E.kept) hk1
              rw [← hall] at hstep
              refine KW.skip (KW.seq (KW.block (KW.seq (KW.region ?_))))
              refine OW.val rfl rfl (EX.move rfl) ?_
              refine OW.val rfl rfl (by first | exact EX.indexAddrS0 Tryd.underlying80 ti111 rfl rfl (by omega) | exact EX.indexAddrS1 Tryd.underlying80 ti111 rfl rfl (by omega)) ?_
              refine OW.val rfl rfl (EX.load Tryd.underlying111 rfl rfl (hg.cell_of hvg)) ?_
              refine OW.val rfl rfl (EX.assign rfl) ?_
              refine OW.val rfl rfl (EX.assign rfl) ?_
              refine OW.nil ?_
              refine KW.seq ?_
              refine KW.region ?_
              refine OW.val rfl rfl (EX.move rfl) ?_
              refine OW.val rfl rfl (EX.move rfl) ?_
              refine OW.val rfl rfl (EX.nilCheck rfl) ?_
              refine OW.val rfl rfl (EX.fieldAddr (off := 4) Tryd.underlying82 rfl rfl ti39 rfl rfl) ?_
              refine OW.val rfl rfl (EX.fieldAddr (off := 1) Tryd.underlying39 rfl rfl ti37 rfl rfl) ?_
              refine OW.val rfl rfl (EX.load Tryd.underlying37 rfl rfl (hd.cells.cell_of rfl)) ?_
              refine OW.val rfl rfl (EX.lenA Tryd.underlying37 rfl) ?_
              refine OW.val rfl rfl (by first | exact EX.lssN rfl rfl | exact EX.lssZ rfl rfl) ?_
              refine OW.val rfl rfl (EX.move rfl) ?_
              refine OW.splitD 58 rfl (fun hk2 => ?_) (fun hk2 => ?_)
              · have hgd : E.keep.getD k false = E.keep[k] := by simp [List.getD, List.getElem?_eq_getElem hk2]
                rw [hgd] at hstep
                obtain ⟨gq, capq, restq, eq, hgqB, hgq, _, _, _⟩ := hd.keep.blk (by rw [boolsV_length]; exact Nat.lt_of_le_of_lt (Nat.zero_le _) hk2)
                simp only [Value.slice.injEq, true_and] at eq
                obtain ⟨rfl, rfl⟩ := eq
                have hbg : (boolsV E.keep ++ restq)[k]? = some (.bool E.keep[k]) := by rw [List.getElem?_append_left (by rw [boolsV_length]; exact hk2)]; simp [boolsV, hk2]
                refine OW.val rfl rfl (EX.move rfl) ?_
                refine OW.val rfl rfl (EX.nilCheck rfl) ?_
                refine OW.val rfl rfl (EX.fieldAddr (off := 4) Tryd.underlying82 rfl rfl ti39 rfl rfl) ?_
                refine OW.val rfl rfl (EX.fieldAddr (off := 1) Tryd.underlying39 rfl rfl ti37 rfl rfl) ?_
                refine OW.val rfl rfl (EX.load Tryd.underlying37 rfl rfl (hd.cells.cell_of rfl)) ?_
                refine OW.val rfl rfl (EX.move rfl) ?_
                refine OW.val rfl rfl (by first | exact EX.indexAddrS0 Tryd.underlying37 ti4 rfl rfl (by omega) | exact EX.indexAddrS1 Tryd.underlying37 ti4 rfl rfl (by omega)) ?_
                refine OW.val rfl rfl (EX.load Tryd.underlying4 rfl rfl (hgq.cell_of hbg)) ?_
                refine OW.val rfl rfl (EX.pickT rfl rfl) ?_
                refine OW.nil ?_
                refine KW.cond rfl (fun hb => ?_) (fun hb => ?_)
                · rw [if_pos hb] at hstep
                  obtain ⟨f, cs, rfl, hret⟩ := chV_call hcv (hE.pend _ (List.getElem_mem hk1)) hcapE.2 (hd.kept.more (Nat.zero_le _)) (by show all.length ≤ 100000000; omega)
                  refine KW.region ?_
                  refine OW.val rfl rfl (EX.move rfl) ?_
                  refine OW.val rfl rfl (EX.move rfl) ?_
                  refine OW.val rfl rfl (EX.move rfl) ?_
                  refine OW.val rfl rfl (EX.nilCheck rfl) ?_
                  refine OW.val rfl rfl (EX.fieldAddr (off := 1) Tryd.underlying82 rfl rfl ti45 rfl rfl) ?_
                  refine OW.val rfl rfl (EX.load Tryd.underlying45 rfl rfl (hd.cells.cell_of rfl)) ?_
                  refine OW.callV rfl rfl rfl rfl rfl (hret) ?_
                  rintro v5 w5 ⟨hown5, hmo5, hbl5⟩
                  refine OW.val rfl rfl (EX.nilCheck rfl) ?_
                  refine OW.val rfl rfl (EX.fieldAddr (off := 1) Tryd.underlying82 rfl rfl ti45 rfl rfl) ?_
                  have t5 : Tm wr w5 B (fun U => U == 5) := Tm.ownMo hd.kept hmo5
                  have hone5 := hown5.one
                  have hnow5 := hd.now.mo hmo5 (fun k hk hkS => hd.apart k (Option.mem_toList.1 hkS) hk)
                  have hap5 : ∀ k, v5.ownBlock = some k → vn.ownBlock ≠ some k := by
                    intro k hk hk'
                    rcases hbl5 with e | ⟨g', e, hge⟩
                    · exact hd.apart k (by rw [← e]; exact hk) hk'
                    · rw [e] at hk; injection hk with hk; have := (hd.now.lt k hk').2; omega
                  have hbase5 : Own w5 B 5 1 v5 ((E.pend[k]).ap all).length (bytesV ((E.pend[k]).ap all)) := hown5.base (by
                    intro k hk
                    rcases hbl5 with e | ⟨g', e, hge⟩
                    · exact (hd.kept.lt k (by rw [← e]; exact hk)).1
                    · rw [e] at hk; injection hk with hk; have := hd.cells.lt; have := hd.lo; omega)
                  refine OW.storeB rfl ti45 rfl rfl (by first | rfl | assumption | exact Own.one (by assumption)) (t5.bk hd.cells rfl) (by simp) ?_
                  rintro w6 hb6 hm6
                  refine OW.nil ?_
                  refine KW.leave (KW.region ?_)
                  refine OW.val rfl rfl (by first | exact EX.addN (b := 1) (m := 9223372036854775807) rfl rfl rfl (by omega) | exact EX.addZ (m := 9223372036854775807) rfl rfl rfl rfl (by omega)) ?_
                  refine OW.val rfl rfl (EX.move rfl) ?_
                  refine OW.nil ?_
                  refine KW.back4 (k + 1) (v5) ((E.pend[k]).ap all) (w6) ⟨rfl, rfl, rfl, rfl, trivial⟩ rfl ?_ (by omega)
                  refine ⟨by omega, hstep.symm, ap_length (hE.pend _ (List.getElem_mem hk1)) hal, ?_, ?_, (kpr.mo hmo5 (fun k hk => by
                    rcases hvk k (Option.mem_toList.1 hk) with e | e
                    · exact .inr (.inl e)
                    · exact .inr (.inr (.inr (.inr e))))).b hm6, fun k hk => by
                    rcases hbl5 with e | ⟨g', e, hge⟩
                    · exact hvk k (by rw [← e]; exact hk)
                    · rw [e] at hk; injection hk with hk; right; have q := htr.size; have q2 := hge; omega⟩
                  · exact Dev.after (D' := { E with at_ := 0, kept := (E.pend[k]).ap all }) hd.lo (t5.bk hd.cells rfl) hm6 hb6 hbase5 hnow5 hap5 (t5.own hd.pend rfl) (hd.chs.tm t5 rfl rfl) (t5.own hd.keep rfl)
                  · exact (htr.trans (t5.mono fun T hT => by simp at hT; simp [dty, hT])).trans (Dev.tmD hd.lo (t5.bk hd.cells rfl) hm6)
                · rw [if_neg (by simp [hb])] at hstep
                  refine KW.skip (KW.leave (KW.region ?_))
                  refine OW.val rfl rfl (by first | exact EX.addN (b := 1) (m := 9223372036854775807) rfl rfl rfl (by omega) | exact EX.addZ (m := 9223372036854775807) rfl rfl rfl rfl (by omega)) ?_
                  refine OW.val rfl rfl (EX.move rfl) ?_
                  refine OW.nil ?_
                  refine KW.back4 (k + 1) (vkr) (all) (wr) ⟨rfl, rfl, rfl, rfl, trivial⟩ rfl ?_ (by omega)
                  exact ⟨by omega, hstep.symm, hal, hd, htr, kpr, hvk⟩
              · have hgd : E.keep.getD k false = false := by simp [List.getD, List.getElem?_eq_none (Nat.le_of_not_lt hk2)]
                rw [hgd] at hstep
                refine OW.pass rfl rfl ?_
                refine OW.pass rfl rfl ?_
                refine OW.pass rfl rfl ?_
                refine OW.pass rfl rfl ?_
                refine OW.pass rfl rfl ?_
                refine OW.pass rfl rfl ?_
                refine OW.pass rfl rfl ?_
                refine OW.pass rfl rfl ?_
                refine OW.val rfl rfl (EX.pickF rfl rfl) ?_
                refine OW.nil ?_
                refine KW.condF rfl (KW.skip (KW.leave (KW.region ?_)))
                refine OW.val rfl rfl (by first | exact EX.addN (b := 1) (m := 9223372036854775807) rfl rfl rfl (by omega) | exact EX.addZ (m := 9223372036854775807) rfl rfl rfl rfl (by omega)) ?_
                refine OW.val rfl rfl (EX.move rfl) ?_
                refine OW.nil ?_
                refine KW.back4 (k + 1) (vkr) (all) (wr) ⟨rfl, rfl, rfl, rfl, trivial⟩ rfl ?_ (by omega)
                exact ⟨by omega, by rw [hstep]; rfl, hal, hd, htr, kpr, hvk⟩
            · obtain rfl : k = E.pend.length := by omega
              rw [List.take_length] at hall
              obtain ⟨Ak, ck, rfl, hck, hslk⟩ := hd.kept.slice
              have hclone := cloneB_c Ak ck (bytesV all) _ wr hslk hd.kept.noneEmpty bytesV_one (by rw [bytesV_length]; omega)
              rw [bytesV_length] at hclone
              refine KW.exit rfl (KW.seq (KW.region ?_))
              refine OW.val rfl rfl (EX.move rfl) ?_
              refine OW.val rfl rfl (EX.move rfl) ?_
              refine OW.val rfl rfl (EX.move rfl) ?_
              refine OW.val rfl rfl (EX.move rfl) ?_
              refine OW.val rfl rfl (EX.move rfl) ?_
              refine OW.val rfl rfl (EX.nilCheck rfl) ?_
              refine OW.val rfl rfl (EX.fieldAddr (off := 1) Tryd.underlying82 rfl rfl ti45 rfl rfl) ?_
              refine OW.val rfl rfl (EX.load Tryd.underlying45 rfl rfl (hd.cells.cell_of rfl)) ?_
              refine OW.call rfl rfl rfl (hclone) ?_
              rintro v7 w7 ⟨hown7, hx7⟩
              refine OW.val rfl rfl (EX.buildS (pl := [(0, 1), (1, 1)]) (ks := []) (is := []) (zs := [.int .i64 0, .slice none 0 0]) Tryd.underlying39 ti39 (by kernel_rfl) rfl rfl rfl (by first | rfl | (simp only [List.all_cons, List.all_nil, Bool.and_true, Bool.true_and, Bool.and_eq_true, Value.oneCell']; repeat (first | assumption | exact Own.one (by assumption) | constructor))) (by simp only [setAll, List.set_cons_zero, List.set_cons_succ]; rfl)) ?_
              refine OW.val rfl rfl (EX.nilCheck rfl) ?_
              refine OW.val rfl rfl (EX.fieldAddr (off := 2) Tryd.underlying82 rfl rfl ti45 rfl rfl) ?_
              have hd7 := hd.ext hx7
              have hone7 := hown7.one
              refine OW.storeB rfl ti45 rfl rfl (by first | rfl | assumption | exact Own.one (by assumption)) (hd7.cells) (by simp) ?_
              rintro w8 hb8 hm8
              refine OW.val rfl rfl (EX.nilCheck rfl) ?_
              refine OW.val rfl rfl (EX.fieldAddr (off := 3) Tryd.underlying82 rfl rfl ti80 rfl rfl) ?_
              refine OW.storeB rfl ti80 rfl rfl (by first | rfl | assumption | exact Own.one (by assumption)) (hb8) (by simp) ?_
              rintro w9 hb9 hm9
              refine OW.val rfl rfl (EX.nilCheck rfl) ?_
              refine OW.val rfl rfl (EX.fieldAddr (off := 4) Tryd.underlying82 rfl rfl ti39 rfl rfl) ?_
              refine OW.storeS rfl ti39 rfl rfl rfl (by first | rfl | (simp only [List.all_cons, List.all_nil, Bool.and_true, Bool.true_and, Bool.and_eq_true, Value.oneCell']; repeat (first | assumption | exact Own.one (by assumption) | constructor))) (hb9) (by simp) ?_
              rintro w10 hb10 hm10
              refine OW.val rfl rfl (EX.nilCheck rfl) ?_
              refine OW.val rfl rfl (EX.fieldAddr (off := 6) Tryd.underlying82 rfl rfl ti4 rfl rfl) ?_
              refine OW.storeB rfl ti4 rfl rfl (by first | rfl | assumption | exact Own.one (by assumption)) (hb10) (by simp) ?_
              rintro w11 hb11 hm11
              refine OW.nil ?_
              refine KW.seq (KW.region ?_)
              refine OW.val rfl rfl (EX.assign rfl) ?_
              refine OW.nil ?_
              refine KW.ret (ret1 rfl rfl ?_)
              have hmm : Mo w7 w11 [b] := ((hm8.trans hm9).trans hm10).trans hm11
              have hEall : all = fallen (D.pushed c).pend (D.pushed c).keep (D.pushed c).kept := by rw [hEd]; exact hall
              rw [does_fall (by rw [hEd]; exact hz1), hEd, ← hall]
              refine ⟨rfl, ⟨_, _, _, _, [], Dev.after (D' := { E with kept := all, now := all, pend := [], at_ := 0, keep := [], dead := true }) hd.lo hd7.cells hmm hb11 hd7.kept (hown7.base (fun k hk => by have := (hown7.lt k hk).1; have := hd.cells.lt; have := hd.lo; omega)) ?_ (Own.nil _ _ _ _) trivial (Own.nil _ _ _ _)⟩, ?_, (kpr.ext hx7).b hmm⟩
              · intro k hk hk'
                have q1 := (hd.kept.lt k hk).2
                have q2 := (hown7.lt k hk').1
                omega
              · exact (htr.trans (Tm.of_ext hx7 B dty)).trans (Dev.tmD hd.lo hd7.cells hmm)
        · refine KW.skip ?_
          refine KW.meet1 (w2) ⟨rfl, rfl, trivial⟩ rfl ?_
          have hz1 : ¬ E.at_ - 1 = 0 := hz
          exact ⟨h2, ht2, by omega, kp2⟩
      · refine KW.skip ?_
        refine KW.meet1 (w1) ⟨rfl, rfl, trivial⟩ rfl ?_
        have e0 : E.at_ = 0 := by omega
        refine ⟨?_, ht1, by omega, kp1⟩
        have : ({ E with at_ := E.at_ - 1 } : Dv) = E := by cases E; simp at e0; simp [e0]
        rw [this]
        exact h1
    · rintro w2 ⟨h2, ht2, hne1, kp2⟩
      have hcapE := hE.cap
      have hnowE := hE.now
      rw [does_go (by rw [hEd]; exact hne1), hEd]
      refine KW.seq (KW.seq (KW.region ?_))
      refine OW.val rfl rfl (EX.move rfl) ?_
      refine OW.val rfl rfl (EX.neqFb Tryd.underlying111 rfl rfl hq) ?_
      refine OW.nil ?_
      refine KW.cond rfl (fun hc => ?_) (fun hc => ?_)
      · obtain ⟨ch, rfl⟩ := Option.isSome_iff_exists.1 hc
        have hv2 : ChV w2 ch vc := (hcs ch rfl).1.tm ht2 rfl rfl
        have hok := (hcs ch rfl).2
        obtain ⟨f, cs, rfl, hret⟩ := chV_call hv2 hok hD.cap.2 (h2.now.more (Nat.zero_le _)) (by show E.now.length ≤ 100000000; omega)
        refine KW.region ?_
        refine OW.val rfl rfl (EX.move rfl) ?_
        refine OW.val rfl rfl (EX.move rfl) ?_
        refine OW.val rfl rfl (EX.move rfl) ?_
        refine OW.val rfl rfl (EX.nilCheck rfl) ?_
        refine OW.val rfl rfl (EX.fieldAddr (off := 2) Tryd.underlying82 rfl rfl ti45 rfl rfl) ?_
        refine OW.val rfl rfl (EX.load Tryd.underlying45 rfl rfl (h2.cells.cell_of rfl)) ?_
        refine OW.callV rfl rfl rfl rfl rfl (hret) ?_
        rintro v5 w5 ⟨hown5, hmo5, hbl5⟩
        refine OW.val rfl rfl (EX.nilCheck rfl) ?_
        refine OW.val rfl rfl (EX.fieldAddr (off := 2) Tryd.underlying82 rfl rfl ti45 rfl rfl) ?_
        have t5 : Tm w2 w5 B (fun U => U == 5) := Tm.ownMo h2.now hmo5
        have hone5 := hown5.one
        have hk5 := h2.kept.mo hmo5 (fun k hk hkS => h2.apart k hk (Option.mem_toList.1 hkS))
        have hap5 : ∀ k, vk.ownBlock = some k → v5.ownBlock ≠ some k := by
          intro k hk' hk
          rcases hbl5 with e | ⟨g', e, hge⟩
          · exact h2.apart k hk' (by rw [← e]; exact hk)
          · rw [e] at hk; injection hk with hk; have := (h2.kept.lt k hk').2; omega
        have hbase5 : Own w5 B 5 1 v5 (ch.ap E.now).length (bytesV (ch.ap E.now)) := hown5.base (by
          intro k hk
          rcases hbl5 with e | ⟨g', e, hge⟩
          · exact (h2.now.lt k (by rw [← e]; exact hk)).1
          · rw [e] at hk; injection hk with hk; have := h2.cells.lt; have := h2.lo; omega)
        refine OW.storeB rfl ti45 rfl rfl (by first | rfl | assumption | exact Own.one (by assumption)) (t5.bk h2.cells rfl) (by simp) ?_
        rintro w6 hb6 hm6
        refine OW.nil ?_
        refine KW.seq (KW.region ?_)
        refine OW.val rfl rfl (EX.move rfl) ?_
        refine OW.val rfl rfl (EX.nilCheck rfl) ?_
        refine OW.val rfl rfl (EX.fieldAddr (off := 7) Tryd.underlying82 rfl rfl ti3 rfl rfl) ?_
        have hEcalls : ({ E with at_ := E.at_ - 1 } : Dv).calls ≤ 1000000 := by show E.calls ≤ 1000000; rw [← hEd]; exact hcalls
        refine OW.val rfl rfl (EX.load Tryd.underlying3 rfl rfl (hb6.cell_of rfl)) ?_
        refine OW.val rfl rfl (by first | exact EX.addN (b := 1) (m := 9223372036854775807) rfl rfl rfl (by omega) | exact EX.addZ (m := 9223372036854775807) rfl rfl rfl rfl (by omega)) ?_
        refine OW.val rfl rfl (EX.nilCheck rfl) ?_
        refine OW.val rfl rfl (EX.fieldAddr (off := 7) Tryd.underlying82 rfl rfl ti3 rfl rfl) ?_
        refine OW.storeB rfl ti3 rfl rfl (by first | rfl | assumption | exact Own.one (by assumption)) (hb6) (by simp) ?_
        rintro w7 hb7 hm7
        refine OW.nil ?_
        refine KW.seq (KW.region ?_)
        refine OW.val rfl rfl (EX.assign rfl) ?_
        refine OW.nil ?_
        refine KW.ret (ret1 rfl rfl ?_)
        have hmm : Mo w5 w7 [b] := hm6.trans hm7
        refine ⟨rfl, ⟨_, _, _, _, _, Dev.after (D' := Dv.done { E with at_ := E.at_ - 1 } (some ch)) h2.lo (t5.bk h2.cells rfl) hmm hb7 hk5 hbase5 hap5 (t5.own h2.pend rfl) (h2.chs.tm t5 rfl rfl) (t5.own h2.keep rfl)⟩, ?_, (kp2.mo hmo5 (fun k hk => .inr (.inr (.inl (Option.mem_toList.1 hk))))).b hmm⟩
        exact (ht2.trans (t5.mono fun T hT => by simp at hT; simp [dty, hT])).trans (Dev.tmD h2.lo (t5.bk h2.cells rfl) hmm)
      · obtain rfl : c = none := by cases c; rfl; simp at hc
        obtain ⟨An, cn, rfl, hcn2, hsln⟩ := h2.now.slice
        have hclone := cloneB_c An cn (bytesV E.now) _ w2 hsln h2.now.noneEmpty bytesV_one (by rw [bytesV_length]; omega)
        rw [bytesV_length] at hclone
        have hEcalls : ({ E with at_ := E.at_ - 1 } : Dv).calls ≤ 1000000 := by show E.calls ≤ 1000000; rw [← hEd]; exact hcalls
        refine KW.region ?_
        refine OW.val rfl rfl (EX.move rfl) ?_
        refine OW.val rfl rfl (EX.move rfl) ?_
        refine OW.val rfl rfl (EX.move rfl) ?_
        refine OW.val rfl rfl (EX.nilCheck rfl) ?_
        refine OW.val rfl rfl (EX.fieldAddr (off := 2) Tryd.underlying82 rfl rfl ti45 rfl rfl) ?_
        refine OW.val rfl rfl (EX.load Tryd.underlying45 rfl rfl (h2.cells.cell_of rfl)) ?_
        refine OW.call rfl rfl rfl (hclone) ?_
        rintro v7 w7 ⟨hown7, hx7⟩
        refine OW.val rfl rfl (EX.nilCheck rfl) ?_
        refine OW.val rfl rfl (EX.fieldAddr (off := 1) Tryd.underlying82 rfl rfl ti45 rfl rfl) ?_
        have hd7 := h2.ext hx7
        have hone7 := hown7.one
        refine OW.storeB rfl ti45 rfl rfl (by first | rfl | assumption | exact Own.one (by assumption)) (hd7.cells) (by simp) ?_
        rintro w8 hb8 hm8
        refine OW.val rfl rfl (EX.nilCheck rfl) ?_
        refine OW.val rfl rfl (EX.fieldAddr (off := 3) Tryd.underlying82 rfl rfl ti80 rfl rfl) ?_
        refine OW.storeB rfl ti80 rfl rfl (by first | rfl | assumption | exact Own.one (by assumption)) (hb8) (by simp) ?_
        rintro w9 hb9 hm9
        refine OW.nil ?_
        refine KW.seq (KW.region ?_)
        refine OW.val rfl rfl (EX.move rfl) ?_
        refine OW.val rfl rfl (EX.nilCheck rfl) ?_
        refine OW.val rfl rfl (EX.fieldAddr (off := 7) Tryd.underlying82 rfl rfl ti3 rfl rfl) ?_
        refine OW.val rfl rfl (EX.load Tryd.underlying3 rfl rfl (hb9.cell_of rfl)) ?_
        refine OW.val rfl rfl (by first | exact EX.addN (b := 1) (m := 9223372036854775807) rfl rfl rfl (by omega) | exact EX.addZ (m := 9223372036854775807) rfl rfl rfl rfl (by omega)) ?_
        refine OW.val rfl rfl (EX.nilCheck rfl) ?_
        refine OW.val rfl rfl (EX.fieldAddr (off := 7) Tryd.underlying82 rfl rfl ti3 rfl rfl) ?_
        refine OW.storeB rfl ti3 rfl rfl (by first | rfl | assumption | exact Own.one (by assumption)) (hb9) (by simp) ?_
        rintro w10 hb10 hm10
        refine OW.nil ?_
        refine KW.seq (KW.region ?_)
        refine OW.val rfl rfl (EX.assign rfl) ?_
        refine OW.nil ?_
        refine KW.ret (ret1 rfl rfl ?_)
        have hmm : Mo w7 w10 [b] := (hm8.trans hm9).trans hm10
        refine ⟨rfl, ⟨_, _, _, _, [], Dev.after (D' := Dv.done { E with at_ := E.at_ - 1 } none) h2.lo hd7.cells hmm hb10 (hown7.base (fun k hk => by have := (hown7.lt k hk).1; have := h2.cells.lt; have := h2.lo; omega)) hd7.now ?_ (Own.nil _ _ _ _) trivial hd7.keep⟩, ?_, (kp2.ext hx7).b hmm⟩
        · intro k hk hk'
          have q1 := (h2.now.lt k hk').2
          have q2 := (hown7.lt k hk).1
          omega
        · exact (ht2.trans (Tm.of_ext hx7 B dty)).trans (Dev.tmD h2.lo hd7.cells hmm)
theorem does_c {w : World} {B b : Nat} {D : Dv} (h0 : DevAt w B b D) (hD : D.Ok) (vc : Value) (c : Option Ch) (hcn : c = none → vc = .nilFunc) (hcs : ∀ d, c = some d → ChV w d vc ∧ d.ok D.cap)
    (hcalls : D.calls ≤ 1000000) (hpl : D.pend.length ≤ 1000000) (hat : D.at_ ≤ 9223372036854775807) (hkl : D.keep.length ≤ 140737488355328) :
    Ret Tryd.prog 40 [.pointer (some ⟨b, 0, none⟩), vc] w fun v w' => v = .int .i64 (((D.does c).2 : Nat) : Int) ∧ DevAt w' B b (D.does c).1 ∧ Tm w w' B dty := by
  obtain ⟨vk, vn, vp, vq, vs, h⟩ := h0
  exact (does_x h hD vc c hcn hcs hcalls hpl hat hkl).mono fun _ _ q => ⟨q.1, q.2.1, q.2.2.1⟩
end Go.Proofs.YthgfdpcpbghkpaaDoor
namespace Go.Proofs.YthgfdpcpbghkpaaDoor
open Go.RowKit Dsk
def _root_.Go.Proofs.YthgfdpcpbghkpaaDoor.Dsk.Dv.write (D : Dv) (i : Int) (s : List UInt8) : Dv × Nat :=
  if D.dead then (D, 190) else if i < 0 ∨ (D.cap : Int) ≤ i then (D, 191) else if s.length ≠ 512 then (D, 2) else D.does (some (.write i.toNat s))
def _root_.Go.Proofs.YthgfdpcpbghkpaaDoor.Dsk.Dv.cut (D : Dv) (n : Int) : Dv × Nat :=
  if D.dead then (D, 190) else if n < 0 ∨ ((D.now.length / 512 : Nat) : Int) < n then (D, 191) else D.does (some (.cut n.toNat))
def _root_.Go.Proofs.YthgfdpcpbghkpaaDoor.Dsk.Dv.sync (D : Dv) : Dv × Nat := if D.dead then (D, 190) else D.does none
def _root_.Go.Proofs.YthgfdpcpbghkpaaDoor.Dsk.Dv.plan (D : Dv) (a : Int) (k : List Bool) : Dv × Nat :=
  if D.dead then (D, 190) else if a < 0 then (D, 2) else ({ D with at_ := a.toNat, keep := k }, 0)
section
variable {w : World} {B b : Nat} {D : Dv}
theorem len_d (h : DevAt w B b D) (hD : D.Ok) : Ret Tryd.prog 20 [.pointer (some ⟨b, 0, none⟩)] w fun v w' => v = .int .i64 ((D.now.length / 512 : Nat) : Int) ∧ w = w' := by
  have h0 := h
  obtain ⟨vk, vn, vp, vq, vs, h⟩ := h
  have q1 := hD.now
  have q2 := hD.cap
  obtain ⟨A, c, rfl, hc, hsl⟩ := h.now.slice
  refine Ret.enter Tryd.func20 rfl Tryd.ntmps20 (by kernel_rfl) rfl ?_
  refine KW.seq (KW.region ?_)
  refine OW.val rfl rfl (EX.assign rfl) ?_
  refine OW.nil ?_
  refine KW.seq (KW.seq (KW.region ?_))
  refine OW.val rfl rfl (EX.move rfl) ?_
  refine OW.call rfl rfl rfl (none_d h0 hD) ?_
  rintro _ _ ⟨rfl, rfl⟩
  refine OW.nil ?_
  refine KW.condF rfl (KW.skip (KW.seq (KW.region ?_)))
  refine OW.val rfl rfl (EX.move rfl) ?_
  refine OW.val rfl rfl (EX.nilCheck rfl) ?_
  refine OW.val rfl rfl (EX.fieldAddr (off := 2) Tryd.underlying82 rfl rfl ti45 rfl rfl) ?_
  refine OW.val rfl rfl (EX.load Tryd.underlying45 rfl rfl (h.cells.cell_of rfl)) ?_
  refine OW.val rfl rfl (EX.lenA Tryd.underlying45 rfl) ?_
  refine OW.val rfl rfl (EX.quoN (b := 512) (m := 9223372036854775807) rfl rfl rfl (by omega)) ?_
  refine OW.val rfl rfl (EX.assign rfl) ?_
  refine OW.nil ?_
  refine KW.ret (ret1 rfl rfl ?_)
  exact ⟨rfl, rfl⟩
theorem capacity_d (h : DevAt w B b D) (hD : D.Ok) : Ret Tryd.prog 24 [.pointer (some ⟨b, 0, none⟩)] w fun v w' => v = .int .i64 (D.cap : Int) ∧ w = w' := by
  have h0 := h
  obtain ⟨vk, vn, vp, vq, vs, h⟩ := h
  refine Ret.enter Tryd.func24 rfl Tryd.ntmps24 (by kernel_rfl) rfl ?_
  refine KW.seq (KW.region ?_)
  refine OW.val rfl rfl (EX.assign rfl) ?_
  refine OW.nil ?_
  refine KW.seq (KW.seq (KW.region ?_))
  refine OW.val rfl rfl (EX.move rfl) ?_
  refine OW.call rfl rfl rfl (none_d h0 hD) ?_
  rintro _ _ ⟨rfl, rfl⟩
  refine OW.nil ?_
  refine KW.condF rfl (KW.skip (KW.seq (KW.region ?_)))
  refine OW.val rfl rfl (EX.move rfl) ?_
  refine OW.val rfl rfl (EX.nilCheck rfl) ?_
  refine OW.val rfl rfl (EX.fieldAddr (off := 0) Tryd.underlying82 rfl rfl ti3 rfl rfl) ?_
  refine OW.val rfl rfl (EX.load Tryd.underlying3 rfl rfl (h.cells.cell_of rfl)) ?_
  refine OW.val rfl rfl (EX.assign rfl) ?_
  refine OW.nil ?_
  refine KW.ret (ret1 rfl rfl ?_)
  exact ⟨rfl, rfl⟩
theorem dead_d (h : DevAt w B b D) (hD : D.Ok) : Ret Tryd.prog 14 [.pointer (some ⟨b, 0, none⟩)] w fun v w' => v = .bool D.dead ∧ w = w' := by
  have h0 := h
  obtain ⟨vk, vn, vp, vq, vs, h⟩ := h
  refine Ret.enter Tryd.func14 rfl Tryd.ntmps14 (by kernel_rfl) rfl ?_
  refine KW.seq (KW.region ?_)
  refine OW.val rfl rfl (EX.assign rfl) ?_
  refine OW.nil ?_
  refine KW.seq ?_
  refine KW.region ?_
  refine OW.val rfl rfl (EX.move rfl) ?_
  refine OW.call rfl rfl rfl (none_d h0 hD) ?_
  rintro _ _ ⟨rfl, rfl⟩
  refine OW.val rfl rfl (by first | exact EX.notD rfl | exact EX.notB rfl) ?_
  refine OW.val rfl rfl (EX.move rfl) ?_
  refine OW.val rfl rfl (EX.move rfl) ?_
  refine OW.val rfl rfl (EX.nilCheck rfl) ?_
  refine OW.val rfl rfl (EX.fieldAddr (off := 6) Tryd.underlying82 rfl rfl ti4 rfl rfl) ?_
  refine OW.val rfl rfl (EX.load Tryd.underlying4 rfl rfl (h.cells.cell_of rfl)) ?_
  refine OW.val rfl rfl (EX.pickT rfl rfl) ?_
  refine OW.val rfl rfl (EX.assign rfl) ?_
  refine OW.nil ?_
  refine KW.ret (ret1 rfl rfl ?_)
  exact ⟨rfl, rfl⟩
theorem up_d (h : DevAt w B b D) (hD : D.Ok) : Ret Tryd.prog 15 [.pointer (some ⟨b, 0, none⟩)] w fun v w' => v = .int .i64 0 ∧ DevAt w' B b { D with dead := false } ∧ Tm w w' B dty := by
  have h0 := h
  obtain ⟨vk, vn, vp, vq, vs, h⟩ := h
  refine Ret.enter Tryd.func15 rfl Tryd.ntmps15 (by kernel_rfl) rfl ?_
  refine KW.seq (KW.region ?_)
  refine OW.val rfl rfl (EX.assign rfl) ?_
  refine OW.nil ?_
  refine KW.seq (KW.seq (KW.region ?_))
  refine OW.val rfl rfl (EX.move rfl) ?_
  refine OW.call rfl rfl rfl (none_d h0 hD) ?_
  rintro _ _ ⟨rfl, rfl⟩
  refine OW.nil ?_
  refine KW.condF rfl (KW.skip (KW.seq (KW.region ?_)))
  refine OW.val rfl rfl (EX.move rfl) ?_
  refine OW.val rfl rfl (EX.nilCheck rfl) ?_
  refine OW.val rfl rfl (EX.fieldAddr (off := 6) Tryd.underlying82 rfl rfl ti4 rfl rfl) ?_
  refine OW.storeB rfl ti4 rfl rfl (by first | rfl | assumption | exact Own.one (by assumption)) (h.cells) (by simp) ?_
  rintro w2 hb2 hm2
  refine OW.nil ?_
  refine KW.seq (KW.region ?_)
  refine OW.val rfl rfl (EX.assign rfl) ?_
  refine OW.nil ?_
  refine KW.ret (ret1 rfl rfl ?_)
  exact ⟨rfl, ⟨_, _, _, _, _, Dev.after (D' := { D with dead := false }) h.lo h.cells hm2 hb2 h.kept h.now h.apart h.pend h.chs h.keep⟩, Dev.tmD h.lo h.cells hm2⟩
end
structure Small (D : Dv) : Prop where
  calls : D.calls ≤ 1000000
  pend : D.pend.length ≤ 1000000
  at_ : D.at_ ≤ 9223372036854775807
  keep : D.keep.length ≤ 140737488355328
section
variable {w : World} {B b : Nat} {D : Dv}
theorem sync_d (h : DevAt w B b D) (hD : D.Ok) (hs : Small D) : Ret Tryd.prog 26 [.pointer (some ⟨b, 0, none⟩)] w fun v w' => v = .int .i64 ((D.sync.2 : Nat) : Int) ∧ DevAt w' B b D.sync.1 ∧ Tm w w' B dty := by
  refine Ret.enter Tryd.func26 rfl Tryd.ntmps26 (by kernel_rfl) rfl ?_
  refine KW.seq (KW.region ?_)
  refine OW.val rfl rfl (EX.assign rfl) ?_
  refine OW.nil ?_
  refine KW.seq (KW.seq (KW.region ?_))
  refine OW.val rfl rfl (EX.move rfl) ?_
  refine OW.call rfl rfl rfl (alive_d h hD) ?_
  rintro _ _ ⟨rfl, rfl⟩
  refine OW.val rfl rfl (EX.assign rfl) ?_
  refine OW.nil ?_
  refine KW.seq (KW.region ?_)
  refine OW.val rfl rfl (EX.move rfl) ?_
  refine OW.val rfl rfl (by first | exact EX.neqN (b := 0) rfl rfl | exact EX.neqZ rfl rfl) ?_
  refine OW.nil ?_
  rcases hd : D.dead with _ | _
  · have e : D.sync = D.does none := by unfold Dv.sync; rw [hd]; rfl
    rw [if_neg (by simp)]
    refine KW.as 7 (.bool false) rfl (congrArg Value.bool (decide_eq_false (by decide))) ?_
    refine KW.condF rfl (KW.skip (KW.seq (KW.region ?_)))
    refine OW.val rfl rfl (EX.move rfl) ?_
    refine OW.call rfl rfl rfl (does_c h hD .nilFunc none (fun _ => rfl) (fun d q => by cases q) hs.calls hs.pend hs.at_ hs.keep) ?_
    rintro _ w' ⟨rfl, h1, h2⟩
    refine OW.val rfl rfl (EX.assign rfl) ?_
    refine OW.nil ?_
    refine KW.ret (ret1 rfl rfl ?_)
    rw [e]
    exact ⟨rfl, h1, h2⟩
  · have e : D.sync = (D, 190) := by unfold Dv.sync; rw [hd]; rfl
    rw [if_pos rfl]
    refine KW.as 7 (.bool true) rfl (congrArg Value.bool (decide_eq_true (by decide))) ?_
    refine KW.condT rfl (KW.seq (KW.region ?_))
    refine OW.val rfl rfl (EX.move rfl) ?_
    refine OW.val rfl rfl (EX.assign rfl) ?_
    refine OW.nil ?_
    refine KW.ret (ret1 rfl rfl ?_)
    rw [e]
    exact ⟨rfl, h, Tm.refl _ _ _⟩
theorem write_x {vk vn vp vq : Value} {vs : List Value} (hv0 : Dev w B b D vk vn vp vq vs) (hD : D.Ok) (hs : Small D) (i : Int) (i0 : -9223372036854775808 ≤ i) (i1 : i ≤ 9223372036854775807) (s : List UInt8) (hsl : s.length ≤ 140737488355328) :
    Ret Tryd.prog 25 [.pointer (some ⟨b, 0, none⟩), .int .i64 i, str s] w fun v w' => v = .int .i64 (((D.write i s).2 : Nat) : Int) ∧ DevAt w' B b (D.write i s).1 ∧ Tm w w' B dty ∧ Kp w w' b vk vn vp := by
  have h := hv0.at_
  refine Ret.enter Tryd.func25 rfl Tryd.ntmps25 (by kernel_rfl) rfl ?_
  refine KW.seq (KW.region ?_)
  refine OW.boxB rfl rfl rfl rfl ?_
  rintro bi w1 hge1 hi1 hx1
  refine OW.boxB rfl rfl rfl rfl ?_
  rintro bs w2 hge2 hs2 hx2
  refine OW.val rfl rfl (EX.assign rfl) ?_
  refine OW.nil ?_
  refine KW.seq (KW.seq (KW.region ?_))
  refine OW.val rfl rfl (EX.move rfl) ?_
  have hi2 := hi1.ext hx2
  have h2 := h.ext (hx1.trans hx2)
  have t2 : Tm w w2 B dty := Tm.of_ext (hx1.trans hx2) B dty
  refine OW.call rfl rfl rfl (alive_d h2 hD) ?_
  rintro _ _ ⟨rfl, rfl⟩
  refine OW.val rfl rfl (EX.assign rfl) ?_
  refine OW.nil ?_
  refine KW.seq (KW.region ?_)
  refine OW.val rfl rfl (EX.move rfl) ?_
  refine OW.val rfl rfl (by first | exact EX.neqN (b := 0) rfl rfl | exact EX.neqZ rfl rfl) ?_
  refine OW.nil ?_
  rcases hd : D.dead with _ | _
  · rw [if_neg (by simp)]
    refine KW.as 11 (.bool false) rfl (congrArg Value.bool (decide_eq_false (by decide))) ?_
    refine KW.condF rfl (KW.skip (KW.seq (KW.seq ?_)))
    have hv := hv0.ext (hx1.trans hx2)
    have kp2 := (Kp.refl w b vk vn vp).ext (hx1.trans hx2)
    refine KW.regionQ (by kernel_rfl) (by kernel_rfl) ?_
    refine QW.val rfl rfl (fun _ => EX.load Tryd.underlying3 rfl rfl ((hi2.drewN _).cell_of rfl)) ?_
    refine QW.val rfl rfl (fun _ => by first | exact EX.lssN (b := 0) rfl rfl | exact EX.lssZ rfl rfl) ?_
    refine QW.val rfl rfl (fun _ => EX.move rfl) ?_
    refine QW.splitD 15 rfl (fun a1 => ?_) (fun a1 => ?_)
    · have e : D.write i s = (D, 191) := by unfold Dv.write; rw [hd, if_neg (by simp), if_pos (.inl a1)]
      refine QW.pass rfl rfl ?_
      refine QW.pass rfl rfl ?_
      refine QW.pass rfl rfl ?_
      refine QW.pass rfl rfl ?_
      refine QW.pass rfl rfl ?_
      refine QW.pass rfl rfl ?_
      refine QW.val rfl rfl (fun _ => EX.pickT rfl rfl) ?_
      refine QW.nil (fun nq => ?_)
      refine KW.condT rfl (KW.seq (KW.region ?_))
      refine OW.val rfl rfl (EX.assign rfl) ?_
      refine OW.nil ?_
      refine KW.ret (ret1 rfl rfl ?_)
      rw [e]
      exact ⟨rfl, h2.ext (Ext.drewN _ _), t2.trans (Tm.of_ext (Ext.drewN _ _) _ _), kp2.ext (Ext.drewN _ _)⟩
    · skip
      refine QW.val rfl rfl (fun _ => EX.load Tryd.underlying3 rfl rfl ((hi2.drewN _).cell_of rfl)) ?_
      refine QW.val rfl rfl (fun _ => EX.move rfl) ?_
      refine QW.val rfl rfl (fun _ => EX.nilCheck rfl) ?_
      refine QW.val rfl rfl (fun _ => EX.fieldAddr (off := 0) Tryd.underlying82 rfl rfl ti3 rfl rfl) ?_
      refine QW.val rfl rfl (fun _ => EX.load Tryd.underlying3 rfl rfl ((hv.cells.drewN _).cell_of rfl)) ?_
      refine QW.val rfl rfl (fun _ => by first | exact EX.geqN rfl rfl | exact EX.geqZ rfl rfl) ?_
      refine QW.val rfl rfl (fun _ => EX.pickF rfl rfl) ?_
      refine QW.nil (fun nq => ?_)
      refine KW.condD rfl (fun a2 => ?_) (fun a2 => ?_)
      · have e : D.write i s = (D, 191) := by unfold Dv.write; rw [hd, if_neg (by simp), if_pos (.inr a2)]
        refine KW.seq (KW.region ?_)
        refine OW.val rfl rfl (EX.assign rfl) ?_
        refine OW.nil ?_
        refine KW.ret (ret1 rfl rfl ?_)
        rw [e]
        exact ⟨rfl, h2.ext (Ext.drewN _ _), t2.trans (Tm.of_ext (Ext.drewN _ _) _ _), kp2.ext (Ext.drewN _ _)⟩
      · have hr : ¬ (i < 0 ∨ (D.cap : Int) ≤ i) := by omega
        have h3 := h2.ext (Ext.drewN w2 nq)
        have t3 : Tm w (w2.drewN nq) B dty := t2.trans (Tm.of_ext (Ext.drewN _ _) _ _)
        obtain ⟨j, rfl⟩ := Int.eq_ofNat_of_zero_le (show 0 ≤ i by omega)
        refine KW.skip (KW.seq (KW.seq (KW.region ?_)))
        refine OW.val rfl rfl (EX.load Tryd.underlying9 rfl rfl ((hs2.drewN _).cell_of rfl)) ?_
        refine OW.val rfl rfl (EX.lenS Tryd.underlying9 rfl) ?_
        refine OW.val rfl rfl (by first | exact EX.neqN (b := 512) rfl rfl | exact EX.neqZ rfl rfl) ?_
        refine OW.nil ?_
        refine KW.condD rfl (fun a3 => ?_) (fun a3 => ?_)
        · have e : D.write (j : Int) s = (D, 2) := by unfold Dv.write; rw [hd, if_neg (by simp), if_neg hr, if_pos a3]
          refine KW.seq (KW.region ?_)
          refine OW.val rfl rfl (EX.assign rfl) ?_
          refine OW.nil ?_
          refine KW.ret (ret1 rfl rfl ?_)
          rw [e]
          exact ⟨rfl, h3, t3, kp2.ext (Ext.drewN _ _)⟩
        · have e : D.write (j : Int) s = D.does (some (.write j s)) := by unfold Dv.write; rw [hd, if_neg (by simp), if_neg hr, if_neg a3]; rfl
          refine KW.skip (KW.seq (KW.region ?_))
          refine OW.val rfl rfl (EX.move rfl) ?_
          refine OW.val rfl rfl (EX.makeFunc rfl rfl) ?_
          refine OW.call rfl rfl rfl (does_x (hv.ext (Ext.drewN w2 nq)) hD _ (some (.write j s)) (fun q => by cases q) (fun d q => by cases q; exact ⟨⟨bi, bs, rfl, hi2.drewN _, hs2.drewN _⟩, by omega, by omega⟩) hs.calls hs.pend hs.at_ hs.keep) ?_
          rintro _ w4 ⟨rfl, h4, t4, k4⟩
          refine OW.val rfl rfl (EX.assign rfl) ?_
          refine OW.nil ?_
          refine KW.ret (ret1 rfl rfl ?_)
          rw [e]
          exact ⟨rfl, h4, t3.trans t4, fun g T l a1 a2 a3 a4 hb => k4 g T l a1 a2 a3 a4 ((kp2.ext (Ext.drewN _ _)) g T l a1 a2 a3 a4 hb)⟩
  · have e : D.write i s = (D, 190) := by unfold Dv.write; rw [hd]; rfl
    rw [if_pos rfl]
    refine KW.as 11 (.bool true) rfl (congrArg Value.bool (decide_eq_true (by decide))) ?_
    refine KW.condT rfl (KW.seq (KW.region ?_))
    refine OW.val rfl rfl (EX.move rfl) ?_
    refine OW.val rfl rfl (EX.assign rfl) ?_
    refine OW.nil ?_
    refine KW.ret (ret1 rfl rfl ?_)
    rw [e]
    exact ⟨rfl, h2, t2, (Kp.refl w b vk vn vp).ext (hx1.trans hx2)⟩
theorem write_d (h : DevAt w B b D) (hD : D.Ok) (hs : Small D) (i : Int) (i0 : -9223372036854775808 ≤ i) (i1 : i ≤ 9223372036854775807) (s : List UInt8) (hsl : s.length ≤ 140737488355328) :
    Ret Tryd.prog 25 [.pointer (some ⟨b, 0, none⟩), .int .i64 i, str s] w fun v w' => v = .int .i64 (((D.write i s).2 : Nat) : Int) ∧ DevAt w' B b (D.write i s).1 ∧ Tm w w' B dty := by
  obtain ⟨vk, vn, vp, vq, vs, hv⟩ := h
  exact (write_x hv hD hs i i0 i1 s hsl).mono fun _ _ q => ⟨q.1, q.2.1, q.2.2.1⟩
theorem plan_d (h : DevAt w B b D) (hD : D.Ok) (a : Int) (i0 : -9223372036854775808 ≤ a) (i1 : a ≤ 9223372036854775807) (A : Option Addr) (c C : Nat) (k : List Bool) (hsl : Sl w C A (boolsV k)) (hA : A = none → boolsV k = []) (hk : k.length ≤ 140737488351232) :
    Ret Tryd.prog 13 [.pointer (some ⟨b, 0, none⟩), .agg [.int .i64 a, .slice A k.length c].toArray] w fun v w' => v = .int .i64 (((D.plan a k).2 : Nat) : Int) ∧ DevAt w' B b (D.plan a k).1 ∧ Tm w w' B dty := by
  refine Ret.enter Tryd.func13 rfl Tryd.ntmps13 (by kernel_rfl) rfl ?_
  refine KW.seq (KW.region ?_)
  refine OW.boxS rfl rfl rfl ?_
  rintro bf w2 hge1 hf2 hx1
  refine OW.val rfl rfl (EX.assign rfl) ?_
  refine OW.nil ?_
  refine KW.seq (KW.seq (KW.region ?_))
  refine OW.val rfl rfl (EX.move rfl) ?_
  have h2 := h.ext hx1
  have t2 : Tm w w2 B dty := Tm.of_ext hx1 B dty
  refine OW.call rfl rfl rfl (alive_d h2 hD) ?_
  rintro _ _ ⟨rfl, rfl⟩
  refine OW.val rfl rfl (EX.assign rfl) ?_
  refine OW.nil ?_
  refine KW.seq (KW.region ?_)
  refine OW.val rfl rfl (EX.move rfl) ?_
  refine OW.val rfl rfl (by first | exact EX.neqN (b := 0) rfl rfl | exact EX.neqZ rfl rfl) ?_
  refine OW.nil ?_
  rcases hd : D.dead with _ | _
  · rw [if_neg (by simp)]
    refine KW.as 9 (.bool false) rfl (congrArg Value.bool (decide_eq_false (by decide))) ?_
    refine KW.condF rfl (KW.skip (KW.seq (KW.seq (KW.region ?_))))
    refine OW.val rfl rfl (EX.fieldAddr (off := 0) Tryd.underlying39 rfl rfl ti3 rfl rfl) ?_
    refine OW.val rfl rfl (EX.load Tryd.underlying3 rfl rfl (hf2.cell_of rfl)) ?_
    refine OW.val rfl rfl (by first | exact EX.lssN (b := 0) rfl rfl | exact EX.lssZ rfl rfl) ?_
    refine OW.nil ?_
    refine KW.condD rfl (fun a1 => ?_) (fun a1 => ?_)
    · have e : D.plan a k = (D, 2) := by unfold Dv.plan; rw [hd, if_neg (by simp), if_pos a1]
      refine KW.seq (KW.region ?_)
      refine OW.val rfl rfl (EX.assign rfl) ?_
      refine OW.nil ?_
      refine KW.ret (ret1 rfl rfl ?_)
      rw [e]
      exact ⟨rfl, h2, t2⟩
    · obtain ⟨j, rfl⟩ := Int.eq_ofNat_of_zero_le (show 0 ≤ a by omega)
      have e : D.plan (j : Int) k = ({ D with at_ := j, keep := k }, 0) := by unfold Dv.plan; rw [hd, if_neg (by simp), if_neg a1]; rfl
      have h3 := h2.ext (Ext.drew w2)
      have t3 : Tm w w2.drew B dty := t2.trans (Tm.of_ext (Ext.drew _) _ _)
      obtain ⟨vk, vn, vp, vq, vs, hv⟩ := id h3
      have hclone := cloneT_c A c (boolsV k) _ w2.drew ((hsl.ext hx1).ext (Ext.drew w2)) hA (boolsV_one k) (by rw [boolsV_length]; omega)
      rw [boolsV_length] at hclone
      refine KW.skip (KW.seq ?_)
      refine KW.regionG (N := 10) (fun w' => Bk w' bf 39 [.int .i64 (j : Int), .slice A k.length c]) (by kernel_rfl) rfl ?_
      have hS := hf2.drew
      refine GW.val 0 rfl (by kernel_rfl) (by kernel_rfl) (by kernel_rfl) rfl rfl hS (fun w' hS' => EX.move rfl) ?_
      refine GW.val 1 rfl (by kernel_rfl) (by kernel_rfl) (by kernel_rfl) rfl rfl hS (fun w' hS' => EX.fieldAddr (off := 0) Tryd.underlying39 rfl rfl ti3 rfl rfl) ?_
      refine GW.val 2 rfl (by kernel_rfl) (by kernel_rfl) (by kernel_rfl) rfl rfl hS (fun w' hS' => EX.load Tryd.underlying3 rfl rfl (hS'.cell_of rfl)) ?_
      refine GW.val 3 rfl (by kernel_rfl) (by kernel_rfl) (by kernel_rfl) rfl rfl hS (fun w' hS' => EX.fieldAddr (off := 1) Tryd.underlying39 rfl rfl ti37 rfl rfl) ?_
      refine GW.val 4 rfl (by kernel_rfl) (by kernel_rfl) (by kernel_rfl) rfl rfl hS (fun w' hS' => EX.load Tryd.underlying37 rfl rfl (hS'.cell_of rfl)) ?_
      refine GW.call 5 rfl (by kernel_rfl) rfl rfl rfl (hclone) ?_
      rintro v7 w7 ⟨hown7, hx7⟩
      refine ⟨hS.ext hx7, fun hS => ?_⟩
      refine GW.val 6 rfl (by kernel_rfl) (by kernel_rfl) (by kernel_rfl) rfl rfl hS (fun w' hS' => EX.buildS (pl := [(0, 1), (1, 1)]) (ks := [0, 1]) (is := [0, 1]) (zs := [.int .i64 0, .slice none 0 0]) Tryd.underlying39 ti39 (by kernel_rfl) rfl rfl rfl (by first | rfl | (simp only [List.all_cons, List.all_nil, Bool.and_true, Bool.true_and, Bool.and_eq_true, Value.oneCell']; repeat (first | assumption | exact Own.one (by assumption) | constructor))) (by simp only [setAll, List.set_cons_zero, List.set_cons_succ]; rfl)) ?_
      refine GW.val 7 rfl (by kernel_rfl) (by kernel_rfl) (by kernel_rfl) rfl rfl hS (fun w' hS' => EX.nilCheck rfl) ?_
      refine GW.val 8 rfl (by kernel_rfl) (by kernel_rfl) (by kernel_rfl) rfl rfl hS (fun w' hS' => EX.fieldAddr (off := 4) Tryd.underlying82 rfl rfl ti39 rfl rfl) ?_
      have hd7 := hv.ext hx7
      refine GW.storeS 9 rfl (by kernel_rfl) rfl ti39 rfl rfl rfl (by first | rfl | (simp only [List.all_cons, List.all_nil, Bool.and_true, Bool.true_and, Bool.and_eq_true, Value.oneCell']; repeat (first | assumption | exact Own.one (by assumption) | constructor))) (hd7.cells) (by simp) ?_
      rintro w8 hb8 hm8
      refine ⟨hS.mo hm8 (by simp; exact (hd7.cells.ne hS (by decide)).symm), fun hS => ?_⟩
      refine GW.done (by kernel_rfl) ?_
      refine KW.seq (KW.region ?_)
      refine OW.val rfl rfl (EX.assign rfl) ?_
      refine OW.nil ?_
      refine KW.ret (ret1 rfl rfl ?_)
      rw [e]
      refine ⟨rfl, ⟨_, _, _, _, _, Dev.after (D' := { D with at_ := j, keep := k }) hv.lo hd7.cells hm8 hb8 hd7.kept hd7.now hd7.apart hd7.pend hd7.chs (hown7.base (fun q hq => by have q1 := (hown7.lt q hq).1; have q2 := hv.cells.lt; have q3 := hv.lo; omega))⟩, ?_⟩
      exact (t3.trans (Tm.of_ext hx7 B dty)).trans (Dev.tmD hv.lo hd7.cells hm8)
  · have e : D.plan a k = (D, 190) := by unfold Dv.plan; rw [hd]; rfl
    rw [if_pos rfl]
    refine KW.as 9 (.bool true) rfl (congrArg Value.bool (decide_eq_true (by decide))) ?_
    refine KW.condT rfl (KW.seq (KW.region ?_))
    refine OW.val rfl rfl (EX.move rfl) ?_
    refine OW.val rfl rfl (EX.assign rfl) ?_
    refine OW.nil ?_
    refine KW.ret (ret1 rfl rfl ?_)
    rw [e]
    exact ⟨rfl, h2, t2⟩
end
end Go.Proofs.YthgfdpcpbghkpaaDoor
namespace Go.Proofs.YthgfdpcpbghkpaaDoor.Wal
open Go.RowKit Rec Pth Dsk
abbrev By := List UInt8
structure Nt where
  kind : Int
  mem : M
  deriving DecidableEq
def bare (p : By) : M := ⟨p, 0, 0, 0, 0⟩
def noteD (n : Nt) : Option By :=
  if n.kind = 1 then (if mayM n.mem then some (memberT n.mem) else none)
  else if n.kind = 2 then (if checkP n.mem.path = 0 ∧ n.mem = bare n.mem.path then some n.mem.path else none)
  else none
def mayN (n : Nt) : Prop := noteD n ≠ none
instance (n : Nt) : Decidable (mayN n) := by unfold mayN; infer_instance
def writes : Dv → Nat → List By → Dv × Nat
  | D, _, [] => (D, 0)
  | D, i, s :: l => if (D.write i s).2 = 0 then writes (D.write i s).1 (i + 1) l else D.write i s
def badW (gen at_ : Int) (n : Nat) : Prop := gen < 0 ∨ 4611686018427387904 < gen ∨ at_ < 0 ∨ 20 < at_ ∨ n = 0 ∨ 20 - at_ ≤ n
instance (gen at_ : Int) (n : Nat) : Decidable (badW gen at_ n) := by unfold badW; infer_instance
def sec (s : By) (i : Nat) : By := (s.drop (i * 512)).take 512
def badG (gen : Int) : Prop := gen < 0 ∨ 4611686018427387904 < gen
instance (gen : Int) : Decidable (badG gen) := by unfold badG; infer_instance
theorem blk_put {s t : By} {a b n : Nat} (ht : t.length = n) (ha : a + n ≤ s.length) (h : b + n ≤ a ∨ b = a ∨ a + n ≤ b) : ((s.take a ++ t ++ s.drop (a + n)).drop b).take n = if b = a then t else (s.drop b).take n := by
  have l1 : (s.take a).length = a := by rw [List.length_take]; omega
  rcases h with h1 | h1 | h1
  · by_cases h2 : b = a
    · have : n = 0 := by omega
      subst this
      rw [if_pos h2, List.take_zero, List.eq_nil_of_length_eq_zero ht]
    · rw [if_neg h2, List.append_assoc, List.drop_append_of_le_length (by omega), List.take_append_of_le_length (by rw [List.length_drop]; omega), List.drop_take, List.take_take, Nat.min_eq_left (by omega)]
  · subst h1
    rw [if_pos rfl, List.append_assoc, List.drop_left' l1, List.take_left' ht]
  · have l2 : (s.take a ++ t).length = a + n := by rw [List.length_append, l1, ht]
    have e : (s.take a ++ t ++ s.drop (a + n)).drop b = s.drop b := by
      rw [List.drop_append, List.drop_eq_nil_of_le (by omega), List.nil_append, List.drop_drop, l2, show a + n + (b - (a + n)) = b by omega]
    rw [e]
    by_cases h2 : b = a
    · have : n = 0 := by omega
      subst this
      rw [if_pos h2, List.take_zero, List.eq_nil_of_length_eq_zero ht]
    · rw [if_neg h2]
theorem sec_put {s t : By} {i j : Nat} (h : (i + 1) * 512 ≤ s.length) (ht : t.length = 512) : sec (s.take (i * 512) ++ t ++ s.drop (i * 512 + 512)) j = if j = i then t else sec s j := by
  have e := blk_put (s := s) (a := i * 512) (b := j * 512) ht (by omega) (by omega)
  unfold sec
  rw [e]
  by_cases h1 : j = i
  · rw [if_pos h1, if_pos (by rw [h1])]
  · rw [if_neg h1, if_neg (by omega)]
theorem ap_write (i : Nat) (t s : By) : (Ch.write i t).ap s = (s ++ zeros ((i + 1) * 512 - s.length)).take (i * 512) ++ t ++ (s ++ zeros ((i + 1) * 512 - s.length)).drop (i * 512 + t.length) := rfl
theorem sec_write {s t : By} {i j : Nat} (hm : s.length % 512 = 0) (ht : t.length = 512) (hj : j = i ∨ j < s.length / 512) : sec ((Ch.write i t).ap s) j = if j = i then t else sec s j := by
  have hz : ∀ z : By, sec s j = sec (s ++ z) j ∨ ¬ j < s.length / 512 := fun z => by
    by_cases h : j < s.length / 512
    · left
      unfold sec
      rw [List.drop_append_of_le_length (by omega), List.take_append_of_le_length (by rw [List.length_drop]; omega)]
    · exact .inr h
  have e := sec_put (s := s ++ zeros ((i + 1) * 512 - s.length)) (i := i) (j := j) (by rw [List.length_append, zeros_length]; omega) ht
  rw [ap_write, ht, e]
  split
  · rfl
  · rename_i h
    rcases hz (zeros ((i + 1) * 512 - s.length)) with h1 | h1
    · exact h1.symm
    · exact absurd (hj.resolve_left h) h1
theorem len_write {s t : By} {i : Nat} (ht : t.length = 512) (hm : s.length % 512 = 0) : ((Ch.write i t).ap s).length = max s.length ((i + 1) * 512) := by
  rw [ap_write]
  simp only [List.length_append, List.length_take, List.length_drop, zeros_length, ht]
  omega
structure Rd (s : By) (k : Nat) (g i : Nat) (d : By) : Prop where
  eq : decodeR s = (⟨k, g, i, d⟩, 0)
end Go.Proofs.YthgfdpcpbghkpaaDoor.Wal
namespace Go.Proofs.YthgfdpcpbghkpaaDoor
open Go.RowKit Dsk
def _root_.Go.Proofs.YthgfdpcpbghkpaaDoor.Dsk.fresh (cap : Nat) (s : List UInt8) : Dv := { cap := cap, kept := s, now := s, pend := [], at_ := 0, keep := [], dead := false, calls := 0 }
theorem fresh_ok {cap : Nat} {s : List UInt8} (h : 1 ≤ cap ∧ cap ≤ 4096) (h1 : s.length % 512 = 0) (h2 : s.length / 512 ≤ cap) : (fresh cap s).Ok :=
  ⟨h, by show s.length ≤ 512 * cap; omega, by show s.length ≤ 512 * cap; omega, h1, h1, fun c hc => by simp [fresh] at hc⟩
def _root_.Go.Proofs.YthgfdpcpbghkpaaDoor.Dsk.may (c : Int) (s : List UInt8) : Prop := 1 ≤ c ∧ c ≤ 4096 ∧ s.length % 512 = 0 ∧ ((s.length / 512 : Nat) : Int) ≤ c
theorem Own.ofBytes {w : World} {B g cap : Nat} {s : List UInt8} {rs : List Value} (hb : Bk w g 5 (bytesV s ++ rs)) (hB : B ≤ g) (hc : s.length ≤ cap) (hm : cap ≤ maxLen) (hl : s.length + rs.length = cap) : Own w B 5 1 (.slice (some ⟨g, 0, none⟩) s.length cap) s.length (bytesV s) :=
  ⟨by simp [bytesV], .inr ⟨g, cap, rs, rfl, hB, hb, by rw [bytesV_length]; omega, hc, hm⟩⟩
theorem load_s (c : Int) (c0 : -9223372036854775808 ≤ c) (c1 : c ≤ 9223372036854775807) (s : List UInt8) (hs : s.length ≤ 140737488355328) (w : World) :
    Ret Tryd.prog 23 [.int .i64 c, str s] w fun v w' => ∃ (p : Value) (e : Nat), v = .tuple #[p, .int .i64 (e : Int)] ∧ Ext w w' ∧ ((¬ may c s ∧ p = .pointer none ∧ e = 2) ∨ (may c s ∧ ∃ b, p = .pointer (some ⟨b, 0, none⟩) ∧ e = 0 ∧ DevAt w' w.heap.size b (fresh c.toNat s))) := by
  refine Ret.enter Tryd.func23 rfl Tryd.ntmps23 (by kernel_rfl) rfl ?_
  refine KW.seq (KW.region ?_)
  refine OW.val rfl rfl (EX.assign rfl) ?_
  refine OW.val rfl rfl (EX.assign rfl) ?_
  refine OW.nil ?_
  refine KW.seq (KW.seq ?_)
  refine KW.cut1 (fun (_u : Unit) => True) (fun (_u : Unit) => [(0, .int .i64 (c : Int)), (1, str (s)), (24, .bool (decide (¬ (1 ≤ c ∧ c ≤ 4096 ∧ s.length % 512 = 0 ∧ ((s.length / 512 : Nat) : Int) ≤ c))))]) (fun (_u : Unit) => w) ?_ ?_
  · refine KW.region ?_
    refine OW.val rfl rfl (EX.move rfl) ?_
    refine OW.val rfl rfl (by first | exact EX.lssN (b := 1) rfl rfl | exact EX.lssZ rfl rfl) ?_
    refine OW.val rfl rfl (EX.move rfl) ?_
    refine OW.splitD 8 rfl (fun a1 => ?_) (fun a1 => ?_)
    · refine OW.pass rfl rfl ?_
      refine OW.pass rfl rfl ?_
      refine OW.val rfl rfl (EX.pickT rfl rfl) ?_
      refine OW.val rfl rfl (EX.move rfl) ?_
      refine OW.pass rfl rfl ?_
      refine OW.pass rfl rfl ?_
      refine OW.pass rfl rfl ?_
      refine OW.pass rfl rfl ?_
      refine OW.val rfl rfl (EX.pickT rfl rfl) ?_
      refine OW.val rfl rfl (EX.move rfl) ?_
      refine OW.pass rfl rfl ?_
      refine OW.pass rfl rfl ?_
      refine OW.pass rfl rfl ?_
      refine OW.pass rfl rfl ?_
      refine OW.pass rfl rfl ?_
      refine OW.val rfl rfl (EX.pickT rfl rfl) ?_
      refine OW.nil ?_
      refine KW.as 24 (.bool (decide (¬ (1 ≤ c ∧ c ≤ 4096 ∧ s.length % 512 = 0 ∧ ((s.length / 512 : Nat) : Int) ≤ c)))) rfl (by rw [decide_eq_true]; omega) ?_
      refine KW.meet1 (()) ⟨rfl, rfl, rfl, trivial⟩ rfl ?_
      trivial
    · refine OW.val rfl rfl (EX.move rfl) ?_
      refine OW.val rfl rfl (by first | exact EX.gtrN (b := 4096) rfl rfl | exact EX.gtrZ rfl rfl) ?_
      refine OW.val rfl rfl (EX.pickF rfl rfl) ?_
      refine OW.val rfl rfl (EX.move rfl) ?_
      refine OW.splitD 12 rfl (fun a2 => ?_) (fun a2 => ?_)
      · refine OW.pass rfl rfl ?_
        refine OW.pass rfl rfl ?_
        refine OW.pass rfl rfl ?_
        refine OW.pass rfl rfl ?_
        refine OW.val rfl rfl (EX.pickT rfl rfl) ?_
        refine OW.val rfl rfl (EX.move rfl) ?_
        refine OW.pass rfl rfl ?_
        refine OW.pass rfl rfl ?_
        refine OW.pass rfl rfl ?_
        refine OW.pass rfl rfl ?_
        refine OW.pass rfl rfl ?_
        refine OW.val rfl rfl (EX.pickT rfl rfl) ?_
        refine OW.nil ?_
        refine KW.as 24 (.bool (decide (¬ (1 ≤ c ∧ c ≤ 4096 ∧ s.length % 512 = 0 ∧ ((s.length / 512 : Nat) : Int) ≤ c)))) rfl (by rw [decide_eq_true]; omega) ?_
        refine KW.meet1 (()) ⟨rfl, rfl, rfl, trivial⟩ rfl ?_
        trivial
      · refine OW.val rfl rfl (EX.move rfl) ?_
        refine OW.val rfl rfl (EX.lenS Tryd.underlying9 rfl) ?_
        refine OW.val rfl rfl (by first | exact EX.remN (b := 512) rfl rfl (by omega) | exact EX.remZ rfl rfl (by decide)) ?_
        refine OW.val rfl rfl (by first | exact EX.neqN (b := 0) rfl rfl | exact EX.neqZ rfl rfl) ?_
        refine OW.val rfl rfl (EX.pickF rfl rfl) ?_
        refine OW.val rfl rfl (EX.move rfl) ?_
        refine OW.splitD 18 rfl (fun a3 => ?_) (fun a3 => ?_)
        · refine OW.pass rfl rfl ?_
          refine OW.pass rfl rfl ?_
          refine OW.pass rfl rfl ?_
          refine OW.pass rfl rfl ?_
          refine OW.pass rfl rfl ?_
          refine OW.val rfl rfl (EX.pickT rfl rfl) ?_
          refine OW.nil ?_
          refine KW.as 24 (.bool (decide (¬ (1 ≤ c ∧ c ≤ 4096 ∧ s.length % 512 = 0 ∧ ((s.length / 512 : Nat) : Int) ≤ c)))) rfl (by rw [decide_eq_true]; omega) ?_
          refine KW.meet1 (()) ⟨rfl, rfl, rfl, trivial⟩ rfl ?_
          trivial
        · refine OW.val rfl rfl (EX.move rfl) ?_
          refine OW.val rfl rfl (EX.lenS Tryd.underlying9 rfl) ?_
          refine OW.val rfl rfl (EX.quoN (b := 512) (m := 9223372036854775807) rfl rfl rfl (by omega)) ?_
          refine OW.val rfl rfl (EX.move rfl) ?_
          refine OW.val rfl rfl (by first | exact EX.gtrN rfl rfl | exact EX.gtrZ rfl rfl) ?_
          refine OW.val rfl rfl (EX.pickF rfl rfl) ?_
          refine OW.nil ?_
          refine KW.as 24 (.bool (decide (¬ (1 ≤ c ∧ c ≤ 4096 ∧ s.length % 512 = 0 ∧ ((s.length / 512 : Nat) : Int) ≤ c)))) rfl (congrArg Value.bool (decide_eq_decide.2 (by omega))) ?_
          refine KW.meet1 (()) ⟨rfl, rfl, rfl, trivial⟩ rfl ?_
          trivial
  · rintro _ _
    refine KW.condD rfl (fun hm => ?_) (fun hm => ?_)
    · refine KW.seq (KW.region ?_)
      refine OW.val rfl rfl (EX.assign rfl) ?_
      refine OW.val rfl rfl (EX.assign rfl) ?_
      refine OW.nil ?_
      refine KW.ret (ret2 rfl rfl rfl ?_)
      exact ⟨_, 2, rfl, Ext.refl _, .inl ⟨hm, rfl, rfl⟩⟩
    · have hmay : may c s := Classical.not_not.1 hm
      obtain ⟨m1, m2, m3, m4⟩ := id hmay
      obtain ⟨j, rfl⟩ := Int.eq_ofNat_of_zero_le (show 0 ≤ c by omega)
      refine KW.skip (KW.seq (KW.region ?_))
      refine OW.val rfl rfl (EX.move rfl) ?_
      refine OW.val rfl rfl (EX.move rfl) ?_
      refine OW.bytesOf rfl rfl Tryd.underlying9 Tryd.underlying45 Tryd.underlying5 rfl (by omega) ?_
      rintro cp rs w1 hb1 hc1 hm1 hl1 hx1
      refine OW.val rfl rfl (EX.move rfl) ?_
      refine OW.bytesOf rfl rfl Tryd.underlying9 Tryd.underlying45 Tryd.underlying5 rfl (by omega) ?_
      rintro cp2 rs2 w2 hb2 hc2 hm2 hl2 hx2
      refine OW.val rfl rfl (EX.buildS (pl := [(0, 1), (1, 1), (2, 1), (3, 1), (4, 2), (6, 1), (7, 1)]) (ks := [0, 1, 2]) (is := [0, 1, 2]) (zs := [.int .i64 0, .slice none 0 0, .slice none 0 0, .slice none 0 0, .int .i64 0, .slice none 0 0, .bool false, .int .i64 0]) Tryd.underlying82 ti82 (by kernel_rfl) rfl rfl rfl (by first | rfl | (simp only [List.all_cons, List.all_nil, Bool.and_true, Bool.true_and, Bool.and_eq_true, Value.oneCell']; repeat (first | assumption | exact Own.one (by assumption) | constructor))) (by simp only [setAll, List.set_cons_zero, List.set_cons_succ]; rfl)) ?_
      refine OW.boxS rfl rfl rfl ?_
      rintro b w3 hge hb3 hx3
      refine OW.val rfl rfl (EX.assign rfl) ?_
      refine OW.val rfl rfl (EX.assign rfl) ?_
      refine OW.nil ?_
      refine KW.ret (ret2 rfl rfl rfl ?_)
      have e1 := Own.ofBytes hb1 (Nat.le_refl _) hc1 hm1 hl1
      have z1 := hx1.size
      have z2 := hx2.size
      have e2 : Own w2 w.heap.size 5 1 _ _ _ := Own.ofBytes hb2 z1 hc2 hm2 hl2
      have l1 := hb1.lt
      refine ⟨_, 0, rfl, (hx1.trans hx2).trans hx3, .inr ⟨hmay, b, rfl, rfl, _, _, _, _, [], ⟨by omega, hb3, (e1.ext hx2).ext hx3, e2.ext hx3, ?_, Own.nil _ _ _ _, trivial, Own.nil _ _ _ _⟩⟩⟩
      intro k hk hk'
      simp [Value.ownBlock] at hk hk'
      omega
theorem new_s (c : Int) (c0 : -9223372036854775808 ≤ c) (c1 : c ≤ 9223372036854775807) (w : World) :
    Ret Tryd.prog 9 [.int .i64 c] w fun v w' => ∃ (p : Value) (e : Nat), v = .tuple #[p, .int .i64 (e : Int)] ∧ Ext w w' ∧ ((¬ may c [] ∧ p = .pointer none ∧ e = 2) ∨ (may c [] ∧ ∃ b, p = .pointer (some ⟨b, 0, none⟩) ∧ e = 0 ∧ DevAt w' w.heap.size b (fresh c.toNat []))) := by
  refine Ret.enter Tryd.func9 rfl Tryd.ntmps9 (by kernel_rfl) rfl ?_
  refine KW.seq (KW.region ?_)
  refine OW.val rfl rfl (EX.assign rfl) ?_
  refine OW.val rfl rfl (EX.assign rfl) ?_
  refine OW.nil ?_
  refine KW.seq (KW.region ?_)
  refine OW.val rfl rfl (EX.move rfl) ?_
  refine OW.call rfl rfl rfl (load_s c c0 c1 [] (by simp) w) ?_
  rintro _ w1 ⟨p, e, rfl, hx, hor⟩
  refine OW.val rfl rfl (EX.extract rfl rfl) ?_
  refine OW.val rfl rfl (EX.extract rfl rfl) ?_
  refine OW.val rfl rfl (EX.assign rfl) ?_
  refine OW.val rfl rfl (EX.assign rfl) ?_
  refine OW.nil ?_
  refine KW.ret (ret2 rfl rfl rfl ?_)
  exact ⟨p, e, rfl, hx, hor⟩
section
variable {D : Dv}
theorem write_ok (h : D.Ok) (i : Int) (s : List UInt8) : (D.write i s).1.Ok := by
  unfold Dv.write
  split
  · exact h
  · split
    · exact h
    · split
      · exact h
      · rename_i h1 h2
        refine does_ok h fun d hd => ?_
        cases hd
        exact ⟨by omega, by simpa using h2⟩
theorem sync_ok (h : D.Ok) : D.sync.1.Ok := by
  unfold Dv.sync
  split
  · exact h
  · exact does_ok h fun d hd => by cases hd
end
def A0 : Dv := fresh 4 []
def A1 : Dv := (A0.write 2 (sector 120 false)).1
def A2 : Dv := A1.sync.1
def A3 : Dv := (A2.write 4 (sector 120 false)).1
def A4 : Dv := (A3.plan 2 [false, true]).1
def A5 : Dv := (A4.write 2 (sector 121 false)).1
def A6 : Dv := (A5.write 0 (sector 121 false)).1
def A7 : Dv := { A6 with dead := false }
theorem e1 : (A0.write 2 (sector 120 false)).1 = A1 := rfl
theorem e2 : A1.sync.1 = A2 := rfl
theorem e3 : (A2.write 4 (sector 120 false)).1 = A3 := rfl
theorem e4 : (A3.plan 2 [false, true]).1 = A4 := rfl
theorem e6 : (A5.write 0 (sector 121 false)).1 = A6 := rfl
end Go.Proofs.YthgfdpcpbghkpaaDoor
namespace Go.Proofs.YthgfdpcpbghkpaaDoor.Wal
open Go.RowKit Rec Pth Dsk
structure Sm (D : Dv) (k : Nat) : Prop where
  calls : D.calls ≤ k
  pend : D.pend.length ≤ k
  at_ : D.at_ ≤ 9223372036854775807
  keep : D.keep.length ≤ 140737488355328
theorem Sm.small {D : Dv} {k : Nat} (h : Sm D k) (hk : k ≤ 1000000) : Small D := ⟨by have := h.calls; omega, by have := h.pend; omega, h.at_, h.keep⟩
theorem Sm.more {D : Dv} {k k' : Nat} (h : Sm D k) (hk : k ≤ k') : Sm D k' := ⟨by have := h.calls; omega, by have := h.pend; omega, h.at_, h.keep⟩
theorem does_sm {D : Dv} {k : Nat} (h : Sm D k) (c : Option Ch) : Sm (D.does c).1 (k + 1) := by
  obtain ⟨h1, h2, h3, h4⟩ := h
  by_cases h5 : (D.pushed c).at_ = 1
  · rw [does_fall h5]
    refine ⟨?_, by simp, by simp, by simp⟩
    cases c <;> simp only [Dv.pushed] <;> omega
  · rw [does_go h5]
    cases c with
    | none => exact ⟨by simp only [Dv.done, Dv.pushed]; omega, by simp [Dv.done], by simp only [Dv.done, Dv.pushed]; omega, h4⟩
    | some c => exact ⟨by simp only [Dv.done, Dv.pushed]; omega, by simp only [Dv.done, Dv.pushed, List.length_append, List.length_singleton]; omega, by simp only [Dv.done, Dv.pushed]; omega, h4⟩
theorem write_sm {D : Dv} {k : Nat} (h : Sm D k) (i : Int) (s : List UInt8) : Sm (D.write i s).1 (k + 1) := by
  unfold Dv.write
  split
  · exact h.more (by omega)
  · split
    · exact h.more (by omega)
    · split
      · exact h.more (by omega)
      · exact does_sm h _
theorem sync_sm {D : Dv} {k : Nat} (h : Sm D k) : Sm D.sync.1 (k + 1) := by
  unfold Dv.sync
  split
  · exact h.more (by omega)
  · exact does_sm h _
theorem writes_cons (D : Dv) (i : Nat) (s : By) (l : List By) : writes D i (s :: l) = if (D.write i s).2 = 0 then writes (D.write i s).1 (i + 1) l else D.write i s := rfl
theorem writes_ok : ∀ (l : List By) (D : Dv) (i : Nat), D.Ok → (writes D i l).1.Ok
  | [], D, i, h => h
  | s :: l, D, i, h => by
    rw [writes_cons]
    split
    · exact writes_ok l _ _ (write_ok h _ _)
    · exact write_ok h _ _
theorem writes_sm : ∀ (l : List By) (D : Dv) (i k : Nat), Sm D k → Sm (writes D i l).1 (k + l.length)
  | [], D, i, k, h => h
  | s :: l, D, i, k, h => by
    rw [writes_cons]
    split
    · have := writes_sm l _ (i + 1) (k + 1) (write_sm h i s)
      rw [List.length_cons]
      exact this.more (by omega)
    · exact (write_sm h i s).more (by rw [List.length_cons]; omega)
end Go.Proofs.YthgfdpcpbghkpaaDoor.Wal
namespace Go.Proofs.YthgfdpcpbghkpaaDoor
open Go.RowKit Dsk
theorem bytesV_drop_take (l : List UInt8) (i j : Nat) : ((bytesV l).drop i).take j = bytesV ((l.drop i).take j) := by simp [bytesV, List.map_take, List.map_drop]
end Go.Proofs.YthgfdpcpbghkpaaDoor
namespace Go.Proofs.YthgfdpcpbghkpaaDoor.Cat
open Pth Rec Srt Dsk Wal
noncomputable def saveC (D : Dv) (gen : Int) (l : List M) : Dv × Nat := open Classical in
  if OkE gen l ∧ OkC l D.cap then (let r := writes D (gen.toNat % 2 * 5) (sect5 gen (allT l)); if r.2 = 0 then r.1.sync else r) else (D, 230)
theorem saveC_no {D : Dv} {gen : Int} {l : List M} (h : ¬ (OkE gen l ∧ OkC l D.cap)) : saveC D gen l = (D, 230) := by unfold saveC; rw [if_neg h]
theorem saveC_go {D : Dv} {gen : Int} {l : List M} (h : OkE gen l ∧ OkC l D.cap) : saveC D gen l = (let r := writes D (gen.toNat % 2 * 5) (sect5 gen (allT l)); if r.2 = 0 then r.1.sync else r) := by unfold saveC; rw [if_pos h]
theorem sect5_all {gen : Int} (s : List UInt8) : ∀ t ∈ sect5 gen s, t.length = 512 := by
  intro t ht
  obtain ⟨i, _, rfl⟩ := List.mem_map.1 ht
  exact text_length _ _ _ _ (piece_len s i)
theorem save_ok {D : Dv} (h : D.Ok) (gen : Int) (l : List M) : (saveC D gen l).1.Ok := by
  unfold saveC
  split
  · simp only
    split
    · exact sync_ok (writes_ok _ _ _ h)
    · exact writes_ok _ _ _ h
  · exact h
theorem save_sm {D : Dv} {k : Nat} (h : Sm D k) (gen : Int) (l : List M) : Sm (saveC D gen l).1 (k + 6) := by
  unfold saveC
  split
  · have h1 := writes_sm (sect5 gen (allT l)) D (gen.toNat % 2 * 5) k h
    rw [sect5_len] at h1
    simp only
    split
    · exact (sync_sm h1).more (by omega)
    · exact h1.more (by omega)
  · exact h.more (by omega)
def secAt (s : List UInt8) (j : Nat) : List UInt8 := (s.drop (j * 512)).take 512
def slotSs (D : Dv) (k : Nat) : Txts := (List.range 5).map fun i => secAt D.now (k * 5 + i)
theorem slotSs_len (D : Dv) (k : Nat) : (slotSs D k).length = 5 := by simp [slotSs]
def hasS (D : Dv) (k : Nat) : Prop := (k + 1) * 5 ≤ D.now.length / 512
instance (D : Dv) (k : Nat) : Decidable (hasS D k) := by unfold hasS; infer_instance
structure Right (D : Dv) (k : Nat) : Prop where
  has : hasS D k
  dec : (decC (slotSs D k)).2.2 = 0
  par : (decC (slotSs D k)).1 % 2 = (k : Int)
  chk : OkC (decC (slotSs D k)).2.1 D.cap
noncomputable def slotC (D : Dv) (k : Nat) : Option (Int × List M) := open Classical in
  if Right D k then some ((decC (slotSs D k)).1, (decC (slotSs D k)).2.1) else none
noncomputable def bestC : Option (Int × List M) → Option (Int × List M) → Int × List M × Nat
  | some a, some b => if b.1 < a.1 then (a.1, a.2, 0) else (b.1, b.2, 0)
  | some a, none => (a.1, a.2, 0)
  | none, some b => (b.1, b.2, 0)
  | none, none => (0, [], 230)
noncomputable def loadC (D : Dv) : Int × List M × Nat := if D.dead then (0, [], 190) else bestC (slotC D 0) (slotC D 1)
def readsC (D : Dv) (n : Nat) : Dv := { D with calls := D.calls + n }
def nreads (D : Dv) : Nat := (if hasS D 0 then 5 else 0) + (if hasS D 1 then 5 else 0)
def loadedC (D : Dv) : Dv := if D.dead then D else readsC D (nreads D)
theorem reads_ok {D : Dv} (h : D.Ok) (n : Nat) : (readsC D n).Ok := ⟨h.cap, h.kept, h.now, h.keptM, h.nowM, h.pend⟩
theorem reads_sm {D : Dv} {k : Nat} (h : Sm D k) (n : Nat) : Sm (readsC D n) (k + n) := ⟨by show D.calls + n ≤ _; have := h.calls; omega, by show D.pend.length ≤ _; have := h.pend; omega, h.at_, h.keep⟩
theorem reads_reads (D : Dv) (a b : Nat) : readsC (readsC D a) b = readsC D (a + b) := by unfold readsC; simp [Nat.add_assoc]
theorem loaded_ok {D : Dv} (h : D.Ok) : (loadedC D).Ok := by unfold loadedC; split; (· exact h); (· exact reads_ok h _)
theorem loaded_sm {D : Dv} {k : Nat} (h : Sm D k) : Sm (loadedC D) (k + 10) := by
  unfold loadedC
  split
  · exact h.more (by omega)
  · refine (reads_sm h _).more ?_
    unfold nreads
    split <;> split <;> omega
end Go.Proofs.YthgfdpcpbghkpaaDoor.Cat
namespace Go.Proofs.YthgfdpcpbghkpaaDoor.Wal
open Go.RowKit Rec Pth Dsk
def chs : Nat → List By → List Ch
  | _, [] => []
  | i, t :: T => .write i t :: chs (i + 1) T
def apAll : Nat → List By → By → By
  | _, [], s => s
  | i, t :: T, s => apAll (i + 1) T ((Ch.write i t).ap s)
theorem mod_write {s t : By} {i : Nat} (ht : t.length = 512) (hm : s.length % 512 = 0) : ((Ch.write i t).ap s).length % 512 = 0 := by
  rw [len_write ht hm]
  omega
theorem apAll_len : ∀ (T : List By) (i : Nat) (s : By), (∀ t ∈ T, t.length = 512) → s.length % 512 = 0 → (apAll i T s).length = if T = [] then s.length else max s.length ((i + T.length) * 512)
  | [], i, s, _, _ => rfl
  | t :: T, i, s, hT, hm => by
    have ht := hT t (by simp)
    rw [apAll, apAll_len T (i + 1) _ (fun x hx => hT x (by simp [hx])) (mod_write ht hm), len_write ht hm, if_neg (List.cons_ne_nil _ _), List.length_cons]
    split
    · rename_i e
      subst e
      rfl
    · omega
theorem apAll_sec : ∀ (T : List By) (i : Nat) (s : By), (∀ t ∈ T, t.length = 512) → s.length % 512 = 0 → ∀ j, (i ≤ j ∧ j < i + T.length) ∨ j < s.length / 512 → sec (apAll i T s) j = if i ≤ j ∧ j < i + T.length then T.getD (j - i) [] else sec s j
  | [], i, s, _, _, j, _ => by
    rw [apAll, if_neg (by simp only [List.length_nil]; omega)]
  | t :: T, i, s, hT, hm, j, hj => by
    have ht := hT t (by simp)
    have hlen := len_write (i := i) ht hm
    simp only [List.length_cons] at hj ⊢
    rw [apAll, apAll_sec T (i + 1) _ (fun x hx => hT x (by simp [hx])) (mod_write ht hm) j (by rw [hlen]; omega)]
    by_cases h1 : i + 1 ≤ j ∧ j < i + 1 + T.length
    · rw [if_pos h1, if_pos (by omega), show j - i = (j - (i + 1)) + 1 by omega]
      rfl
    · rw [if_neg h1, sec_write hm ht (by omega)]
      by_cases h2 : j = i
      · subst h2
        rw [if_pos rfl, if_pos (by omega), Nat.sub_self]
        rfl
      · rw [if_neg h2, if_neg (by omega)]
theorem write_live {D : Dv} (h1 : D.dead = false) (h2 : D.at_ ≠ 1) {i : Nat} (hi : i < D.cap) {t : By} (ht : t.length = 512) :
    D.write (i : Int) t = ({ D with pend := D.pend ++ [.write i t], now := (Ch.write i t).ap D.now, at_ := D.at_ - 1, calls := D.calls + 1 }, 0) := by
  unfold Dv.write
  rw [if_neg (by rw [h1]; decide), if_neg (by omega), if_neg (by omega), does_go (by exact h2)]
  rfl
theorem write_fall {D : Dv} (h1 : D.dead = false) (h2 : D.at_ = 1) {i : Nat} (hi : i < D.cap) {t : By} (ht : t.length = 512) :
    D.write (i : Int) t = ({ D with kept := fallen (D.pend ++ [.write i t]) D.keep D.kept, now := fallen (D.pend ++ [.write i t]) D.keep D.kept, pend := [], at_ := 0, keep := [], dead := true }, 190) := by
  unfold Dv.write
  rw [if_neg (by rw [h1]; decide), if_neg (by omega), if_neg (by omega), does_fall (by exact h2)]
  rfl
theorem writes_live : ∀ (T : List By) (D : Dv) (i : Nat), D.dead = false → (D.at_ = 0 ∨ T.length < D.at_) → (∀ t ∈ T, t.length = 512) → i + T.length ≤ D.cap →
    writes D i T = ({ D with pend := D.pend ++ chs i T, now := apAll i T D.now, at_ := D.at_ - T.length, calls := D.calls + T.length }, 0)
  | [], D, i, _, _, _, _ => by
    obtain ⟨a, b, c, d, e, f, g, h⟩ := D
    simp [writes, chs, apAll]
  | t :: T, D, i, h1, h2, hT, hi => by
    simp only [List.length_cons] at hi h2
    have ih := writes_live T { D with pend := D.pend ++ [.write i t], now := (Ch.write i t).ap D.now, at_ := D.at_ - 1, calls := D.calls + 1 } (i + 1) h1 (by simp only; omega) (fun x hx => hT x (by simp [hx])) (by simp only; omega)
    rw [writes_cons, write_live h1 (by omega) (by omega) (hT t (by simp)), if_pos rfl]
    simp only
    rw [ih]
    simp only [chs, apAll, List.append_assoc, List.cons_append, List.nil_append, List.length_cons]
    congr 2
    · omega
    · omega
theorem writes_fall : ∀ (T : List By) (D : Dv) (i : Nat), D.dead = false → 1 ≤ D.at_ → D.at_ ≤ T.length → (∀ t ∈ T, t.length = 512) → i + T.length ≤ D.cap →
    ∃ c, writes D i T = ({ D with kept := fallen (D.pend ++ chs i (T.take D.at_)) D.keep D.kept, now := fallen (D.pend ++ chs i (T.take D.at_)) D.keep D.kept, pend := [], at_ := 0, keep := [], dead := true, calls := c }, 190)
  | [], D, i, _, h2, h3, _, _ => by simp at h3; omega
  | t :: T, D, i, h1, h2, h3, hT, hi => by
    simp only [List.length_cons] at hi h3
    by_cases ha : D.at_ = 1
    · refine ⟨D.calls, ?_⟩
      rw [writes_cons, write_fall h1 ha (by omega) (hT t (by simp)), if_neg (show ¬ (190 : Nat) = 0 by decide), ha]
      simp [chs]
    · obtain ⟨c, ih⟩ := writes_fall T { D with pend := D.pend ++ [.write i t], now := (Ch.write i t).ap D.now, at_ := D.at_ - 1, calls := D.calls + 1 } (i + 1) h1 (by simp only; omega) (by simp only; omega) (fun x hx => hT x (by simp [hx])) (by simp only; omega)
      refine ⟨c, ?_⟩
      rw [writes_cons, write_live h1 ha (by omega) (hT t (by simp)), if_pos rfl]
      simp only
      rw [ih]
      obtain ⟨a, ea⟩ : ∃ a, D.at_ = a + 1 := ⟨D.at_ - 1, by omega⟩
      simp only [ea, Nat.add_sub_cancel, List.take_succ_cons, chs, List.append_assoc, List.cons_append, List.nil_append]
theorem fallen_nil (cs : List Ch) (s : By) : fallen cs [] s = s := by cases cs <;> rfl
theorem fallen_sec : ∀ (T : List By) (i : Nat) (bs : List Bool) (s : By), (∀ t ∈ T, t.length = 512) → s.length % 512 = 0 → (i + T.length) * 512 ≤ s.length →
    (fallen (chs i T) bs s).length = s.length ∧ ∀ j, j < s.length / 512 → sec (fallen (chs i T) bs s) j = sec s j ∨ (i ≤ j ∧ j < i + T.length ∧ sec (fallen (chs i T) bs s) j = T.getD (j - i) []) := by
  intro T
  induction T with
  | nil =>
    intro i bs s _ _ _
    have e : fallen (chs i []) bs s = s := by rw [chs, fallen]
    rw [e]
    exact ⟨rfl, fun j _ => .inl rfl⟩
  | cons t T ih =>
    intro i bs s hT hm hl
    cases bs with
    | nil =>
      rw [fallen_nil]
      exact ⟨rfl, fun j _ => .inl rfl⟩
    | cons b bs =>
      simp only [List.length_cons] at hl
      have ht := hT t (by simp)
      have e : fallen (chs i (t :: T)) (b :: bs) s = fallen (chs (i + 1) T) bs (if b = true then (Ch.write i t).ap s else s) := rfl
      have hlen : (if b = true then (Ch.write i t).ap s else s).length = s.length := by
        split
        · rw [len_write ht hm]; omega
        · rfl
      have hsec : ∀ j, j < s.length / 512 → sec (if b = true then (Ch.write i t).ap s else s) j = sec s j ∨ (j = i ∧ sec (if b = true then (Ch.write i t).ap s else s) j = t) := by
        intro j hj
        by_cases hb : b = true
        · rw [if_pos hb, sec_write hm ht (.inr hj)]
          by_cases e : j = i
          · rw [if_pos e]
            exact .inr ⟨e, rfl⟩
          · rw [if_neg e]
            exact .inl rfl
        · rw [if_neg hb]
          exact .inl rfl
      rw [e]
      generalize (if b = true then (Ch.write i t).ap s else s) = s' at hlen hsec
      have q1 : s'.length % 512 = 0 := by rw [hlen]; exact hm
      have q2 : (i + 1 + T.length) * 512 ≤ s'.length := by rw [hlen, show i + 1 + T.length = i + (T.length + 1) by omega]; exact hl
      obtain ⟨h1, h2⟩ := ih (i + 1) bs s' (fun x hx => hT x (by simp [hx])) q1 q2
      refine ⟨by rw [h1, hlen], fun j hj => ?_⟩
      rcases h2 j (by rw [hlen]; exact hj) with h | ⟨h3, h4, h5⟩
      · rw [h]
        rcases hsec j hj with q | ⟨q3, q4⟩
        · exact .inl q
        · subst q3
          exact .inr ⟨Nat.le_refl _, by simp only [List.length_cons]; omega, by rw [q4, Nat.sub_self]; rfl⟩
      · refine .inr ⟨by omega, by simp only [List.length_cons]; omega, ?_⟩
        rw [h5, show j - i = (j - (i + 1)) + 1 by omega]
        rfl
structure Quiet (D : Dv) (rd : Nat → By) (n : Nat) : Prop where
  ok : D.Ok
  cap : D.cap = 40
  dead : D.dead = false
  at_ : D.at_ = 0
  pend : D.pend = []
  kept : D.kept = D.now
  len : D.now.length = if n = 0 then 0 else (10 + n) * 512
  rd : ∀ k, k < n → sec D.now (10 + k) = rd k
  le : n ≤ 20
theorem Quiet.fresh (rd : Nat → By) : Quiet (fresh 40 []) rd 0 := ⟨fresh_ok (by decide) (by decide) (by decide), rfl, rfl, rfl, rfl, rfl, rfl, fun k hk => by omega, by omega⟩
theorem Quiet.as {D : Dv} {rd rd' : Nat → By} {n : Nat} (h : Quiet D rd n) (e : ∀ k, k < n → rd k = rd' k) : Quiet D rd' n := ⟨h.ok, h.cap, h.dead, h.at_, h.pend, h.kept, h.len, fun k hk => (h.rd k hk).trans (e k hk), h.le⟩
def okT (a : Nat) (l : List Nt) : Prop := 0 < l.length ∧ l.length + a < 20 ∧ ∀ n ∈ l, n.kind = 1 ∧ mayM n.mem
instance (a : Nat) (l : List Nt) : Decidable (okT a l) := by unfold okT; infer_instance
def pick (r : List (List Nt) × Nat) (l : List Nt) : List (List Nt) × Nat := if okT r.2 l then (r.1 ++ [l], r.2 + l.length + 1) else r
end Go.Proofs.YthgfdpcpbghkpaaDoor.Wal
namespace Go.Proofs.YthgfdpcpbghkpaaDoor.Cat
open Pth Rec Srt Dsk Wal
structure Rest (D : Dv) : Prop where
  ok : D.Ok
  dead : D.dead = false
  pend : D.pend = []
  kept : D.kept = D.now
def Sums (l : List M) : Prop := ∀ m ∈ l, m.sum ≤ 4294967295
structure Saved (D D' : Dv) (gen : Nat) (l : List M) : Prop where
  rest : Rest D'
  now : D'.now = apAll (gen % 2 * 5) (sect5 gen (allT l)) D.now
  cap : D'.cap = D.cap
  at_ : D'.at_ = D.at_ - 6
theorem save_live {D : Dv} (h : Rest D) (ha : D.at_ = 0 ∨ 6 < D.at_) {gen : Nat} {l : List M} (hE : OkE gen l) (hC : OkC l D.cap) (hcap : 10 ≤ D.cap) : (saveC D gen l).2 = 0 ∧ Saved D (saveC D gen l).1 gen l := by
  rw [saveC_go ⟨hE, hC⟩]
  simp only [Int.toNat_natCast]
  have hT := sect5_all (gen := (gen : Int)) (allT l)
  have hl := sect5_len (gen : Int) (allT l)
  have hmod := h.ok.nowM
  have hnow := h.ok.now
  have hlen := apAll_len (sect5 (gen : Int) (allT l)) (gen % 2 * 5) D.now hT hmod
  rw [writes_live _ D (gen % 2 * 5) h.dead (by omega) hT (by omega)]
  simp only [if_true]
  have hne : sect5 (gen : Int) (allT l) ≠ [] := fun e => by rw [e] at hl; cases hl
  rw [if_neg hne, hl] at hlen
  have hs : Dv.sync { D with pend := D.pend ++ chs (gen % 2 * 5) (sect5 (gen : Int) (allT l)), now := apAll (gen % 2 * 5) (sect5 (gen : Int) (allT l)) D.now, at_ := D.at_ - (sect5 (gen : Int) (allT l)).length, calls := D.calls + (sect5 (gen : Int) (allT l)).length } = ({ D with pend := [], kept := apAll (gen % 2 * 5) (sect5 (gen : Int) (allT l)) D.now, now := apAll (gen % 2 * 5) (sect5 (gen : Int) (allT l)) D.now, at_ := D.at_ - 6, calls := D.calls + 5 + 1 }, 0) := by
    unfold Dv.sync
    rw [if_neg (by show ¬ D.dead = true; rw [h.dead]; decide), does_go (by show D.at_ - _ ≠ 1; rw [hl]; omega)]
    simp only [Dv.done, Dv.pushed, hl]
    congr 2
  rw [hs]
  refine ⟨rfl, ⟨⟨h.ok.cap, ?_, ?_, ?_, ?_, fun c hc => by simp at hc⟩, h.dead, rfl, rfl⟩, rfl, rfl, rfl⟩
  all_goals simp only [hlen]; omega
theorem Saved.len {D D' : Dv} {gen : Nat} {l : List M} (s : Saved D D' gen l) (h : Rest D) : D'.now.length = max D.now.length ((gen % 2 * 5 + 5) * 512) := by
  have hlen := apAll_len (sect5 (gen : Int) (allT l)) (gen % 2 * 5) D.now (sect5_all _) h.ok.nowM
  have hl := sect5_len (gen : Int) (allT l)
  have hne : sect5 (gen : Int) (allT l) ≠ [] := fun e => by rw [e] at hl; cases hl
  rw [if_neg hne, hl] at hlen
  rw [s.now, hlen]
theorem Saved.sec {D D' : Dv} {gen : Nat} {l : List M} (s : Saved D D' gen l) (h : Rest D) {j : Nat} (hj : (gen % 2 * 5 ≤ j ∧ j < gen % 2 * 5 + 5) ∨ j < D.now.length / 512) : secAt D'.now j = if gen % 2 * 5 ≤ j ∧ j < gen % 2 * 5 + 5 then (sect5 gen (allT l)).getD (j - gen % 2 * 5) [] else secAt D.now j := by
  have := apAll_sec (sect5 (gen : Int) (allT l)) (gen % 2 * 5) D.now (sect5_all _) h.ok.nowM j (by rw [sect5_len]; exact hj)
  rw [sect5_len] at this
  rw [s.now]
  exact this
theorem slotSs_ext {D D' : Dv} {k : Nat} (h : ∀ i, i < 5 → secAt D'.now (k * 5 + i) = secAt D.now (k * 5 + i)) : slotSs D' k = slotSs D k := by
  unfold slotSs
  apply List.map_congr_left
  intro i hi
  exact h i (List.mem_range.1 hi)
theorem slotC_ext {D D' : Dv} {k : Nat} (h : hasS D k ↔ hasS D' k) (hs : slotSs D' k = slotSs D k) (hc : D'.cap = D.cap) : slotC D' k = slotC D k := by
  have e : Right D' k ↔ Right D k := ⟨fun q => ⟨h.2 q.has, by rw [← hs]; exact q.dec, by rw [← hs]; exact q.par, by rw [← hs, ← hc]; exact q.chk⟩, fun q => ⟨h.1 q.has, by rw [hs]; exact q.dec, by rw [hs]; exact q.par, by rw [hs, hc]; exact q.chk⟩⟩
  unfold slotC
  rw [hs]
  rcases Classical.em (Right D k) with q | q
  · rw [if_pos q, if_pos (e.2 q)]
  · rw [if_neg q, if_neg (fun z => q (e.1 z))]
theorem Saved.slot {D D' : Dv} {gen : Nat} {l : List M} (s : Saved D D' gen l) (h : Rest D) (hE : OkE gen l) (hC : OkC l D.cap) (hsum : Sums l) : slotC D' (gen % 2) = some ((gen : Int), l) := by
  have hl := s.len h
  have hss : slotSs D' (gen % 2) = sect5 gen (allT l) := by
    apply List.ext_getElem?
    intro i
    rcases Nat.lt_or_ge i 5 with hi | hi
    · rw [List.getElem?_eq_getElem (by rw [slotSs_len]; exact hi)]
      have e : (slotSs D' (gen % 2))[i]'(by rw [slotSs_len]; exact hi) = secAt D'.now (gen % 2 * 5 + i) := by simp [slotSs]
      rw [e, s.sec h (.inl (by omega)), if_pos (by omega), Nat.add_sub_cancel_left, List.getD_eq_getElem?_getD, sect5_get _ _ hi]
      rfl
    · rw [List.getElem?_eq_none (by rw [slotSs_len]; exact hi), List.getElem?_eq_none (by rw [sect5_len]; exact hi)]
  have hd := dec_back hsum (encC_ok hE)
  have hr : Right D' (gen % 2) := ⟨by unfold hasS; omega, by rw [hss, hd], by rw [hss, hd]; show (gen : Int) % 2 = _; omega, by rw [hss, hd, s.cap]; exact hC⟩
  unfold slotC
  rw [if_pos hr, hss, hd]
theorem Saved.other {D D' : Dv} {gen k : Nat} {l : List M} (s : Saved D D' gen l) (h : Rest D) (hk : k < 2) (hn : k ≠ gen % 2) (hh : hasS D k) : slotC D' k = slotC D k := by
  have hl := s.len h
  have hh2 := hh
  unfold hasS at hh2
  refine slotC_ext ⟨fun _ => ?_, fun _ => hh⟩ (slotSs_ext fun i hi => ?_) s.cap
  · unfold hasS
    omega
  · rw [s.sec h (.inr (by omega)), if_neg (by omega)]
theorem sec_zeros0 (t : List UInt8) {i j : Nat} (hj : j < i) : secAt ((Ch.write i t).ap []) j = zeros 512 := by
  unfold secAt
  rw [ap_write]
  simp only [List.nil_append, List.length_nil, Nat.sub_zero, List.append_assoc]
  have e : (zeros ((i + 1) * 512)).take (i * 512) = zeros (j * 512) ++ (zeros 512 ++ zeros (i * 512 - j * 512 - 512)) := by
    unfold zeros
    rw [List.take_replicate, List.replicate_append_replicate, List.replicate_append_replicate]
    have e2 : min (i * 512) ((i + 1) * 512) = j * 512 + (512 + (i * 512 - j * 512 - 512)) := by omega
    rw [e2]
  rw [e, List.append_assoc, List.drop_append_of_le_length (by rw [zeros_length]; exact Nat.le_refl _), List.drop_of_length_le (by rw [zeros_length]; exact Nat.le_refl _), List.nil_append, List.append_assoc, List.take_append_of_le_length (by rw [zeros_length]; exact Nat.le_refl _), List.take_of_length_le (by rw [zeros_length]; exact Nat.le_refl _)]
theorem zeros_no : (decodeR (zeros 512)).2 ≠ 0 := by
  unfold decodeR
  rw [if_neg]
  · decide
  · rintro ⟨_, _, h⟩
    have hk : (decR (zeros 512)).kind = 0 := rfl
    rw [hk] at h
    unfold encodeR at h
    rw [if_pos (by unfold bad; omega)] at h
    cases h
theorem Saved.first {D D' : Dv} {gen k : Nat} {l : List M} (s : Saved D D' gen l) (h : Rest D) (he : D.now = []) (hk : k < 2) (hn : k ≠ gen % 2) : slotC D' k = none := by
  have hl := s.len h
  rw [he] at hl
  simp only [List.length_nil] at hl
  unfold slotC
  rw [if_neg]
  intro q
  have hh := q.has
  unfold hasS at hh
  obtain ⟨rfl, hg⟩ : k = 0 ∧ gen % 2 = 1 := by omega
  have hz : secAt D'.now (0 * 5 + 0) = zeros 512 := by
    rw [s.now, he, hg]
    have hT := sect5_all (gen := (gen : Int)) (allT l)
    have hl5 := sect5_len (gen : Int) (allT l)
    generalize sect5 (gen : Int) (allT l) = T at hT hl5
    match T, hT, hl5 with
    | t :: T, hT, hl5 =>
      have ht := hT t (by simp)
      rw [apAll]
      have h2 := apAll_sec T (1 * 5 + 1) ((Ch.write (1 * 5) t).ap []) (fun x hx => hT x (by simp [hx])) (mod_write ht rfl) 0 (.inr (by rw [len_write ht rfl]; show 0 < (max 0 ((1 * 5 + 1) * 512)) / 512; decide))
      rw [if_neg (by omega)] at h2
      exact h2.trans (sec_zeros0 t (by decide))
  have hd : OkD (slotSs D' 0) := Classical.byContradiction fun z => by
    have := q.dec
    rw [decC_no z] at this
    cases this
  have h0 : 0 < (slotSs D' 0).length := by rw [slotSs_len]; decide
  have h3 := (okD_at hd h0).2.1
  have e : (slotSs D' 0)[0] = secAt D'.now (0 * 5 + 0) := by simp [slotSs]
  rw [e, hz] at h3
  exact zeros_no h3
def m0 : M := ⟨[97], 30, 2, 5, 1⟩
def B0 : Dv := fresh 60 []
theorem B0_rest : Rest B0 := ⟨fresh_ok (by decide) (by decide) (by decide), rfl, rfl, rfl⟩
theorem m0_may : mayM m0 := by decide +kernel
theorem okC_nil {cap : Int} (h : 1 ≤ cap ∧ cap ≤ 4096) : OkC [] cap := ⟨by decide, by simp, List.Pairwise.nil, ⟨h, by simp [exts], List.Pairwise.nil⟩⟩
theorem okC_m0 {cap : Int} (h : 32 ≤ cap ∧ cap ≤ 4096) : OkC [m0] cap := by
  refine ⟨by decide, fun m hm => ?_, List.pairwise_singleton _ _, ⟨by omega, fun x hx => ?_, List.pairwise_singleton _ _⟩⟩
  · simp only [List.mem_singleton] at hm
    subst hm
    exact m0_may
  · simp only [exts, List.map_cons, List.map_nil, List.mem_singleton] at hx
    subst hx
    show 30 ≤ (30 : Int) ∧ 1 ≤ (2 : Int) ∧ (30 : Int) ≤ cap ∧ (2 : Int) ≤ cap - 30
    omega
theorem okE_nil {g : Int} (h : 0 ≤ g ∧ g ≤ 4611686018427387904) : OkE g [] := ⟨h.1, h.2, okC_nil (by decide)⟩
theorem okE_m0 {g : Int} (h : 0 ≤ g ∧ g ≤ 4611686018427387904) : OkE g [m0] := ⟨h.1, h.2, okC_m0 (by decide)⟩
theorem a_save4 : (saveC B0 4 []).2 = 0 ∧ Saved B0 (saveC B0 4 []).1 4 [] := save_live (gen := 4) B0_rest (.inl rfl) (okE_nil (by decide)) (okC_nil (by decide)) (by decide)
theorem a_save5 : (saveC (saveC B0 4 []).1 5 [m0]).2 = 0 ∧ Saved (saveC B0 4 []).1 (saveC (saveC B0 4 []).1 5 [m0]).1 5 [m0] := by
  have h := a_save4.2
  exact save_live (gen := 5) h.rest (.inl (by rw [h.at_]; rfl)) (okE_m0 (by decide)) (okC_m0 (by rw [h.cap]; decide)) (by rw [h.cap]; decide)
theorem cat_len : (saveC (saveC B0 4 []).1 5 [m0]).1.now.length = 5120 := by
  have h := a_save4.2
  have e1 := h.len B0_rest
  have e2 := a_save5.2.len h.rest
  rw [e2, e1]
  decide
theorem a_load : loadC (saveC (saveC B0 4 []).1 5 [m0]).1 = (5, [m0], 0) := by
  have h := a_save4.2
  have h5 := a_save5.2
  have e1 := h.len B0_rest
  have s5 : slotC (saveC (saveC B0 4 []).1 5 [m0]).1 1 = some (5, [m0]) := h5.slot h.rest (okE_m0 (by decide)) (okC_m0 (by rw [h.cap]; decide)) (fun m hm => by simp only [List.mem_singleton] at hm; subst hm; decide)
  have s4 : slotC (saveC B0 4 []).1 0 = some (4, []) := h.slot B0_rest (okE_nil (by decide)) (okC_nil (by decide)) (fun m hm => by cases hm)
  have s0 := h5.other (k := 0) h.rest (by decide) (by decide) (by unfold hasS; rw [e1]; decide)
  unfold loadC
  rw [if_neg (by rw [h5.rest.dead]; decide), s5, s0, s4]
  rfl
end Go.Proofs.YthgfdpcpbghkpaaDoor.Cat
namespace Go.Proofs.YthgfdpcpbghkpaaDoor.Cat
open Pth Rec Srt Dsk Wal
structure Fell (D D' : Dv) (gen : Nat) (l : List M) : Prop where
  dead : D'.dead = true
  pend : D'.pend = []
  kept : D'.kept = D'.now
  at_ : D'.at_ = 0
  cap : D'.cap = D.cap
  len : D'.now.length = D.now.length
  sec : ∀ j, j < D.now.length / 512 → secAt D'.now j = secAt D.now j ∨ (gen % 2 * 5 ≤ j ∧ j < gen % 2 * 5 + 5 ∧ secAt D'.now j = (sect5 gen (allT l)).getD (j - gen % 2 * 5) [])
set_option maxRecDepth 20000 in
theorem fell_sec {D : Dv} (h : Rest D) {T : List (List UInt8)} {i : Nat} (hT : ∀ t ∈ T, t.length = 512) (hl : (i + T.length) * 512 ≤ D.now.length) (a : Nat) (ks : List Bool) :
    (fallen (D.pend ++ chs i (T.take a)) ks D.kept).length = D.now.length ∧ ∀ j, j < D.now.length / 512 → secAt (fallen (D.pend ++ chs i (T.take a)) ks D.kept) j = secAt D.now j ∨ (i ≤ j ∧ j < i + T.length ∧ secAt (fallen (D.pend ++ chs i (T.take a)) ks D.kept) j = T.getD (j - i) []) := by
  rw [h.pend, List.nil_append, h.kept]
  have hlt : (T.take a).length ≤ T.length := by rw [List.length_take]; omega
  obtain ⟨h1, h2⟩ := fallen_sec (T.take a) i ks D.now (fun t ht => hT t (List.mem_of_mem_take ht)) h.ok.nowM (by omega)
  refine ⟨h1, fun j hj => ?_⟩
  rcases h2 j hj with q | ⟨q1, q2, q3⟩
  · exact .inl q
  · refine .inr ⟨q1, by omega, q3.trans ?_⟩
    rw [List.length_take] at q2
    rw [List.getD_eq_getElem?_getD, List.getD_eq_getElem?_getD, List.getElem?_take, if_pos (by omega)]
set_option maxRecDepth 20000 in
theorem save_fall {D : Dv} (h : Rest D) (h1 : 1 ≤ D.at_) (h6 : D.at_ ≤ 6) {gen : Nat} {l : List M} (hE : OkE gen l) (hC : OkC l D.cap) (hl : (gen % 2 * 5 + 5) * 512 ≤ D.now.length) : (saveC D gen l).2 = 190 ∧ Fell D (saveC D gen l).1 gen l := by
  rw [saveC_go ⟨hE, hC⟩]
  simp only [Int.toNat_natCast]
  have hT := sect5_all (gen := (gen : Int)) (allT l)
  have h5 := sect5_len (gen : Int) (allT l)
  have hnow := h.ok.now
  have hsec := fun a => fell_sec h (i := gen % 2 * 5) hT (by rw [h5]; exact hl) a D.keep
  rw [h5] at hsec
  obtain ⟨T, hTe⟩ : ∃ T, T = sect5 (gen : Int) (allT l) := ⟨_, rfl⟩
  rw [← hTe] at hT h5 hsec ⊢
  rcases Nat.lt_or_ge D.at_ 6 with h7 | h7
  · obtain ⟨c, e⟩ := writes_fall T D (gen % 2 * 5) h.dead h1 (by omega) hT (by omega)
    rw [e]
    simp only [show ¬ (190 : Nat) = 0 by decide, if_false]
    obtain ⟨q1, q2⟩ := hsec D.at_
    rw [hTe] at q1 q2
    refine ⟨by first | rfl | trivial, ⟨rfl, rfl, rfl, rfl, rfl, ?_, ?_⟩⟩
    · rw [hTe]; exact q1
    · rw [hTe]; exact q2
  · have e6 : D.at_ = 6 := by omega
    rw [writes_live T D (gen % 2 * 5) h.dead (by omega) hT (by omega)]
    simp only [if_true]
    have hs : Dv.sync { D with pend := D.pend ++ chs (gen % 2 * 5) T, now := apAll (gen % 2 * 5) T D.now, at_ := D.at_ - T.length, calls := D.calls + T.length } = ({ D with kept := fallen (D.pend ++ chs (gen % 2 * 5) T) D.keep D.kept, now := fallen (D.pend ++ chs (gen % 2 * 5) T) D.keep D.kept, pend := [], at_ := 0, keep := [], dead := true, calls := D.calls + T.length }, 190) := by
      unfold Dv.sync
      rw [if_neg (by show ¬ D.dead = true; rw [h.dead]; decide), does_fall (by show D.at_ - T.length = 1; omega)]
      rfl
    rw [hs]
    obtain ⟨q1, q2⟩ := hsec 5
    rw [List.take_of_length_le (by omega), hTe] at q1 q2
    refine ⟨by first | rfl | trivial, ⟨rfl, rfl, rfl, rfl, rfl, ?_, ?_⟩⟩
    · rw [hTe]; exact q1
    · rw [hTe]; exact q2
theorem mixed_two {g1 g2 : Nat} (hg : g1 ≠ g2) {l1 l2 : List M} (h1 : OkE g1 l1) (h2 : OkE g2 l2) {ss : Txts} (hl : ss.length = 5) (h : ∀ i (hi : i < 5), ss[i] = sec5 g1 (allT l1) i ∨ ss[i] = sec5 g2 (allT l2) i) (hd : OkD ss) : ss = sect5 g1 (allT l1) ∨ ss = sect5 g2 (allT l2) := by
  have hgen : ∀ i (hi : i < 5), (decodeR ss[i]).1.gen = genOf ss := fun i hi => (okD_at hd (by omega)).2.2.2.1
  have d1 : ∀ i, i < 5 → (decodeR (sec5 g1 (allT l1) i)).1.gen = g1 := fun i hi => by rw [dec_sec h1.low h1.high _ hi]
  have d2 : ∀ i, i < 5 → (decodeR (sec5 g2 (allT l2) i)).1.gen = g2 := fun i hi => by rw [dec_sec h2.low h2.high _ hi]
  have all : ∀ (g : Nat) (l : List M), (∀ i (hi : i < 5), ss[i] = sec5 g (allT l) i) → ss = sect5 g (allT l) := fun g l q => by
    apply List.ext_getElem (by rw [hl, sect5_len])
    intro i i1 i2
    rw [q i (by omega)]
    simp [sect5]
  rcases Classical.em (genOf ss = (g1 : Int)) with q | q
  · left
    refine all g1 l1 fun i hi => (h i hi).resolve_right fun z => ?_
    have := hgen i hi
    rw [z, d2 i hi, q] at this
    omega
  · right
    refine all g2 l2 fun i hi => (h i hi).resolve_left fun z => ?_
    have := hgen i hi
    rw [z, d1 i hi] at this
    exact q this.symm
theorem okC_more {l : List M} {c c' : Int} (h : OkC l c) (hc : c ≤ c') (h2 : c' ≤ 4096) : OkC l c' := by
  refine ⟨h.len, h.may, h.rises, ⟨?_, fun x hx => ?_, h.ext.far⟩⟩
  · have := h.ext.room
    omega
  · have := h.ext.fit x hx
    unfold fitX at this ⊢
    omega
theorem okE_of {l : List M} {c : Int} (h : OkC l c) (hc : c ≤ 4096) {g : Nat} (hg : g ≤ 4611686018427387904) : OkE g l := ⟨by omega, by omega, okC_more h hc (Int.le_refl _)⟩
noncomputable def runs (l : List M) : Nat → Dv
  | 0 => fresh 100 []
  | g + 1 => (saveC (runs l g) (g : Nat) l).1
theorem runs_fine {l : List M} (hC : OkC l 100) : ∀ g, g ≤ 4 → Rest (runs l g) ∧ (runs l g).cap = 100 ∧ (runs l g).at_ = 0
  | 0, _ => ⟨⟨fresh_ok (by decide) (by decide) (by decide), rfl, rfl, rfl⟩, rfl, rfl⟩
  | g + 1, hg => by
    obtain ⟨h1, h2, h3⟩ := runs_fine hC g (by omega)
    have s := (save_live h1 (.inl h3) (okE_of hC (by decide) (by omega)) (gen := g) (by rw [h2]; exact hC) (by rw [h2]; decide)).2
    exact ⟨s.rest, s.cap.trans h2, by show (saveC (runs l g) (g : Nat) l).1.at_ = 0; rw [s.at_, h3]⟩
theorem runs_save {l : List M} (hC : OkC l 100) {g : Nat} (hg : g ≤ 4) : (saveC (runs l g) (g : Nat) l).2 = 0 ∧ Saved (runs l g) (runs l (g + 1)) g l := by
  obtain ⟨h1, h2, h3⟩ := runs_fine hC g hg
  exact save_live h1 (.inl h3) (okE_of hC (by decide) (by omega)) (by rw [h2]; exact hC) (by rw [h2]; decide)
theorem runs_four {l : List M} (hC : OkC l 100) (hsum : Sums l) : (runs l 4).now.length = 5120 ∧ slotC (runs l 4) 1 = some (3, l) ∧ ∀ i, i < 5 → secAt (runs l 4).now i = sec5 2 (allT l) i := by
  have r0 := (runs_fine hC 0 (by decide)).1
  have r1 := (runs_fine hC 1 (by decide)).1
  have r2 := (runs_fine hC 2 (by decide)).1
  obtain ⟨r3, c3, _⟩ := runs_fine hC 3 (by decide)
  have s1 := (runs_save hC (g := 0) (by decide)).2
  have s2 := (runs_save hC (g := 1) (by decide)).2
  have s3 := (runs_save hC (g := 2) (by decide)).2
  have s4 := (runs_save hC (g := 3) (by decide)).2
  have e0 : (runs l 0).now.length = 0 := rfl
  have e1 : (runs l 1).now.length = max 0 ((0 % 2 * 5 + 5) * 512) := s1.len r0
  have e2 : (runs l 2).now.length = max (runs l 1).now.length ((1 % 2 * 5 + 5) * 512) := s2.len r1
  have e3 : (runs l 3).now.length = max (runs l 2).now.length ((2 % 2 * 5 + 5) * 512) := s3.len r2
  have e4 : (runs l 4).now.length = max (runs l 3).now.length ((3 % 2 * 5 + 5) * 512) := s4.len r3
  refine ⟨by omega, s4.slot r3 (okE_of hC (by decide) (by decide)) (by rw [c3]; exact hC) hsum, fun i hi => ?_⟩
  have q4 : secAt (runs l 4).now i = _ := s4.sec r3 (.inr (by show i < (runs l 3).now.length / 512; omega))
  rw [if_neg (by omega)] at q4
  have q3 : secAt (runs l 3).now i = _ := s3.sec r2 (.inl (by omega))
  rw [if_pos (by omega), List.getD_eq_getElem?_getD, show i - 2 % 2 * 5 = i by omega, sect5_get _ _ hi] at q3
  exact q4.trans q3
noncomputable def planned (l : List M) (a : Nat) (ks : List Bool) : Dv := { runs l 4 with at_ := a, keep := ks }
theorem planned_rest {l : List M} (hC : OkC l 100) (a : Nat) (ks : List Bool) : Rest (planned l a ks) := by
  have h := (runs_fine hC 4 (by decide)).1
  exact ⟨⟨h.ok.cap, h.ok.kept, h.ok.now, h.ok.keptM, h.ok.nowM, h.ok.pend⟩, h.dead, h.pend, h.kept⟩
theorem bestC_hi {a b : Int × List M} (h : b.1 < a.1) : bestC (some a) (some b) = (a.1, a.2, 0) := if_pos h
theorem bestC_lo {a b : Int × List M} (h : ¬ b.1 < a.1) : bestC (some a) (some b) = (b.1, b.2, 0) := if_neg h
theorem bestC_34 (l more : List M) : bestC (some (4, more)) (some (3, l)) = (4, more, 0) := bestC_hi (a := (4, more)) (b := (3, l)) (show (3 : Int) < 4 by decide)
theorem torn_go {l more : List M} (hC : OkC l 100) (hC2 : OkC more 100) (hs : Sums l) (hs2 : Sums more) {a : Nat} (ha : 6 < a) (ks : List Bool) :
    (saveC (planned l a ks) 4 more).2 = 0 ∧ Rest (saveC (planned l a ks) 4 more).1 ∧ (saveC (planned l a ks) 4 more).1.cap = 100 ∧ loadC (saveC (planned l a ks) 4 more).1 = (4, more, 0) := by
  have hr := planned_rest hC a ks
  have hcap : (planned l a ks).cap = 100 := (runs_fine hC 4 (by decide)).2.1
  obtain ⟨hl, h1, _⟩ := runs_four hC hs
  have hl' : (planned l a ks).now.length = 5120 := hl
  obtain ⟨q, s⟩ := save_live (gen := 4) hr (.inr ha) (okE_of hC2 (by decide) (by decide)) (by rw [hcap]; exact hC2) (by rw [hcap]; decide)
  refine ⟨q, s.rest, s.cap.trans hcap, ?_⟩
  have e0 : slotC (saveC (planned l a ks) 4 more).1 0 = some (4, more) := s.slot hr (okE_of hC2 (by decide) (by decide)) (by rw [hcap]; exact hC2) hs2
  have e1 : slotC (saveC (planned l a ks) 4 more).1 1 = slotC (planned l a ks) 1 := s.other hr (by decide) (by decide) (by unfold hasS; rw [hl']; decide)
  have e2 : slotC (planned l a ks) 1 = some (3, l) := (slotC_ext (D := runs l 4) (D' := planned l a ks) Iff.rfl rfl rfl).trans h1
  have hdd : (saveC (planned l a ks) 4 more).1.dead = false := s.rest.dead
  unfold loadC
  rw [if_neg (by rw [hdd]; decide), e0, e1, e2]
  exact bestC_34 l more
theorem torn_fall {l more : List M} (hC : OkC l 100) (hC2 : OkC more 100) (hs : Sums l) (hs2 : Sums more) {a : Nat} (ha : 1 ≤ a) (ha6 : a ≤ 6) (ks : List Bool) {D : Dv} (hD : D = { (saveC (planned l a ks) 4 more).1 with dead := false }) :
    (saveC (planned l a ks) 4 more).2 = 190 ∧ (saveC (planned l a ks) 4 more).1.dead = true ∧ Rest D ∧ D.cap = 100 ∧ (loadC D = (3, l, 0) ∨ loadC D = (4, more, 0)) := by
  have hr := planned_rest hC a ks
  have hcap : (planned l a ks).cap = 100 := (runs_fine hC 4 (by decide)).2.1
  obtain ⟨hl, h1, h0⟩ := runs_four hC hs
  have hl' : (planned l a ks).now.length = 5120 := hl
  obtain ⟨q, f⟩ := save_fall (gen := 4) hr ha ha6 (okE_of hC2 (by decide) (by decide)) (by rw [hcap]; exact hC2) (by rw [hl']; decide)
  have hok := save_ok hr.ok (4 : Nat) more
  have hrD : Rest D := by
    subst hD
    exact ⟨⟨hok.cap, hok.kept, hok.now, hok.keptM, hok.nowM, hok.pend⟩, rfl, f.pend, f.kept⟩
  have hn : D.now = (saveC (planned l a ks) 4 more).1.now := by subst hD; rfl
  have hcD : D.cap = 100 := by subst hD; exact f.cap.trans hcap
  have hlD : D.now.length = 5120 := by rw [hn, ← hl']; exact f.len
  have hsec : ∀ j, j < 10 → secAt D.now j = secAt (runs l 4).now j ∨ (j < 5 ∧ secAt D.now j = (sect5 (4 : Nat) (allT more)).getD j []) := fun j hj => by
    rw [hn]
    rcases f.sec j (by rw [hl']; omega) with z | ⟨_, z2, z3⟩
    · exact .inl z
    · exact .inr ⟨by omega, z3⟩
  refine ⟨q, f.dead, hrD, hcD, ?_⟩
  have hhas : ∀ k, k < 2 → hasS D k := fun k hk => by unfold hasS; omega
  have hhas4 : ∀ k, k < 2 → hasS (runs l 4) k := fun k hk => by unfold hasS; omega
  have hc4 := (runs_fine hC 4 (by decide)).2.1
  have e1 : slotC D 1 = some (3, l) := by
    rw [← h1]
    refine slotC_ext ⟨fun _ => hhas 1 (by decide), fun _ => hhas4 1 (by decide)⟩ (slotSs_ext fun i hi => ?_) (hcD.trans hc4.symm)
    rcases hsec (1 * 5 + i) (by omega) with z | ⟨z, _⟩
    · exact z
    · omega
  have hl5 := slotSs_len D 0
  have hmix : ∀ i (hi : i < 5), (slotSs D 0)[i] = sec5 (2 : Nat) (allT l) i ∨ (slotSs D 0)[i] = sec5 (4 : Nat) (allT more) i := fun i hi => by
    have e : (slotSs D 0)[i] = secAt D.now (0 * 5 + i) := by simp [slotSs]
    rw [e]
    rcases hsec (0 * 5 + i) (by omega) with z | ⟨_, z⟩
    · left
      rw [z, show 0 * 5 + i = i by omega]
      exact h0 i hi
    · right
      rw [z, show 0 * 5 + i = i by omega, List.getD_eq_getElem?_getD, sect5_get _ _ hi]
      rfl
  have e0 : slotC D 0 = none ∨ slotC D 0 = some (2, l) ∨ slotC D 0 = some (4, more) := by
    rcases Classical.em (Right D 0) with z | z
    · right
      have hd : OkD (slotSs D 0) := Classical.byContradiction fun y => by
        have := z.dec
        rw [decC_no y] at this
        cases this
      unfold slotC
      rw [if_pos z]
      rcases mixed_two (by decide) (okE_of hC (by decide) (by decide)) (okE_of hC2 (by decide) (by decide)) hl5 hmix hd with y | y
      · left
        rw [y, dec_back hs (encC_ok (okE_of hC (by decide) (by decide)))]
        rfl
      · right
        rw [y, dec_back hs2 (encC_ok (okE_of hC2 (by decide) (by decide)))]
        rfl
    · left
      unfold slotC
      rw [if_neg z]
  unfold loadC
  rw [if_neg (by rw [hrD.dead]; decide), e1]
  rcases e0 with e0 | e0 | e0
  · left; rw [e0]; rfl
  · left; rw [e0]; exact bestC_lo (a := (2, l)) (b := (3, l)) (show ¬ (3 : Int) < 2 by decide)
  · right; rw [e0]; exact bestC_34 l more
end Go.Proofs.YthgfdpcpbghkpaaDoor.Cat
namespace Go.Proofs.YthgfdpcpbghkpaaDoor.Cat
open Pth Rec Srt Dsk Wal
theorem best_pair {D : Dv} {k : Nat} (hk : k < 2) {a : Int × List M} (h1 : slotC D k = some a) (h2 : slotC D (1 - k) = none ∨ ∃ b, slotC D (1 - k) = some b ∧ b.1 < a.1) (hd : D.dead = false) : loadC D = (a.1, a.2, 0) := by
  unfold loadC
  rw [if_neg (by rw [hd]; decide)]
  rcases (show k = 0 ∨ k = 1 by omega) with rfl | rfl
  · rw [h1]
    rcases h2 with h2 | ⟨b, h2, hb⟩
    · rw [show 1 - 0 = 1 from rfl] at h2
      rw [h2]; rfl
    · rw [show 1 - 0 = 1 from rfl] at h2
      rw [h2]; exact bestC_hi hb
  · rw [h1]
    rcases h2 with h2 | ⟨b, h2, hb⟩
    · rw [show 1 - 1 = 0 from rfl] at h2
      rw [h2]; rfl
    · rw [show 1 - 1 = 0 from rfl] at h2
      rw [h2]; exact bestC_lo (by omega)
noncomputable def B4 : Dv := fresh 4096 []
theorem B4_rest : Rest B4 := ⟨fresh_ok (by decide) (by decide) (by decide), rfl, rfl, rfl⟩
noncomputable def cahead (gen : Nat) (old : List M) : Dv := if 0 < gen then (saveC B4 ((gen - 1 : Nat) : Int) old).1 else B4
theorem cahead_fine (gen : Nat) (old : List M) (hs : Sums old) : Rest (cahead gen old) ∧ (cahead gen old).cap = 4096 ∧ (cahead gen old).at_ = 0 ∧
    (cahead gen old = B4 ∨ (0 < gen ∧ OkE ((gen - 1 : Nat) : Int) old ∧ OkC old 4096 ∧ Saved B4 (cahead gen old) (gen - 1) old)) := by
  unfold cahead
  split
  · rename_i h0
    rcases Classical.em (OkE ((gen - 1 : Nat) : Int) old ∧ OkC old 4096) with q | q
    · have s := (save_live (gen := gen - 1) B4_rest (.inl rfl) q.1 q.2 (by decide)).2
      exact ⟨s.rest, s.cap, by rw [s.at_]; rfl, .inr ⟨h0, q.1, q.2, s⟩⟩
    · have e : (saveC B4 ((gen - 1 : Nat) : Int) old) = (B4, 230) := saveC_no q
      rw [e]
      exact ⟨B4_rest, rfl, rfl, .inl rfl⟩
  · exact ⟨B4_rest, rfl, rfl, .inl rfl⟩
theorem back_load {gen : Nat} {l old : List M} (hE : OkE gen l) (hs : Sums l) (hs2 : Sums old) : (saveC (cahead gen old) gen l).2 = 0 ∧ Rest (saveC (cahead gen old) gen l).1 ∧ loadC (saveC (cahead gen old) gen l).1 = ((gen : Int), l, 0) := by
  obtain ⟨h1, h2, h3, h4⟩ := cahead_fine gen old hs2
  have hC : OkC l (cahead gen old).cap := by rw [h2]; exact hE.chk
  obtain ⟨e, s⟩ := save_live h1 (.inl h3) hE hC (by rw [h2]; decide)
  refine ⟨e, s.rest, ?_⟩
  have e1 := s.slot h1 hE hC hs
  refine best_pair (k := gen % 2) (by omega) e1 ?_ s.rest.dead
  rcases h4 with h4 | ⟨h0, hE', hC', s'⟩
  · left
    exact s.first h1 (by rw [h4]; rfl) (by omega) (by omega)
  · right
    refine ⟨(((gen - 1 : Nat) : Int), old), ?_, by show ((gen - 1 : Nat) : Int) < (gen : Int); omega⟩
    have e2 := s'.slot B4_rest hE' hC' hs2
    have hl := s'.len B4_rest
    have e0 : B4.now.length = 0 := rfl
    have hk : 1 - gen % 2 = (gen - 1) % 2 := by omega
    rw [hk, s.other h1 (by omega) (by omega) (by unfold hasS; omega)]
    exact e2
end Go.Proofs.YthgfdpcpbghkpaaDoor.Cat
namespace Go.Proofs.YthgfdpcpbghkpaaDoor
open Go.RowKit
theorem flat_get {α : Type} {cells : α → List Value} {c : Nat} (hc : ∀ a, (cells a).length = c) : ∀ (l : List α) (i j : Nat) (hi : i < l.length) (u : Value), (cells l[i])[j]? = some u → (l.flatMap cells)[i * c + j]? = some u
  | a :: l, 0, j, hi, u, hu => by
    have hj : j < (cells a).length := (List.getElem?_eq_some_iff.1 hu).1
    rw [Nat.zero_mul, Nat.zero_add, List.flatMap_cons, List.getElem?_append_left hj]
    exact hu
  | a :: l, i + 1, j, hi, u, hu => by
    rw [List.flatMap_cons, List.getElem?_append_right (by rw [hc, Nat.succ_mul]; omega), hc, show (i + 1) * c + j - c = i * c + j by rw [Nat.succ_mul]; omega]
    exact flat_get hc l i j (by simpa using hi) u hu
theorem Sl.flat {α : Type} {cells : α → List Value} {c : Nat} {w : World} {B : Nat} {A : Option Addr} {l : List α} (h : Sl w B A (l.flatMap cells)) (hc : ∀ a, (cells a).length = c) (h0 : 0 < c) {i : Nat} (hi : i < l.length) :
    ∃ b o, A = some ⟨b, o, none⟩ ∧ b < B ∧ ∀ j u, (cells l[i])[j]? = some u → w.cell? ⟨b, o + i * c + j, none⟩ = some u := by
  have hlt : 0 < (cells l[i]).length := by rw [hc]; exact h0
  have hp : 0 < (l.flatMap cells).length := by
    have := (List.getElem?_eq_some_iff.1 (flat_get hc l i 0 hi _ (List.getElem?_eq_getElem hlt))).1
    omega
  obtain ⟨b, o, e, hb, hcell⟩ := h.at_ hp
  exact ⟨b, o, e, hb, fun j u hu => by rw [Nat.add_assoc]; exact hcell _ _ (flat_get hc l i j hi u hu)⟩
theorem fold_at (off : Nat) : ∀ (vs : List Value) (k : Nat) (pre post : List Value), pre.length = off + k → vs.length ≤ post.length →
    (vs.zipIdx k).foldl (fun (cs : Array Value) (x : Value × Nat) => cs.setIfInBounds (off + x.2) x.1) (pre ++ post).toArray = (pre ++ vs ++ post.drop vs.length).toArray
  | [], k, pre, post, _, _ => by simp
  | v :: vs, k, pre, p :: post, hp, h => by
    have ih := fold_at off vs (k + 1) (pre ++ [v]) post (by simp [hp]; omega) (by simpa using h)
    have hset : (pre ++ p :: post).toArray.setIfInBounds (off + k) v = ((pre ++ [v]) ++ post).toArray := by simp [← hp]
    simp only [List.zipIdx_cons, List.foldl_cons]
    rw [hset, ih]
    simp
  | v :: vs, k, pre, [], hp, h => by simp at h
theorem fill_agg (s : Nat) : ∀ (vss : List (List Value)) (i : Nat) (pre post : List Value), pre.length = i * s → (∀ v ∈ vss, v.length = s) → post.length = vss.length * s →
    Instr.fill (fun i => some (i * s, s)) (pre ++ post).toArray ((vss.zipIdx i).map fun (v, j) => (j, Value.agg v.toArray)) = some (pre ++ vss.flatten).toArray
  | [], i, pre, post, hp, _, hl => by
    have : post = [] := List.eq_nil_of_length_eq_zero (by simpa using hl)
    subst this
    simp [Instr.fill]
  | v :: vss, i, pre, post, hp, h1, hl => by
    have hv := h1 v (by simp)
    have hl' : post.length = vss.length * s + s := by rw [hl, List.length_cons, Nat.succ_mul]
    have ih := fill_agg s vss (i + 1) (pre ++ v) (post.drop s) (by rw [List.length_append, hp, hv, Nat.succ_mul]) (fun u hu => h1 u (by simp [hu])) (by rw [List.length_drop]; omega)
    have hf := fold_at (i * s) v 0 pre post (by omega) (by omega)
    simp only [List.zipIdx_cons, List.map_cons, Instr.fill, Value.cells, List.size_toArray]
    have hn : ¬ (v.length ≠ s ∨ i * s + v.length > (pre ++ post).length) := by rw [List.length_append]; omega
    simp only [ne_eq, Bool.or_eq_true, decide_eq_true_eq]
    rw [if_neg (by simpa using hn)]
    have hz : v.toArray.zipIdx.foldl (fun cs (x : Value × Nat) => cs.setIfInBounds (i * s + x.2) x.1) (pre ++ post).toArray = ((pre ++ v) ++ post.drop s).toArray := by
      rw [← Array.foldl_toList, Array.toList_zipIdx]
      rw [hv] at hf
      exact hf
    rw [hz]
    simpa using ih
section
variable {P : Program} {n : Nat} {σ : Sig} {w w0 : World} {x y : Operand} {t e ty T : TypeId} {s bs : Nat} {R : Act → World → Prop} {ops : Array Oper} {rest : List Oper} {k : List KI} {pos : String} {after : Array Edge} {g : Option (Nat × Bool)} {d fuel : Nat} {S : World → Prop} {listed : Array Bool}
theorem EX.buildSliceG {z : Value} {parts : Array (Nat × Operand)} (len : Nat) (vss : List (List Value)) (ht : P.underlying t = some (.slice e)) (hi : TI P e z s bs) (hzs : z.cells.size = s) (hs0 : 0 < s)
    (hv : evs σ (parts.toList.map (·.2)) = some (vss.map fun v => Value.agg v.toArray)) (hp : parts.toList.map (·.1) = List.range' 0 parts.toList.length) (hl : vss.length = len) (h1 : ∀ v ∈ vss, v.length = s) (hlen : len * s ≤ 16777216) :
    EX P n σ (.buildSlice t len parts) ty w (.slice (some ⟨w.heap.size, 0, none⟩) len len) (w.alloc (.cells vss.flatten.toArray e)) := fun A ha dst pos after g => by
  have hpv : (parts.map fun (p : Nat × Operand) => (p.1, A.eval p.2)).toList = vss.zipIdx.map fun (v, j) => (j, Value.agg v.toArray) := by
    have h2 := ha.evs hv
    apply List.ext_getElem?
    intro j
    have e1 := congrArg (·[j]?) h2
    have e2 := congrArg (·[j]?) hp
    simp only [List.getElem?_map] at e1 e2
    simp only [Array.toList_map, List.getElem?_map, List.getElem?_zipIdx]
    have hlp : parts.toList.length = vss.length := by
      have := congrArg List.length h2
      simpa using this
    by_cases hj : j < vss.length
    · rw [List.getElem?_eq_getElem (by omega : j < parts.toList.length)] at e1 e2 ⊢
      rw [List.getElem?_eq_getElem hj] at e1 ⊢
      simp only [Option.map_some, Option.some.injEq] at e1 e2 ⊢
      rw [List.getElem?_range' (by omega)] at e2
      simp only [Option.some.injEq] at e2
      rw [e1, e2]
      simp
    · rw [List.getElem?_eq_none (by omega : parts.toList.length ≤ j), List.getElem?_eq_none (by omega : vss.length ≤ j)]
      rfl
  have hn : ¬ (len * s > 2 ^ 24) := by omega
  generalize hzz : ((Array.range (len * s)).map fun j => z.cells[j % z.cells.size]!) = zz
  have hzl : zz.size = len * s := by rw [← hzz]; simp
  obtain ⟨zl⟩ := zz
  have hf := fill_agg s vss 0 [] zl (by simp) h1 (by rw [hl]; simpa using hzl)
  simp only [List.nil_append] at hf
  simp only [execOp, Sem.run_bind]
  have hb : (Instr.buildSlice t len (parts.map fun (p : Nat × Operand) => (p.1, A.eval p.2))).run P w = .ok (.slice (some ⟨w.heap.size, 0, none⟩) len len) (w.alloc (.cells vss.flatten.toArray e)) := by
    simp only [Instr.buildSlice, Sem.run_bind, run_underlying ht, run_sizeOf hi, Result.andThen_ok, if_neg hn, hpv, Sem.run_pure]
    by_cases h0 : len * s = 0
    · have hlen0 : len = 0 := by
        rcases Nat.mul_eq_zero.1 h0 with h | h
        · exact h
        · omega
      subst hlen0
      have hv0 : vss = [] := List.eq_nil_of_length_eq_zero hl
      subst hv0
      simp [Instr.fill, newRow, newObj, Sem.run_bind, Sem.run, Array.range_zero']
    · rw [if_neg h0]
      simp only [Sem.run_bind, run_zeroValue hi, Result.andThen_ok, Sem.run_pure, hzz, hf]
      simp [newRow, newObj, Sem.run_bind, Sem.run]
  rw [show (parts.map fun (x : Nat × Operand) => match x with | (i, x) => (i, A.eval x)) = (parts.map fun (x : Nat × Operand) => (x.1, A.eval x.2)) from rfl, hb]
  rfl
theorem OW.buildG {z : Value} {parts : Array (Nat × Operand)} (len : Nat) (vss : List (List Value)) (hg : wantS ops σ g = some true) (hd : Nat.blt d n = true) (ht : P.underlying T = some (.slice e)) (hi : TI P e z s bs) (hzs : z.cells.size = s) (hs0 : 0 < s)
    (hv : evs σ (parts.toList.map (·.2)) = some (vss.map fun v => Value.agg v.toArray)) (hp : parts.toList.map (·.1) = List.range' 0 parts.toList.length) (hl : vss.length = len) (h1 : ∀ v ∈ vss, v.length = s) (hlen : len * s ≤ 16777216)
    (h : ∀ b w', w.heap.size ≤ b → Bk w' b e vss.flatten → Ext w w' → OW P R ops rest k n ((d, .slice (some ⟨b, 0, none⟩) len len) :: σ) w') : OW P R ops (⟨some d, .buildSlice T len parts, ty, pos, after, g⟩ :: rest) k n σ w :=
  OW.val hg hd (EX.buildSliceG len vss ht hi hzs hs0 hv hp hl h1 hlen) (h _ _ (Nat.le_refl _) (Bk.new w e _) (Ext.alloc w _))
theorem GW.buildG (i : Nat) {z : Value} {parts : Array (Nat × Operand)} (len : Nat) (vss : List (List Value)) (hi' : ops[i]? = some ⟨some d, .buildSlice T len parts, ty, pos, after, g⟩) (hr : Region.ready .any ops listed = [i]) (hg : wantS ops σ g = some true) (hd : Nat.blt d n = true) (ht : P.underlying T = some (.slice e)) (hi : TI P e z s bs) (hzs : z.cells.size = s) (hs0 : 0 < s)
    (hv : evs σ (parts.toList.map (·.2)) = some (vss.map fun v => Value.agg v.toArray)) (hp : parts.toList.map (·.1) = List.range' 0 parts.toList.length) (hl : vss.length = len) (h1 : ∀ v ∈ vss, v.length = s) (hlen : len * s ≤ 16777216)
    (h : ∀ b w', w.heap.size ≤ b → Bk w' b e vss.flatten → Ext w w' → S w' ∧ (S w' → GW P R ops S fuel (listed.setIfInBounds i true) k n ((d, .slice (some ⟨b, 0, none⟩) len len) :: σ) w')) : GW P R ops S (fuel + 1) listed k n σ w :=
  GW.new i hi' hr hg hd (EX.buildSliceG len vss ht hi hzs hs0 hv hp hl h1 hlen) (h _ _ (Nat.le_refl _) (Bk.new w e _) (Ext.alloc w _))
theorem GO.buildG (i : Nat) {z : Value} {parts : Array (Nat × Operand)} (len : Nat) (vss : List (List Value)) (hi' : ops[i]? = some ⟨some d, .buildSlice T len parts, ty, pos, after, g⟩) (hg : wantS ops σ g = some true) (hd : Nat.blt d n = true) (ht : P.underlying T = some (.slice e)) (hi : TI P e z s bs) (hzs : z.cells.size = s) (hs0 : 0 < s)
    (hv : evs σ (parts.toList.map (·.2)) = some (vss.map fun v => Value.agg v.toArray)) (hp : parts.toList.map (·.1) = List.range' 0 parts.toList.length) (hl : vss.length = len) (h1 : ∀ v ∈ vss, v.length = s) (hlen : len * s ≤ 16777216)
    (h : ∀ b w', w.heap.size ≤ b → Bk w' b e vss.flatten → Ext w w' → S w' ∧ (S w' → GW P R ops S fuel (listed.setIfInBounds i true) k n ((d, .slice (some ⟨b, 0, none⟩) len len) :: σ) w')) : GO P R ops S fuel listed k n σ w i :=
  GO.new i hi' hg hd (EX.buildSliceG len vss ht hi hzs hs0 hv hp hl h1 hlen) (h _ _ (Nat.le_refl _) (Bk.new w e _) (Ext.alloc w _))
end
end Go.Proofs.YthgfdpcpbghkpaaDoor
namespace Go.Proofs.YthgfdpcpbghkpaaDoor
open Go.RowKit
section
variable {P : Program} {n : Nat} {σ : Sig} {w : World} {x y : Operand} {t e ty T T' : TypeId} {b o : Nat} {z v : Value} {s bs : Nat} {l : List Value}
theorem run_eq_arr2 {a0 a1 b0 b1 : Value} {q0 q1 : Bool} {d : TypeDesc} (ht : P.underlying t = some (.array 2 e)) (he : P.underlying e = some d) (hf : flat d = true) (hi : TI P e z 1 bs)
    (h0 : ∀ k, (Op.equalIn (k + 1) e a0 b0).run P w = .ok q0 w) (h1 : ∀ k, (Op.equalIn (k + 1) e a1 b1).run P w = .ok q1 w) (k : Nat) : (Op.equalIn (k + 1 + 1) t (.agg #[a0, a1]) (.agg #[b0, b1])).run P w = .ok (q0 && q1) w := by
  have hr : List.range' 0 2 = [0, 1] := rfl
  rw [Op.equalIn]
  simp only [Sem.run_bind, run_underlying ht, Result.andThen_ok, run_sizeOf hi]
  cases q0 <;> cases q1 <;> simp [Std.Legacy.Range.forIn_eq_forIn_range', Std.Legacy.Range.size, hr, part, run_isAgg he, hf, h0 k, h1 k, Sem.run_bind]
inductive FE (P : Program) (w : World) (xs ys : List Value) : List Field → List Bool → Prop
  | nil : FE P w xs ys [] []
  | cons {f : Field} {fs : List Field} {q : Bool} {qs : List Bool} {u v : Value} (hn : f.name ≠ "_") (hx : (part f.type xs.toArray f.offset).run P w = .ok u w) (hy : (part f.type ys.toArray f.offset).run P w = .ok v w)
      (he : ∀ k, (Op.equalIn (k + 1 + 1 + 1) f.type u v).run P w = .ok q w) (hr : FE P w xs ys fs qs) : FE P w xs ys (f :: fs) (q :: qs)
theorem FE.run {xs ys : List Value} (k : Nat) : ∀ {fs : List Field} {qs : List Bool}, FE P w xs ys fs qs → (Op.eqFields (k + 1 + 1 + 1) xs.toArray ys.toArray fs).run P w = .ok (qs.all id) w
  | _, _, .nil => by simp [Op.eqFields]
  | f :: fs, q :: qs, .cons (u := u) (v := v) hn h1 h2 he hr => by
    have ih := FE.run k hr
    simp only [Op.eqFields]
    rw [if_pos hn]
    simp only [Sem.run_bind, h1, h2, he k, Result.andThen_ok]
    cases q
    · simp
    · simpa using ih
theorem FE.one {f : Field} {fs : List Field} {q : Bool} {qs : List Bool} {xs ys : List Value} {u v : Value} {d : TypeDesc} (hn : f.name ≠ "_") (hd : P.underlying f.type = some d) (hfl : flat d = true) (hx : xs[f.offset]? = some u) (hy : ys[f.offset]? = some v)
    (he : ∀ k, (Op.equalIn (k + 1) f.type u v).run P w = .ok q w) (hr : FE P w xs ys fs qs) : FE P w xs ys (f :: fs) (q :: qs) :=
  .cons hn (by simp [part, Sem.run_bind, run_isAgg hd, hfl, hx]) (by simp [part, Sem.run_bind, run_isAgg hd, hfl, hy]) (fun k => he (k + 1 + 1)) hr
theorem FE.two {f : Field} {fs : List Field} {q0 q1 : Bool} {qs : List Bool} {xs ys : List Value} {a0 a1 b0 b1 : Value} {d : TypeDesc} {bs' : Nat} {z' : Value} (hn : f.name ≠ "_") (hd : P.underlying f.type = some (.array 2 e)) (ht : TI P f.type z' 2 bs') (he : P.underlying e = some d) (hf : flat d = true) (hi : TI P e z 1 bs)
    (hx : (xs.drop f.offset).take 2 = [a0, a1]) (hy : (ys.drop f.offset).take 2 = [b0, b1])
    (h0 : ∀ k, (Op.equalIn (k + 1) e a0 b0).run P w = .ok q0 w) (h1 : ∀ k, (Op.equalIn (k + 1) e a1 b1).run P w = .ok q1 w) (hr : FE P w xs ys fs qs) : FE P w xs ys (f :: fs) ((q0 && q1) :: qs) :=
  .cons hn (by simp [part, Sem.run_bind, run_isAgg hd, flat, run_sizeOf ht, hx]) (by simp [part, Sem.run_bind, run_isAgg hd, flat, run_sizeOf ht, hy]) (fun k => run_eq_arr2 hd he hf hi h0 h1 (k + 1)) hr
theorem FE.str {f : Field} {fs : List Field} {fs' : Array Field} {qs qs' : List Bool} {xs ys us vs : List Value} {m bs' : Nat} {z' : Value} (hn : f.name ≠ "_") (hd : P.underlying f.type = some (.struct fs')) (hp : P.stoodInHeld f.type = false) (ht : TI P f.type z' m bs')
    (hx : (xs.drop f.offset).take m = us) (hy : (ys.drop f.offset).take m = vs) (h : FEqs P w us vs fs'.toList qs') (hr : FE P w xs ys fs qs) : FE P w xs ys (f :: fs) ((qs'.all id) :: qs) := by
  have hf : P.fieldsOf f.type = fs' := by unfold Program.fieldsOf; rw [hd]
  refine .cons (u := .agg us.toArray) (v := .agg vs.toArray) hn (by simp [part, Sem.run_bind, run_isAgg hd, flat, run_sizeOf ht, hx]) (by simp [part, Sem.run_bind, run_isAgg hd, flat, run_sizeOf ht, hy]) (fun k => ?_) hr
  rw [run_equalIn_agg w _ f.type _ _ (by rw [hf]; exact hd) hp, hf, h.run]
end
section
variable {P : Program} {R : Act → World → Prop} {k : List KI} {n : Nat} {σ : Sig} {w : World}
theorem pst_goto {l : Nat} : ∀ (k : List KI) (a : Act) (w : World), pst P R k (.goto l) a w → False
  | [], _, _, h => h
  | .code _ :: k, a, w, h => pst_goto k a w h
  | .blk _ :: k, a, w, h => pst_goto k a w h
  | .asr _ :: k, a, w, h => pst_goto k a w h
theorem KW.scope {c : Code} (h : KW P R (.code c :: k) n σ w) : KW P R (.code (.scope c) :: k) n σ w := fun a ha => by
  refine wp_scope_straight ?_
  intro b k' cs
  obtain ⟨e, a₁, w₁, hq, harr⟩ := h a ha b k' cs
  refine ⟨e, a₁, w₁, ?_, harr⟩
  cases e with
  | goto l => exact pst_goto k _ _ hq
  | normal => exact hq
  | exit id => exact hq
  | ret => exact hq
  | panic ch => exact hq
  | outgrown => exact hq
end
end Go.Proofs.YthgfdpcpbghkpaaDoor
namespace Go.Proofs.YthgfdpcpbghkpaaDoor
open Go.RowKit
section
variable {P : Program} {R : Act → World → Prop} {ops : Array Oper} {rest : List Oper} {k : List KI} {n : Nat} {σ : Sig} {w : World} {x y : Operand} {t e ty ty1 : TypeId} {pos pos1 : String} {after after1 : Array Edge} {gd gd1 : Option (Nat × Bool)} {d d1 : Nat} {s bs B : Nat}
theorem EX.remZ {k : IntKind} {a b : Int} {t' : TypeId} (hx : ev σ x = some (.int k a)) (hy : ev σ y = some (.int k b)) (h : b ≠ 0) : EX P n σ (.binOp .rem t x y t') ty w (.int k (a.tmod b)) w :=
  EX.binI hx hy (by
    unfold binOp
    simp only [ne_eq, not_true_eq_false, if_false, Op.intDiv, if_neg h]
    rfl)
theorem Mo.append {w w1 w' : World} {row : Option Nat} (hx : Ext w w1) (h : w1.grownBy w' row) : Mo w w' row.toList :=
  (Mo.of_ext hx _).trans (Mo.grown h fun k e => by rw [e]; simp)
theorem Tm.fresh {w w1 w2 : World} {B : Nat} {p : TypeId → Bool} {S : List Nat} (h : Tm w w1 B p) (hm : Mo w1 w2 S) (hS : ∀ k ∈ S, w.heap.size ≤ k) : Tm w w2 B p := by
  obtain ⟨S0, h0, hp⟩ := h
  refine ⟨S0, Mo.fresh (S := S0 ++ S) ((h0.mono (by simp; exact fun k hk => .inl hk)).trans (hm.mono (by simp; exact fun k hk => .inr hk))) ?_, hp⟩
  intro k hk hlt
  rcases List.mem_append.1 hk with q | q
  · exact q
  · have := hS k q
    omega
theorem OW.pushB (B : Nat) {z : Value} (hg1 : wantS ops σ gd1 = some true) (hd1 : Nat.blt d1 n = true) (hg : ∀ u, wantS ops ((d1, u) :: σ) gd = some true) (hd : Nat.blt d n = true) (ht : P.underlying t = some (.slice e)) (hi : TI P e z 1 bs) (hz1 : z.oneCell' = true)
    {v u : Value} {l : Nat} {xs : List Value} (hy : ev σ y = some u) (hx : ∀ q, ev ((d1, q) :: σ) x = some v) (hu : u.oneCell' = true) (hB : B ≤ w.heap.size) (hown : Own w B e 1 v l xs)
    (h63 : l + 1 ≤ maxLen) (hbytes : (l + 1) * bs ≤ 140737488355328)
    (h : ∀ q v' w', Own w' B e 1 v' (l + 1) (xs ++ [u]) → Mo w w' v.ownBlock.toList → (v'.ownBlock = v.ownBlock ∨ ∃ g, v'.ownBlock = some g ∧ w.heap.size ≤ g) → OW P R ops rest k n ((d, v') :: (d1, q) :: σ) w') :
    OW P R ops (⟨some d1, .buildSlice t 1 #[(0, y)], ty1, pos1, after1, gd1⟩ :: ⟨some d, .call { callee := .builtin .append, args := #[x, .tmp d1], argTypes := #[t, t] }, ty, pos, after, gd⟩ :: rest) k n σ w := by
  refine OW.val hg1 hd1 (EX.buildSlice (vs := [u]) 1 ht hi hz1 (by simp [evs, hy]) rfl rfl (by simp [hu]) (by decide)) ?_
  have hx1 : Ext w (w.alloc (.cells [u].toArray e)) := Ext.alloc w _
  have hb := Bk.new w e [u]
  refine OW.append B (hg _) hd ht hi (by rw [oneCell_cells hz1]; rfl) (by decide) (hx _) (lk_cons_same _ _ _) (hown.alloc _) (Src.of_sl ht (Sl.of_bk hb hb.lt) rfl (by simpa using hu) (by decide)) h63 hbytes (Nat.le_trans hB hx1.size) ?_
  intro v' w' h1 h2 h3
  exact h _ v' w' h1 (Mo.append hx1 h2) (h3.imp id fun e => ⟨_, e, hx1.size⟩)
end
section
variable {P : Program} {R : Act → World → Prop} {ops : Array Oper} {S : World → Prop} {fuel : Nat} {listed : Array Bool} {k : List KI} {n : Nat} {σ : Sig} {w : World} {x y : Operand} {t t' e ty : TypeId} {pos : String} {after : Array Edge} {gd : Option (Nat × Bool)} {d : Nat}
theorem GW.append (i B : Nat) {z : Value} {s bs : Nat} (hi' : ops[i]? = some ⟨some d, .call { callee := .builtin .append, args := #[x, y], argTypes := #[t, t'] }, ty, pos, after, gd⟩) (hr : Region.ready .any ops listed = [i])
    (hg : wantS ops σ gd = some true) (hd : Nat.blt d n = true) (ht : P.underlying t = some (.slice e)) (hi : TI P e z s bs) (hzs : z.cells.size = s) (hs0 : 0 < s)
    {v xv : Value} {m l : Nat} {xs news : List Value} (hx : ev σ x = some v) (hy : ev σ y = some xv) (hown : Own w B e s v l xs) (hsrc : Src P s t' xv m news w)
    (h63 : l + m ≤ maxLen) (hbytes : (l + m) * bs ≤ 140737488355328) (hB : B ≤ w.heap.size)
    (h : ∀ v' w', Own w' B e s v' (l + m) (xs ++ news) → w.grownBy w' v.ownBlock → (v'.ownBlock = v.ownBlock ∨ v'.ownBlock = some w.heap.size) → S w' ∧ (S w' → GW P R ops S fuel (listed.setIfInBounds i true) k n ((d, v') :: σ) w')) : GW P R ops S (fuel + 1) listed k n σ w := by
  obtain ⟨v', w', hrun, h2, h3, h4⟩ := run_append (P := P) B t t' ty e ht hi hzs hs0 hown hsrc h63 hbytes hB
  refine GW.new i hi' hr hg hd (v := v') (w' := w') ?_ (h v' w' h2 h3 h4)
  intro A ha dst pos after g
  simp only [execOp, resolve, invoke, builtin, Sem.run_bind, Sem.run_pure, Result.andThen_ok, List.map_toArray, List.map_cons, List.map_nil, ha.ev hx, ha.ev hy, hrun]
end
end Go.Proofs.YthgfdpcpbghkpaaDoor
namespace Go.Proofs.YthgfdpcpbghkpaaDoor
open Go.RowKit Go.MapKept
open Go.ChangeMaps (setBlock)
abbrev Ents := List (List UInt8 × Value)
structure Mp (w : World) (b : Nat) (es : Array MapEntry) (c : Nat) (l : Ents) : Prop where
  blk : w.heap[b]? = some (.map es c)
  st : Stamped es c
  kv : es.toList.map (fun e => (e.key, e.val)) = l.map (fun p => (str p.1, p.2))
def putA {α : Type} (l : List (List UInt8 × α)) (s : List UInt8) (v : α) : List (List UInt8 × α) := if s ∈ l.map (·.1) then l.map (fun p => if p.1 = s then (s, v) else p) else l ++ [(s, v)]
theorem str_inj {a b : List UInt8} (h : str a = str b) : a = b := by
  injection h with h
  injection h with h
  injection h
section
variable {w w' : World} {b c : Nat} {es : Array MapEntry} {l : Ents}
theorem Mp.lt (h : Mp w b es c l) : b < w.heap.size := by
  rcases Nat.lt_or_ge b w.heap.size with h' | h'
  · exact h'
  · have := h.blk
    simp [Array.getElem?_eq_none h'] at this
theorem Mp.of_block (h : Mp w b es c l) (hb : w'.heap[b]? = w.heap[b]?) : Mp w' b es c l := ⟨hb.trans h.blk, h.st, h.kv⟩
theorem Mp.ext (h : Mp w b es c l) (hx : Ext w w') : Mp w' b es c l := h.of_block (hx.block b h.lt)
theorem Mp.mo {S : List Nat} (h : Mp w b es c l) (hm : Mo w w' S) (hb : b ∉ S) : Mp w' b es c l := h.of_block (hm.block b h.lt hb)
theorem Mp.len (h : Mp w b es c l) : es.toList.length = l.length := by
  have := congrArg List.length h.kv
  simpa using this
theorem Mp.at {j : Nat} {e : MapEntry} (h : Mp w b es c l) (he : es.toList[j]? = some e) : ∃ p, l[j]? = some p ∧ e.key = str p.1 ∧ e.val = p.2 := by
  have h1 := congrArg (fun z => z[j]?) h.kv
  simp only [List.getElem?_map, he, Option.map_some] at h1
  obtain ⟨p, h2, h3⟩ := Option.map_eq_some_iff.1 h1.symm
  injection h3 with h4 h5
  exact ⟨p, h2, h4.symm, h5.symm⟩
theorem Mp.mem {e : MapEntry} (h : Mp w b es c l) (he : e ∈ es.toList) : ∃ p ∈ l, e.key = str p.1 ∧ e.val = p.2 := by
  obtain ⟨j, hj⟩ := List.mem_iff_getElem?.1 he
  obtain ⟨p, h1, h2⟩ := h.at hj
  exact ⟨p, List.mem_of_getElem? h1, h2⟩
theorem Mp.keys (h : Mp w b es c l) : (l.map (·.1)).Nodup := by
  have h1 : (es.toList.map (·.key)) = l.map (fun p => str p.1) := by
    have := congrArg (List.map Prod.fst) h.kv
    simpa [List.map_map, Function.comp_def] using this
  have h2 := h.st.2.2
  rw [h1] at h2
  have h3 : l.map (fun p => str p.1) = (l.map (·.1)).map str := by rw [List.map_map]; rfl
  rw [h3] at h2
  exact List.Pairwise.of_map str (fun a b hab e => hab (congrArg str e)) h2
theorem mo_setBlock (w : World) (b : Nat) (o : Obj) : Mo w (setBlock w b o) [b] := ⟨rfl, rfl, rfl, by simp [setBlock], fun k _ hk => by simp at hk; simp [setBlock, Array.getElem?_setIfInBounds_ne (Ne.symm hk)]⟩
theorem setBlock_at {o : Obj} (h : b < w.heap.size) : (setBlock w b o).heap[b]? = some o := by simp [setBlock, h]
theorem putA_at : ∀ {l : Ents} {j : Nat} {p : List UInt8 × Value} (v : Value), (l.map (·.1)).Nodup → l[j]? = some p → putA l p.1 v = l.set j (p.1, v)
  | l, j, p, v, hn, hj => by
    have hm : p.1 ∈ l.map (·.1) := List.mem_map.2 ⟨p, List.mem_of_getElem? hj, rfl⟩
    unfold putA
    rw [if_pos hm]
    apply List.ext_getElem?
    intro k
    rw [List.getElem?_map, List.getElem?_set]
    by_cases e : j = k
    · subst e
      have hl : j < l.length := (List.getElem?_eq_some_iff.1 hj).1
      rw [hj, if_pos rfl]
      simp [hl]
    · rw [if_neg e]
      cases hk : l[k]? with
      | none => rfl
      | some q =>
        have : q.1 ≠ p.1 := fun z => by
          have h1 : (l.map (·.1))[k]? = some p.1 := by rw [List.getElem?_map, hk, ← z]; rfl
          have h2 : (l.map (·.1))[j]? = some p.1 := by rw [List.getElem?_map, hj]; rfl
          obtain ⟨i1, g1⟩ := List.getElem?_eq_some_iff.1 h1
          obtain ⟨i2, g2⟩ := List.getElem?_eq_some_iff.1 h2
          exact e ((List.getElem_inj hn).1 (g2.trans g1.symm))
        simp [this]
theorem mem_entries {l : Ents} {s : List UInt8} {es : Array MapEntry} (hkv : es.toList.map (fun e => (e.key, e.val)) = l.map (fun p => (str p.1, p.2))) (h : ∀ x ∈ es.toList, x.key ≠ str s) : s ∉ l.map (·.1) := fun hm => by
  obtain ⟨p, hp, rfl⟩ := List.mem_map.1 hm
  have : (str p.1, p.2) ∈ es.toList.map (fun e => (e.key, e.val)) := by rw [hkv]; exact List.mem_map.2 ⟨p, hp, rfl⟩
  obtain ⟨x, hx, e⟩ := List.mem_map.1 this
  injection e with e1 e2
  exact h x hx e1
theorem Mp.isKey (h : Mp w b es c l) : ∀ x ∈ es.toList, IsKey .string x.key := fun x hx => by
  obtain ⟨p, _, e, _⟩ := h.mem hx
  rw [e]
  trivial
variable {P : Program} {t k e : TypeId}
theorem run_put (ht : P.underlying t = some (.map k e)) (hk : P.underlying k = some .string) (h : Mp w b es c l) (s : List UInt8) (v : Value) :
    ∃ es' c', (Instr.mapUpdate t (.map (some b)) (str s) v).run P w = .ok () (setBlock w b (.map es' c')) ∧ Mp (setBlock w b (.map es' c')) b es' c' (putA l s v) := by
  have hkey : IsKey .string (str s) := trivial
  rcases findNow_spec hkey es.toList 0 h.isKey with ⟨h1, h2⟩ | ⟨j, e0, h1, h2, h3⟩
  · refine ⟨es.push ⟨str s, v, c⟩, c + 1, ?_, ⟨setBlock_at h.lt, stamped_push h.st h2, ?_⟩⟩
    · simp [Instr.mapUpdate, run_underlying ht, MapKept.run_getObj_map h.blk, run_checkKey hk hkey, run_findKey hk h1, MapKept.run_setObj_map _ h.blk, Result.andThen, setBlock]
    · unfold putA
      rw [if_neg (mem_entries h.kv h2), Array.toList_push, List.map_append, List.map_append, h.kv]
      rfl
  · have hj : es[j]? = some e0 := by simpa using h2
    obtain ⟨p, hp, hpk, hpv⟩ := h.at h2
    have es1 : str s = str p.1 := h3.symm.trans hpk
    obtain rfl := str_inj es1
    have hkeyf : ∀ e', es[j]? = some e' → ({ e' with key := str p.1, val := v } : MapEntry).key = e'.key := fun e' he' => by rw [hj] at he'; cases he'; exact h3.symm
    refine ⟨es.modify j (fun e' => { e' with key := str p.1, val := v }), c, ?_, ⟨setBlock_at h.lt, stamped_modify h.st _ _ (fun _ _ => rfl) (fun e' _ he' => hkeyf e' he'), ?_⟩⟩
    · simp [Instr.mapUpdate, run_underlying ht, MapKept.run_getObj_map h.blk, run_checkKey hk hkey, run_findKey hk h1, hj, h3, run_keyThatStays hkey, MapKept.run_setObj_map _ h.blk, Result.andThen, setBlock]
    · rw [putA_at v h.keys hp, Array.toList_modify, List.map_set, ← h.kv]
      apply List.ext_getElem?
      intro i
      rw [List.getElem?_set, List.getElem?_map, List.getElem?_modify, List.getElem?_map, List.length_map]
      by_cases q : j = i
      · subst q
        have hl : j < es.toList.length := (List.getElem?_eq_some_iff.1 h2).1
        rw [if_pos rfl, h2, if_pos (by simpa using hl)]
        simp
      · rw [if_neg q]
        simp [q]
end
def It (w : World) (r b since : Nat) (seen : Array Nat) (c : Nat) : Prop := w.heap[r]? = some (.mapIter (some b) since seen c)
section
variable {P : Program} {R : Act → World → Prop} {ops : Array Oper} {rest : List Oper} {k : List KI} {n : Nat} {σ : Sig} {w : World} {x y z : Operand} {t e kt ty : TypeId} {pos : String} {after : Array Edge} {gd : Option (Nat × Bool)} {d : Nat}
theorem EU.put {b c : Nat} {es es' : Array MapEntry} {c' : Nat} {v : Value} {s : List UInt8} (hx : ev σ x = some (.map (some b))) (hy : ev σ y = some (str s)) (hz : ev σ z = some v)
    (h : (Instr.mapUpdate t (.map (some b)) (str s) v).run P w = .ok () (setBlock w b (.map es' c'))) : EU P n σ (.mapUpdate t x y z) ty w (setBlock w b (.map es' c')) := by
  intro a ha dst pos after g
  simp only [execOp, ha.ev hx, ha.ev hy, ha.ev hz, h, Sem.run_bind, Result.andThen_ok, Sem.run_pure]
theorem OW.put {b c : Nat} {es : Array MapEntry} {l : Ents} {v : Value} {s : List UInt8} (hg : wantS ops σ gd = some true) (ht : P.underlying t = some (.map kt e)) (hk : P.underlying kt = some .string) (hx : ev σ x = some (.map (some b))) (hy : ev σ y = some (str s)) (hz : ev σ z = some v) (hm : Mp w b es c l)
    (h : ∀ es' c' w', Mp w' b es' c' (putA l s v) → Mo w w' [b] → OW P R ops rest k n σ w') :
    OW P R ops (⟨none, .mapUpdate t x y z, ty, pos, after, gd⟩ :: rest) k n σ w := by
  obtain ⟨es', c', h1, h2⟩ := run_put ht hk hm s v
  exact OW.eff hg (EU.put (c := c) (es := es) hx hy hz h1) (h es' c' _ h2 (mo_setBlock w b _))
theorem OW.range {b c : Nat} {es : Array MapEntry} {l : Ents} (hg : wantS ops σ gd = some true) (hd : Nat.blt d n = true) (ht : P.underlying t = some (.map kt e)) (hx : ev σ x = some (.map (some b))) (hm : Mp w b es c l)
    (h : ∀ r w', w.heap.size ≤ r → It w' r b c #[] c → Ext w w' → OW P R ops rest k n ((d, .pointer (some ⟨r, 0, none⟩)) :: σ) w') :
    OW P R ops (⟨some d, .range t x, ty, pos, after, gd⟩ :: rest) k n σ w := by
  refine OW.val hg hd (v := .pointer (some ⟨w.heap.size, 0, none⟩)) (w' := w.alloc (.mapIter (some b) c #[] c)) ?_ (h _ _ (Nat.le_refl _) (heap_alloc_new w _) (Ext.alloc w _))
  intro a ha dst pos after g
  simp [execOp, Instr.range, ha.ev hx, run_underlying ht, MapKept.run_getObj_map hm.blk, run_newObj_alloc, Sem.run_bind, Result.andThen_ok, Sem.run_pure]
theorem OW.next {r b c : Nat} {es : Array MapEntry} {l : Ents} {seen : Array Nat} (hg : wantS ops σ gd = some true) (hd : Nat.blt d n = true) (hx : ev σ x = some (.pointer (some ⟨r, 0, none⟩))) (hm : Mp w b es c l) (hi : It w r b c seen c)
    (h0 : (∀ e ∈ es.toList, e.born ∈ seen) → OW P R ops rest k n ((d, .tuple #[.bool false]) :: σ) w)
    (h1 : ∀ (e : MapEntry) w', e ∈ es.toList → e.born ∉ seen → It w' r b c (seen.push e.born) c → Mo w w' [r] → OW P R ops rest k n ((d, .tuple #[.bool true, e.key, e.val]) :: σ) w') :
    OW P R ops (⟨some d, .next x false, ty, pos, after, gd⟩ :: rest) k n σ w := by
  have hr : r < w.heap.size := by
    rcases Nat.lt_or_ge r w.heap.size with h' | h'
    · exact h'
    · unfold It at hi; simp [Array.getElem?_eq_none h'] at hi
  rcases run_next_at (P := P) w ty r b c c seen es c hi hm.blk hm.st.1 (Nat.le_refl _) with ⟨h2, h3⟩ | ⟨e, he, w1, hw, h3⟩
  · refine OW.val hg hd (v := .tuple #[.bool false]) (w' := w) ?_ (h0 ?_)
    · intro a ha dst pos after g
      simp only [execOp, ha.ev hx, h3, Sem.run_bind, Result.andThen_ok, Sem.run_pure]
    · intro e he
      unfold leftOf at h2
      have h4 := Array.eq_empty_of_size_eq_zero h2
      rw [Array.filter_eq_empty_iff] at h4
      have := h4 e (by simpa using he)
      simpa using this
  · have he2 : e ∈ es.toList ∧ e.born ∉ seen := by
      unfold leftOf at he
      simp at he
      exact ⟨by simpa using he.1, he.2⟩
    have hmo : Mo w (setBlock w1 r (.mapIter (some b) c (seen.push e.born) c)) [r] := by
      refine Mo.trans ?_ (mo_setBlock w1 r _)
      rcases hw with rfl | rfl
      · exact Mo.refl _ _
      · exact Mo.of_ext (Ext.drew w) _
    have hr1 : r < w1.heap.size := by rcases hw with rfl | rfl <;> exact hr
    refine OW.val hg hd (v := .tuple #[.bool true, e.key, e.val]) ?_ (h1 e _ he2.1 he2.2 (setBlock_at hr1) hmo)
    intro a ha dst pos after g
    simp only [execOp, ha.ev hx, h3, Sem.run_bind, Result.andThen_ok, Sem.run_pure]
end
end Go.Proofs.YthgfdpcpbghkpaaDoor
namespace Go.Proofs.YthgfdpcpbghkpaaDoor
open Go.RowKit Go.Shelf
def Gr (w w' : World) : Prop := Ext w w' ∧ w.drawn ≤ w'.drawn
theorem Gr.refl (w : World) : Gr w w := ⟨Ext.refl w, Nat.le_refl _⟩
theorem Gr.trans {a b c : World} (h : Gr a b) (k : Gr b c) : Gr a c := ⟨h.1.trans k.1, Nat.le_trans h.2 k.2⟩
theorem Gr.drewN (w : World) (m : Nat) : Gr w (w.drewN m) := ⟨Ext.drewN w m, by show w.drawn ≤ w.drawn + m; omega⟩
theorem Gr.alloc (w : World) (o : Obj) : Gr w (w.alloc o) := ⟨Ext.alloc w o, Nat.le_refl _⟩
theorem Gr.grow {w w' : World} (h : Gr w w') : ∃ q os, w' = Go.Sort.grow (w.drewN q) os := by
  obtain ⟨⟨h1, h2, h3, h4, h5⟩, h6⟩ := h
  obtain ⟨heap, tape, drawn, os, out⟩ := w
  obtain ⟨heap', tape', drawn', os', out'⟩ := w'
  simp only at h1 h2 h3 h4 h5 h6
  subst h1 h2 h3
  refine ⟨drawn' - drawn, heap'.extract heap.size heap'.size, ?_⟩
  have e : heap ++ heap'.extract heap.size heap'.size = heap' := by
    apply Array.ext_getElem?
    intro i
    by_cases hi : i < heap.size
    · rw [Array.getElem?_append_left hi, h5 i hi]
    · rw [Array.getElem?_append_right (by omega), Array.getElem?_extract]
      by_cases hj : i < heap'.size
      · rw [if_pos (by omega)]
        congr 1
        omega
      · rw [if_neg (by omega), Array.getElem?_eq_none (by omega)]
  unfold Go.Sort.grow World.drewN
  simp only [e]
  congr 1
  omega
theorem flat_len {α : Type} {cells : α → List Value} {k : Nat} (hk : ∀ x, (cells x).length = k) : ∀ l : List α, (l.flatMap cells).length = l.length * k
  | [] => by simp
  | x :: l => by
    have ih := flat_len hk l
    rw [List.flatMap_cons, List.length_append, hk, ih, List.length_cons, Nat.succ_mul]
    omega
section
variable {α : Type} [Inhabited α] {cells : α → List Value} {k : Nat}
theorem flatK_list (hk : ∀ x, (cells x).length = k) (hk0 : 0 < k) (l : List α) : (Go.Sort.flatK cells k l.toArray).toList = l.flatMap cells := by
  have hfl := flat_len hk l
  apply List.ext_getElem?
  intro t
  by_cases ht : t < l.length * k
  · have h1 : t / k < l.length := by rw [Nat.div_lt_iff_lt_mul hk0]; exact ht
    have h2 : t % k < k := Nat.mod_lt _ hk0
    have h3 : t / k * k + t % k = t := by rw [Nat.mul_comm]; exact Nat.div_add_mod t k
    have h4 := flat_get hk l (t / k) (t % k) h1 _ (List.getElem?_eq_getElem (by rw [hk]; exact h2))
    rw [h3] at h4
    have hs : t < (Go.Sort.flatK cells k l.toArray).size := by rw [Go.Sort.size_flatK]; simpa using ht
    have h5 := Go.Sort.get_flatK cells k l.toArray t (by simpa using ht)
    rw [getElem!_pos _ t hs] at h5
    have h6 : l.toArray[t / k]! = l[t / k] := by
      rw [getElem!_pos _ _ (by simpa using h1)]
      simp
    rw [h4, Array.getElem?_toList, Array.getElem?_eq_getElem hs, h5, h6]
    congr 1
    rw [getElem!_pos _ _ (by rw [hk]; exact h2)]
  · have e1 : (Go.Sort.flatK cells k l.toArray).toList.length = l.length * k := by rw [Array.length_toList, Go.Sort.size_flatK]; simp
    rw [List.getElem?_eq_none (by omega), List.getElem?_eq_none (by omega)]
theorem putCells_list (F : Array Value) (xs rest : List Value) (h : xs.length = F.size) : Go.Sort.putCells id 0 F (xs ++ rest).toArray = (F.toList ++ rest).toArray := by
  apply Array.ext_getElem?
  intro i
  simp only [Go.Sort.putCells, Array.getElem?_mapIdx]
  by_cases hi : i < F.size
  · simp only [List.getElem?_toArray]
    rw [List.getElem?_append_left (by omega), List.getElem?_append_left (by simpa using hi), List.getElem?_eq_getElem (by omega)]
    simp only [Option.map_some, Nat.zero_le, Nat.zero_add, true_and, Nat.sub_zero, id]
    rw [if_pos hi, getElem!_pos F i hi]
    simp [hi]
  · simp only [List.getElem?_toArray]
    rw [List.getElem?_append_right (by omega), List.getElem?_append_right (by simpa using hi), h, Array.length_toList]
    cases rest[i - F.size]? with
    | none => rfl
    | some u =>
      simp only [Option.map_some, Nat.zero_le, Nat.zero_add, true_and]
      rw [if_neg hi]
theorem sortWorld_mo (w : World) (g n : Nat) (d : Array α) (os : Array Obj) : Mo w (sortWorldK cells k w g 0 n d os) [g] := by
  refine ⟨rfl, rfl, rfl, ?_, fun j hj hne => ?_⟩
  · simp [sortWorldK, Go.Sort.grow, Go.Sort.putRowK, Go.Sort.putRow, Go.Sort.mapBlock, Go.Sort.ahead]
  · simp only [List.mem_singleton] at hne
    simp only [sortWorldK, Go.Sort.grow, Go.Sort.putRowK, Go.Sort.putRow, Go.Sort.mapBlock, Go.Sort.ahead]
    rw [Array.getElem?_append_left (by simpa using hj), Array.getElem?_modify, if_neg (Ne.symm hne)]
theorem sortWorld_bk {w : World} {g n : Nat} {T : TypeId} {l : List α} {d : Array α} {os : Array Obj} {rest : List Value} (hk : ∀ x, (cells x).length = k) (hk0 : 0 < k) (hb : Bk w g T (l.flatMap cells ++ rest)) (hd : d.size = l.length) :
    Bk (sortWorldK cells k w g 0 n d os) g T (d.toList.flatMap cells ++ rest) := by
  have hlt := hb.lt
  obtain ⟨fr, h1, h2⟩ := hb
  have hF : (Go.Sort.flatK cells k d).toList = d.toList.flatMap cells := by
    have := flatK_list hk hk0 d.toList
    simpa using this
  refine ⟨fr, ?_, ?_⟩
  · simp only [sortWorldK, Go.Sort.grow, Go.Sort.putRowK, Go.Sort.putRow, Go.Sort.mapBlock, Go.Sort.ahead]
    rw [Array.getElem?_append_left (by simpa using hlt), Array.getElem?_modify, if_pos rfl, h1]
    simp only [Option.map_some, Go.Sort.onCells]
    rw [putCells_list _ _ _ (by rw [flat_len hk, Go.Sort.size_flatK, hd]), hF]
  · have e1 := flat_len hk l
    have e2 := flat_len hk d.toList
    rw [List.length_append] at h2 ⊢
    rw [e2, Array.length_toList, hd, ← e1]
    exact h2
theorem sort_own {P : Program} {ρ : Ren} (L : SlLaysF0.n6 P ρ) {f : Nat} (hf6 : ρ.f 6 = f) {fn : Func} (hf : P.funcs[f]? = some fn) (hn : (!(fn.name == "runtime.NumGoroutine") && fn.body.isSome) = true) {e : TypeId} (he : ρ.t 24 = e) {bs : Nat} {z : Value} {d : TypeDesc} (hu : P.underlying e = some d) (hfl : flat d = false) (hi : TI P e z k bs) (hk0 : 0 < k)
    (hk : ∀ x, (cells x).length = k) (h1 : ∀ x, ∀ v ∈ cells x, v.oneCell' = true) (cf : α → α → Int) (hO : Go.Sort.SWO (fun a b => decide (cf a b < 0)))
    {g : Nat} {gf : Func} (hg : P.funcs[g]? = some gf) (hgn : (!(gf.name == "runtime.NumGoroutine") && gf.body.isSome) = true) (B : Nat) (l : List α) (hl : l.length ≤ 1000000000) (v : Value) (w : World) (hown : Own w B e k v l.length (l.flatMap cells))
    (hc : ∀ W x y, Mo w W v.ownBlock.toList → Ret P g [.agg (cells x).toArray, .agg (cells y).toArray] W fun r W' => r = .int .i64 (cf x y) ∧ Gr W W') :
    Ret P f [v, .func (.func g) #[] #[]] w fun r w' => r = .tuple #[] ∧ ∃ l' : List α, l'.Perm l ∧ (∀ i j (hi : i < l'.length) (hj : j < l'.length), i < j → ¬ cf l'[j] l'[i] < 0) ∧ Own w' B e k v l.length (l'.flatMap cells) ∧ Mo w w' v.ownBlock.toList := by
  subst hf6 he
  by_cases hl0 : l = []
  · subst hl0
    obtain ⟨p, cap, hv⟩ : ∃ p cap, v = .slice p 0 cap := by
      rcases hown.2 with ⟨rfl, _⟩ | ⟨q, cap, _, rfl, _⟩
      · exact ⟨none, 0, rfl⟩
      · exact ⟨_, cap, rfl⟩
    have h := AnyF.slices_SortFunc_none (P := P) (ρ := ρ) { L with } p cap (.func (.func g) #[] #[]) w
    have hR : Ret P (ρ.f 6) [v, .func (.func g) #[] #[]] w fun r w' => r = .tuple #[] ∧ w' = w := by
      subst hv
      exact Ret.of_calls hf hn (h.mono fun _ _ q => q)
    refine hR.mono ?_
    rintro r w' ⟨rfl, rfl⟩
    exact ⟨rfl, [], List.Perm.refl _, fun i j hi => by simp at hi, hown, Mo.refl _ _⟩
  · have hlp : 0 < l.length := List.length_pos_iff.2 hl0
    have hflen := flat_len hk l
    obtain ⟨b, cap, rest, rfl, hB, hb, hr, hn2, hcm⟩ := hown.blk (by rw [hflen]; exact Nat.mul_pos hlp hk0)
    have hlt := hb.lt
    have hwhole : l.flatMap cells ++ rest = l.flatMap cells ++ rest := rfl
    have hH : Go.Sort.HoldsK cells k w b 0 l.toArray := by
      intro j hj
      rw [Go.Sort.size_flatK] at hj
      have hj2 : j < l.length * k := by simpa using hj
      have hF := flatK_list hk hk0 l
      have hs : j < (Go.Sort.flatK cells k l.toArray).size := by rw [Go.Sort.size_flatK]; exact hj
      have hget : (Go.Sort.flatK cells k l.toArray)[j]! = (l.flatMap cells)[j]'(by rw [hflen]; exact hj2) := by
        rw [getElem!_pos _ j hs]
        have : (Go.Sort.flatK cells k l.toArray).toList[j]'(by simpa using hs) = (l.flatMap cells)[j]'(by rw [hflen]; exact hj2) := by simp [hF]
        simpa using this
      rw [hget, Nat.zero_add]
      refine ⟨hb.cell_of ?_, hb.free j (by rw [List.length_append]; omega)⟩
      rw [List.getElem?_append_left (by omega), List.getElem?_eq_getElem]
      rfl
    have hcl : CmpLays P g #[] cells k cf b 0 l.toArray.size w := fun m os dk hdk x y => by
      have h2 := (hc _ x y (by simpa [Value.ownBlock] using sortWorld_mo (cells := cells) (k := k) w b m dk os)).2
      refine h2.mono fun e w' q => ?_
      obtain ⟨v, rfl, rfl, hgr⟩ := q
      obtain ⟨q, os', e2⟩ := hgr.grow
      exact ⟨rfl, q, os', e2⟩
    have h := AnyQ.slices_SortFunc L k (fun w => by rw [run_isAgg hu, hfl]; rfl) (fun w => run_sizeOf hi) cells hk h1 cf hO g #[] b 0 cap l.toArray w (fun args w => run_callFunc hg hgn args) hcl hH hlt (by simp; omega)
    have hsz : l.toArray.size = l.length := by simp
    rw [hsz] at h
    have hR : Ret P (ρ.f 6) [.slice (some ⟨b, 0, none⟩) l.length cap, .func (.func g) #[] #[]] w fun r w' => r = .tuple #[] ∧ ∃ d' n os, Go.Sort.PermIn 0 l.length l.toArray d' ∧ Go.Sort.SortedIn (ltOf cf) 0 l.length d' ∧ w' = sortWorldK cells k w b 0 n d' os :=
      Ret.of_calls hf hn (h.mono fun _ _ q => q)
    refine hR.mono ?_
    rintro r w' ⟨rfl, d', n, os, hp, hs, rfl⟩
    have hd : d'.size = l.length := by rw [hp.1, hsz]
    have hperm : d'.toList.Perm l := by
      have h3 := hp.2.2
      have e1 : d'.extract 0 l.length = d' := by rw [← hd]; exact Array.extract_size
      have e2 : l.toArray.extract 0 l.length = l.toArray := by rw [← hsz]; exact Array.extract_size
      rw [e1, e2] at h3
      simpa using h3
    have hb2 := sortWorld_bk (n := n) (os := os) hk hk0 hb hd
    refine ⟨rfl, d'.toList, hperm, fun i j hi hj hij => ?_, ⟨by rw [flat_len hk, Array.length_toList, hd], .inr ⟨b, cap, rest, rfl, hB, hb2, ?_, hn2, hcm⟩⟩, by simpa [Value.ownBlock] using sortWorld_mo (cells := cells) (k := k) w b n d' os⟩
    · have h3 := hs i j (Nat.zero_le _) hij (by rw [← hd]; simpa using hj)
      rw [getElem!_pos d' j (by simpa using hj), getElem!_pos d' i (by simpa using hi)] at h3
      simpa [ltOf] using h3
    · rw [flat_len hk, Array.length_toList, hd, ← hflen]
      exact hr
end
end Go.Proofs.YthgfdpcpbghkpaaDoor
namespace Go.Proofs.YthgfdpcpbghkpaaDoor
open Go.Shelf
def Tryd.sort58_ren : Go.Shelf.Ren := ⟨fun | 6 => 58 | 15 => 69 | 14 => 68 | 28 => 82 | 29 => 83 | 20 => 74 | 21 => 75 | 22 => 76 | 23 => 77 | 24 => 78 | 25 => 79 | 26 => 80 | 27 => 81 | 46 => 88 | 47 => 89 | 48 => 90 | 49 => 91 | 50 => 92 | 57 => 98 | n => n, fun | 22 => 73 | 24 => 77 | 25 => 115 | 3 => 3 | 39 => 100 | 0 => 0 | 53 => 48 | 55 => 84 | 4 => 4 | 46 => 130 | 45 => 129 | 50 => 134 | 5 => 5 | 9 => 9 | 66 => 142 | 70 => 146 | 76 => 148 | 77 => 149 | n => n, fun | n => n⟩
theorem Tryd.sort58 : Go.Proofs.SlLaysF0.n6 Tryd.prog Tryd.sort58_ren := {
  mixed := by kernel_rfl
  f6 := ⟨Tryd.f58.name, by decide, Tryd.func58.trans (congrArg some (by kernel_rfl))⟩
  f14 := ⟨Tryd.f68.name, by decide, Tryd.func68.trans (congrArg some (by kernel_rfl))⟩
  f15 := Tryd.func69.trans (congrArg some (by kernel_rfl))
  f20 := ⟨Tryd.f74.name, by decide, Tryd.func74.trans (congrArg some (by kernel_rfl))⟩
  f21 := ⟨Tryd.f75.name, by decide, Tryd.func75.trans (congrArg some (by kernel_rfl))⟩
  f22 := ⟨Tryd.f76.name, by decide, Tryd.func76.trans (congrArg some (by kernel_rfl))⟩
  f23 := ⟨Tryd.f77.name, by decide, Tryd.func77.trans (congrArg some (by kernel_rfl))⟩
  f24 := ⟨Tryd.f78.name, by decide, Tryd.func78.trans (congrArg some (by kernel_rfl))⟩
  f25 := ⟨Tryd.f79.name, by decide, Tryd.func79.trans (congrArg some (by kernel_rfl))⟩
  f26 := ⟨Tryd.f80.name, by decide, Tryd.func80.trans (congrArg some (by kernel_rfl))⟩
  f27 := ⟨Tryd.f81.name, by decide, Tryd.func81.trans (congrArg some (by kernel_rfl))⟩
  f28 := Tryd.func82.trans (congrArg some (by kernel_rfl))
  f29 := Tryd.func83.trans (congrArg some (by kernel_rfl))
  f46 := ⟨Tryd.f88.name, by decide, Tryd.func88.trans (congrArg some (by kernel_rfl))⟩
  f47 := Tryd.func89.trans (congrArg some (by kernel_rfl))
  f48 := Tryd.func90.trans (congrArg some (by kernel_rfl))
  f49 := ⟨Tryd.f91.name, by decide, Tryd.func91.trans (congrArg some (by kernel_rfl))⟩
  f50 := ⟨Tryd.f92.name, by decide, Tryd.func92.trans (congrArg some (by kernel_rfl))⟩
  f57 := ⟨Tryd.f98.name, by decide, Tryd.func98.trans (congrArg some (by kernel_rfl))⟩
  t0 := Tryd.underlying0
  a0 := Tryd.isAgg0
  z0 := Tryd.sizeOf0
  v0 := Tryd.zeroValue0
  t3 := Tryd.underlying3
  a3 := Tryd.isAgg3
  z3 := Tryd.sizeOf3
  v3 := Tryd.zeroValue3
  t4 := Tryd.underlying4
  a4 := Tryd.isAgg4
  z4 := Tryd.sizeOf4
  v4 := Tryd.zeroValue4
  t5 := Tryd.underlying5
  a5 := Tryd.isAgg5
  z5 := Tryd.sizeOf5
  v5 := Tryd.zeroValue5
  t9 := Tryd.underlying9
  a9 := Tryd.isAgg9
  z9 := Tryd.sizeOf9
  v9 := Tryd.zeroValue9
  t22 := Tryd.underlying73
  a22 := Tryd.isAgg73
  z22 := Tryd.sizeOf73
  v22 := Tryd.zeroValue73
  t25 := Tryd.underlying115
  a25 := Tryd.isAgg115
  z25 := Tryd.sizeOf115
  v25 := Tryd.zeroValue115
  t39 := Tryd.underlying100
  a39 := Tryd.isAgg100
  z39 := Tryd.sizeOf100
  v39 := Tryd.zeroValue100
  t45 := Tryd.underlying129
  a45 := Tryd.isAgg129
  z45 := Tryd.sizeOf129
  v45 := Tryd.zeroValue129
  t46 := Tryd.underlying130
  a46 := Tryd.isAgg130
  z46 := Tryd.sizeOf130
  v46 := Tryd.zeroValue130
  t50 := Tryd.underlying134
  a50 := Tryd.isAgg134
  z50 := Tryd.sizeOf134
  v50 := Tryd.zeroValue134
  t53 := Tryd.underlying48
  a53 := Tryd.isAgg48
  z53 := Tryd.sizeOf48
  v53 := Tryd.zeroValue48
  t55 := Tryd.underlying84
  a55 := Tryd.isAgg84
  z55 := Tryd.sizeOf84
  v55 := Tryd.zeroValue84
  t66 := Tryd.underlying142
  a66 := Tryd.isAgg142
  z66 := Tryd.sizeOf142
  v66 := Tryd.zeroValue142
  t70 := Tryd.underlying146
  a70 := Tryd.isAgg146
  z70 := Tryd.sizeOf146
  v70 := Tryd.zeroValue146
  t76 := Tryd.underlying148
  a76 := Tryd.isAgg148
  z76 := Tryd.sizeOf148
  v76 := Tryd.zeroValue148
  t77 := Tryd.underlying149
  a77 := Tryd.isAgg149
  z77 := Tryd.sizeOf149
  v77 := Tryd.zeroValue149 }
end Go.Proofs.YthgfdpcpbghkpaaDoor
namespace Go.Proofs.YthgfdpcpbghkpaaDoor
open Go.RowKit Pth Rec Srt Cat
def _root_.Go.Proofs.YthgfdpcpbghkpaaDoor.Cat.xcells (x : Xt) : List Value := [.int .i64 x.1, .int .i64 x.2]
abbrev xtsV (l : List Xt) : List Value := l.flatMap xcells
theorem xtsV_snoc (l : List Xt) (x : Xt) : xtsV (l ++ [x]) = xtsV l ++ xcells x := by simp [xtsV]
theorem xtsV_one (l : List Xt) : ∀ u ∈ xtsV l, u.oneCell' = true := by
  intro u hu
  obtain ⟨p, _, h⟩ := List.mem_flatMap.1 hu
  simp only [xcells, List.mem_cons, List.not_mem_nil, or_false] at h
  rcases h with rfl | rfl <;> rfl
theorem cloneX_s (l : List Xt) (hl : l.length ≤ 1000000) (A : Option Addr) (c B : Nat) (w : World) (hs : Sl w B A (xtsV l)) :
    Ret Tryd.prog 57 [.slice A l.length c] w fun v w' => Own w' w.heap.size 77 2 v l.length (xtsV l) ∧ Ext w w' := by
  have hfl := flat_len (cells := xcells) (k := 2) (fun _ => rfl) l
  refine Ret.enter Tryd.func57 rfl Tryd.ntmps57 (by kernel_rfl) rfl ?_
  rcases A with _ | ⟨b, o, sp⟩
  · have hl0 : l = [] := by
      rcases hs with h | ⟨_, _, h, _⟩
      · cases l with
        | nil => rfl
        | cons x l =>
          have e : List.flatMap xcells (x :: l) = [] := h
          rw [e] at hfl
          simp at hfl
      · cases h
    subst hl0
    refine KW.seq (KW.region ?_)
    refine OW.val rfl rfl (EX.assign rfl) ?_
    refine OW.nil ?_
    refine KW.seq (KW.seq (KW.region ?_))
    refine OW.val rfl rfl (EX.move rfl) ?_
    refine OW.val rfl rfl (by first | exact EX.eqlA1 Tryd.underlying73 rfl rfl | exact EX.eqlA0 Tryd.underlying73 rfl rfl) ?_
    refine OW.nil ?_
    refine KW.condT rfl (KW.seq (KW.region ?_))
    refine OW.val rfl rfl (EX.assign rfl) ?_
    refine OW.nil ?_
    refine KW.ret (ret1 rfl rfl ?_)
    exact ⟨Own.nil _ _ _ _, Ext.refl _⟩
  · refine KW.seq (KW.region ?_)
    refine OW.val rfl rfl (EX.assign rfl) ?_
    refine OW.nil ?_
    refine KW.seq (KW.seq (KW.region ?_))
    refine OW.val rfl rfl (EX.move rfl) ?_
    refine OW.val rfl rfl (by first | exact EX.eqlA1 Tryd.underlying73 rfl rfl | exact EX.eqlA0 Tryd.underlying73 rfl rfl) ?_
    refine OW.nil ?_
    refine KW.condF rfl (KW.skip (KW.seq (KW.region ?_)))
    refine OW.buildG 0 ([]) rfl rfl Tryd.underlying73 ti77 rfl (by decide) rfl rfl rfl (by repeat' (first | exact List.forall_mem_nil _ | refine List.forall_mem_cons.2 ⟨by first | rfl | assumption, ?_⟩)) (by decide) ?_
    rintro eb w1 hge1 hb1 hx1
    refine OW.val rfl rfl (EX.move rfl) ?_
    have hown1 : Own w1 w.heap.size 77 2 (.slice (some ⟨eb, 0, none⟩) 0 0) 0 [] := Own.of_bk (cap := 0) hb1 hge1 rfl (by decide)
    refine OW.appendX rfl rfl Tryd.underlying73 ti77 rfl (by decide) rfl rfl (hx1) (hown1) (Src.of_sl Tryd.underlying73 (hs.ext hx1) hfl (xtsV_one l) (by decide)) (by simp only [maxLen]; omega) (by omega) ?_
    rintro u2 w2 hown2 hx2 hg2 hv2
    refine OW.val rfl rfl (EX.assign rfl) ?_
    refine OW.nil ?_
    refine KW.ret (ret1 rfl rfl ?_)
    rw [Nat.zero_add, List.nil_append] at hown2
    exact ⟨hown2, hx2⟩
theorem xt_eq (a b : Xt) : ([decide (a.1 = b.1), decide (a.2 = b.2)].all id) = decide (a = b) := by
  obtain ⟨a1, a2⟩ := a
  obtain ⟨b1, b2⟩ := b
  rw [Bool.eq_iff_iff]
  by_cases c1 : a1 = b1 <;> by_cases c2 : a2 = b2 <;> simp [c1, c2]
theorem cmpX_s (x y : Xt) (W : World) : Ret Tryd.prog 59 [.agg (xcells x).toArray, .agg (xcells y).toArray] W fun r W' => r = .int .i64 (cfX x y) ∧ Gr W W' := by
  refine Ret.enter Tryd.func59 rfl Tryd.ntmps59 (by kernel_rfl) rfl ?_
  refine KW.seq (KW.region ?_)
  refine OW.val rfl rfl (EX.box (l := xcells x) rfl rfl) ?_
  have hb1 := Bk.new W 77 (xcells x)
  have g1 := Gr.alloc W (.cells (xcells x).toArray 77)
  generalize hw1 : W.alloc (.cells (xcells x).toArray 77) = w1 at hb1 g1
  refine OW.val rfl rfl (EX.box (l := xcells y) rfl rfl) ?_
  refine OW.val rfl rfl (EX.assign rfl) ?_
  refine OW.nil ?_
  refine KW.seq (KW.seq (KW.region ?_))
  have hb2 := Bk.new w1 77 (xcells y)
  have g2 := Gr.alloc w1 (.cells (xcells y).toArray 77)
  have hb1b := hb1.ext g2.1
  generalize hw2 : w1.alloc (.cells (xcells y).toArray 77) = w2 at hb2 g2 hb1b
  have g3 := g1.trans g2
  refine OW.val rfl rfl (EX.loadBk Tryd.underlying77 rfl ti77 rfl (hb1b) (rfl)) ?_
  refine OW.val rfl rfl (EX.loadBk Tryd.underlying77 rfl ti77 rfl (hb2) (rfl)) ?_
  refine OW.val rfl rfl (EX.eqlG Tryd.underlying77 (by kernel_rfl) (by kernel_rfl) rfl rfl (.cons (by decide) Tryd.underlying3 rfl rfl rfl (eq_int Tryd.underlying3) (.cons (by decide) Tryd.underlying3 rfl rfl rfl (eq_int Tryd.underlying3) .nil)) rfl) ?_
  refine OW.nil ?_
  refine KW.as 7 (.bool (decide (x = y))) rfl (congrArg Value.bool (xt_eq x y)) ?_
  refine KW.condD rfl (fun h0 => ?_) (fun h0 => ?_)
  · have e : cfX x y = 0 := by unfold cfX; rw [if_pos h0]
    refine KW.seq (KW.region ?_)
    refine OW.val rfl rfl (EX.assign rfl) ?_
    refine OW.nil ?_
    refine KW.ret (ret1 rfl rfl ?_)
    rw [e]
    exact ⟨rfl, g3⟩
  · refine KW.skip (KW.seq (KW.seq ?_))
    refine KW.cut1 (fun (_u : Unit) => True) (fun (_u : Unit) => [(26, .bool (decide (x.1 < y.1 ∨ (x.1 = y.1 ∧ x.2 < y.2))))]) (fun (_u : Unit) => w2) ?_ ?_
    · refine KW.region ?_
      refine OW.val rfl rfl (EX.fieldAddr (off := 0) Tryd.underlying77 rfl rfl ti3 rfl rfl) ?_
      refine OW.val rfl rfl (EX.load Tryd.underlying3 rfl rfl (hb1b.cell_of rfl)) ?_
      refine OW.val rfl rfl (EX.fieldAddr (off := 0) Tryd.underlying77 rfl rfl ti3 rfl rfl) ?_
      refine OW.val rfl rfl (EX.load Tryd.underlying3 rfl rfl (hb2.cell_of rfl)) ?_
      refine OW.val rfl rfl (by first | exact EX.lssN rfl rfl | exact EX.lssZ rfl rfl) ?_
      refine OW.val rfl rfl (EX.move rfl) ?_
      refine OW.splitD 13 rfl (fun h1 => ?_) (fun h1 => ?_)
      · refine OW.pass rfl rfl ?_
        refine OW.pass rfl rfl ?_
        refine OW.pass rfl rfl ?_
        refine OW.pass rfl rfl ?_
        refine OW.pass rfl rfl ?_
        refine OW.pass rfl rfl ?_
        refine OW.pass rfl rfl ?_
        refine OW.pass rfl rfl ?_
        refine OW.pass rfl rfl ?_
        refine OW.pass rfl rfl ?_
        refine OW.pass rfl rfl ?_
        refine OW.pass rfl rfl ?_
        refine OW.val rfl rfl (EX.pickT rfl rfl) ?_
        refine OW.nil ?_
        refine KW.as 26 (.bool (decide (x.1 < y.1 ∨ (x.1 = y.1 ∧ x.2 < y.2)))) rfl (congrArg Value.bool (decide_eq_true (.inl h1)).symm) ?_
        refine KW.meet1 (()) ⟨rfl, trivial⟩ rfl ?_
        trivial
      · refine OW.val rfl rfl (EX.fieldAddr (off := 0) Tryd.underlying77 rfl rfl ti3 rfl rfl) ?_
        refine OW.val rfl rfl (EX.load Tryd.underlying3 rfl rfl (hb1b.cell_of rfl)) ?_
        refine OW.val rfl rfl (EX.fieldAddr (off := 0) Tryd.underlying77 rfl rfl ti3 rfl rfl) ?_
        refine OW.val rfl rfl (EX.load Tryd.underlying3 rfl rfl (hb2.cell_of rfl)) ?_
        refine OW.val rfl rfl (by first | exact EX.eqlN rfl rfl | exact EX.eqlZ rfl rfl) ?_
        refine OW.val rfl rfl (EX.move rfl) ?_
        refine OW.splitD 19 rfl (fun h2 => ?_) (fun h2 => ?_)
        · refine OW.val rfl rfl (EX.fieldAddr (off := 1) Tryd.underlying77 rfl rfl ti3 rfl rfl) ?_
          refine OW.val rfl rfl (EX.load Tryd.underlying3 rfl rfl (hb1b.cell_of rfl)) ?_
          refine OW.val rfl rfl (EX.fieldAddr (off := 1) Tryd.underlying77 rfl rfl ti3 rfl rfl) ?_
          refine OW.val rfl rfl (EX.load Tryd.underlying3 rfl rfl (hb2.cell_of rfl)) ?_
          refine OW.val rfl rfl (by first | exact EX.lssN rfl rfl | exact EX.lssZ rfl rfl) ?_
          refine OW.val rfl rfl (EX.pickT rfl rfl) ?_
          refine OW.val rfl rfl (EX.pickF rfl rfl) ?_
          refine OW.nil ?_
          refine KW.as 26 (.bool (decide (x.1 < y.1 ∨ (x.1 = y.1 ∧ x.2 < y.2)))) rfl (congrArg Value.bool (decide_eq_decide.2 (by omega))) ?_
          refine KW.meet1 (()) ⟨rfl, trivial⟩ rfl ?_
          trivial
        · refine OW.pass rfl rfl ?_
          refine OW.pass rfl rfl ?_
          refine OW.pass rfl rfl ?_
          refine OW.pass rfl rfl ?_
          refine OW.pass rfl rfl ?_
          refine OW.val rfl rfl (EX.pickF rfl rfl) ?_
          refine OW.val rfl rfl (EX.pickF rfl rfl) ?_
          refine OW.nil ?_
          refine KW.as 26 (.bool (decide (x.1 < y.1 ∨ (x.1 = y.1 ∧ x.2 < y.2)))) rfl (congrArg Value.bool (decide_eq_false (by omega)).symm) ?_
          refine KW.meet1 (()) ⟨rfl, trivial⟩ rfl ?_
          trivial
    · rintro _ _
      refine KW.condD rfl (fun h1 => ?_) (fun h1 => ?_)
      · have e : cfX x y = -1 := by unfold cfX; rw [if_neg h0, if_pos h1]
        refine KW.seq (KW.region ?_)
        refine OW.val rfl rfl (EX.assign rfl) ?_
        refine OW.nil ?_
        refine KW.ret (ret1 rfl rfl ?_)
        rw [e]
        exact ⟨rfl, g3⟩
      · have e : cfX x y = 1 := by unfold cfX; rw [if_neg h0, if_neg h1]
        refine KW.skip (KW.seq (KW.region ?_))
        refine OW.val rfl rfl (EX.assign rfl) ?_
        refine OW.nil ?_
        refine KW.ret (ret1 rfl rfl ?_)
        rw [e]
        exact ⟨rfl, g3⟩
theorem sortedX_s (l : List Xt) (hl : l.length ≤ 1000000) (A : Option Addr) (c B : Nat) (w : World) (hs : Sl w B A (xtsV l)) :
    Ret Tryd.prog 45 [.slice A l.length c] w fun v w' => (∃ l' : List Xt, l'.Perm l ∧ (∀ i j (hi : i < l'.length) (hj : j < l'.length), i < j → ¬ cfX l'[j] l'[i] < 0) ∧ Own w' w.heap.size 77 2 v l.length (xtsV l')) ∧ Ext w w' := by
  refine Ret.enter Tryd.func45 rfl Tryd.ntmps45 (by kernel_rfl) rfl ?_
  refine KW.seq (KW.region ?_)
  refine OW.val rfl rfl (EX.assign rfl) ?_
  refine OW.nil ?_
  refine KW.seq (KW.region ?_)
  refine OW.val rfl rfl (EX.move rfl) ?_
  refine OW.call rfl rfl rfl (cloneX_s l hl A c B w hs) ?_
  rintro _ w1 ⟨hown, hx1⟩
  refine OW.val rfl rfl (EX.assign rfl) ?_
  refine OW.nil ?_
  refine KW.seq (KW.region ?_)
  refine OW.val rfl rfl (EX.move rfl) ?_
  rename_i v1
  have c1 := sort_own Tryd.sort58 (f := 58) rfl Tryd.func58 (by kernel_rfl) (e := 77) rfl Tryd.underlying77 rfl ti77 (by decide) (cells := xcells) (fun _ => rfl) (fun x v hv => by simp [xcells] at hv; rcases hv with rfl | rfl <;> rfl) cfX swoX Tryd.func59 (by kernel_rfl) w.heap.size l (by omega) v1 w1 hown (fun W x y _ => cmpX_s x y W)
  refine OW.call rfl rfl rfl (c1) ?_
  rintro _ w2 ⟨rfl, l', hperm, hsort, hown2, hmo2⟩
  refine OW.nil ?_
  refine KW.seq (KW.region ?_)
  refine OW.val rfl rfl (EX.move rfl) ?_
  refine OW.val rfl rfl (EX.assign rfl) ?_
  refine OW.nil ?_
  refine KW.ret (ret1 rfl rfl ?_)
  exact ⟨⟨l', hperm, hsort, hown2⟩, below_mo hx1 hmo2 hx1.size (fun k hk => (hown.lt k (Option.mem_toList.1 hk)).1)⟩
set_option maxRecDepth 20000 in
theorem space_s (l : List Xt) (hl : l.length ≤ 1000000) (cap : Int) (A : Option Addr) (c B : Nat) (w : World) (hs : Sl w B A (xtsV l)) :
    Ret Tryd.prog 30 [.slice A l.length c, .int .i64 cap] w fun v w' => v = .int .i64 ((spaceC l cap : Nat) : Int) ∧ Ext w w' := by
  have no : ¬ OkX l cap → spaceC l cap = 220 := fun h => by unfold spaceC; rw [if_neg h]
  refine Ret.enter Tryd.func30 rfl Tryd.ntmps30 (by kernel_rfl) rfl ?_
  refine KW.seq (KW.region ?_)
  refine OW.val rfl rfl (EX.assign rfl) ?_
  refine OW.nil ?_
  refine KW.seq (KW.seq ?_)
  refine KW.region ?_
  refine OW.val rfl rfl (EX.move rfl) ?_
  refine OW.val rfl rfl (by first | exact EX.lssN (b := 1) rfl rfl | exact EX.lssZ rfl rfl) ?_
  refine OW.val rfl rfl (EX.move rfl) ?_
  refine OW.splitD 10 rfl (fun h1 => ?_) (fun h1 => ?_)
  · refine OW.pass rfl rfl ?_
    refine OW.pass rfl rfl ?_
    refine OW.val rfl rfl (EX.pickT rfl rfl) ?_
    refine OW.nil ?_
    refine KW.condT rfl (KW.seq (KW.region ?_))
    refine OW.val rfl rfl (EX.assign rfl) ?_
    refine OW.nil ?_
    refine KW.ret (ret1 rfl rfl ?_)
    rw [no (fun h => by have := h.room; omega)]
    exact ⟨rfl, Ext.refl _⟩
  · refine OW.val rfl rfl (EX.move rfl) ?_
    refine OW.val rfl rfl (by first | exact EX.gtrN (b := 4096) rfl rfl | exact EX.gtrZ rfl rfl) ?_
    refine OW.val rfl rfl (EX.pickF rfl rfl) ?_
    refine OW.nil ?_
    refine KW.condD rfl (fun h2 => ?_) (fun h2 => ?_)
    · refine KW.seq (KW.region ?_)
      refine OW.val rfl rfl (EX.assign rfl) ?_
      refine OW.nil ?_
      refine KW.ret (ret1 rfl rfl ?_)
      rw [no (fun h => by have := h.room; omega)]
      exact ⟨rfl, Ext.refl _⟩
    · have hc : 1 ≤ cap ∧ cap ≤ 4096 := by omega
      refine KW.skip (KW.seq (KW.region ?_))
      refine OW.val rfl rfl (EX.assign rfl) ?_
      refine OW.nil ?_
      refine KW.seq (KW.seq (KW.region ?_))
      refine OW.val rfl rfl (EX.move rfl) ?_
      refine OW.call rfl rfl rfl (sortedX_s l hl A c B w hs) ?_
      rintro v1 w1 ⟨⟨l', hperm, hsort, hown⟩, hx1⟩
      obtain ⟨A1, c1, rfl, _, hsl⟩ := hown.slice
      refine OW.val rfl rfl (EX.lenA Tryd.underlying73 rfl) ?_
      refine OW.val rfl rfl (EX.move rfl) ?_
      refine OW.nil ?_
      refine KW.block ?_
      rw [← okX_perm hperm] at no
      have hlen := hperm.length_eq
      have yes : OkX l' cap → spaceC l cap = 0 := fun h => by unfold spaceC; rw [if_pos ((okX_perm hperm).1 h)]
      refine KW.loop3 (fun (i : Nat) (at_ : Int) (wr : World) => i ≤ l'.length ∧ Upto (l'.take i) cap at_ ∧ Ext w1 wr) (fun (i : Nat) (at_ : Int) (wr : World) => [(1, .int .i64 cap), (5, .int .i64 (at_ : Int)), (15, .slice A1 l.length c1), (16, .int .i64 ((l.length : Nat) : Int)), (17, .int .i64 ((i : Nat) : Int))]) (fun (i : Nat) (at_ : Int) (wr : World) => wr) (fun (i : Nat) (at_ : Int) (wr : World) => l'.length - i) (0) (30) (w1) ⟨rfl, rfl, rfl, rfl, rfl, trivial⟩ rfl ?_ ?_
      · exact ⟨Nat.zero_le _, Upto.nil cap, Ext.refl _⟩
      · rintro i at_ wr ⟨hi, hup, hx⟩
        have hlow := hup.low
        refine KW.seq (KW.region ?_)
        refine OW.val rfl rfl (by first | exact EX.lssN rfl rfl | exact EX.lssZ rfl rfl) ?_
        refine OW.nil ?_
        refine KW.seq ?_
        refine KW.condD rfl (fun hlt => ?_) (fun hlt => ?_)
        · have hlt' : i < l'.length := by omega
          obtain ⟨b, o, rfl, _, hcell⟩ := (hsl.ext hx).flat (l := l') (i := i) (c := 2) (fun _ => rfl) (by decide) hlt'
          have hsn : l'.take (i + 1) = l'.take i ++ [l'[i]] := (List.take_append_getElem hlt').symm
          have hall : l' = l'.take i ++ l'[i] :: l'.drop (i + 1) := by rw [← List.drop_eq_getElem_cons hlt', List.take_append_drop]
          have hlast : ∀ y ∈ l'.take i, ¬ cfX l'[i] y < 0 := fun y hy => by
            obtain ⟨j, hj, rfl⟩ := List.mem_iff_getElem.1 hy
            rw [List.length_take] at hj
            rw [List.getElem_take]
            exact hsort j i (by omega) hlt' (by omega)
          generalize l'[i] = x at hcell hsn hall hlast
          refine KW.skip (KW.seq (KW.block (KW.seq (KW.region ?_))))
          refine OW.val rfl rfl (EX.indexAddrS Tryd.underlying73 ti77 rfl rfl (by omega)) ?_
          refine OW.val rfl rfl (EX.loadA (l := xcells x) Tryd.underlying77 rfl ti77 rfl rfl hcell) ?_
          refine OW.allocB (l := [.int .i64 0, .int .i64 0]) rfl rfl ti77 rfl ?_
          rintro xb w2 hge2 hb2 hx2
          refine OW.storeS rfl ti77 rfl rfl rfl (by first | rfl | (simp only [List.all_cons, List.all_nil, Bool.and_true, Bool.true_and, Bool.and_eq_true, Value.oneCell']; repeat (first | assumption | exact Own.one (by assumption) | constructor))) (hb2) (Nat.le_refl _) ?_
          rintro w3 hb3 hm3
          refine OW.nil ?_
          refine KW.seq (KW.seq ?_)
          replace hb3 : Bk w3 xb 77 (xcells x) := hb3
          have x3 : Ext wr w3 := below_mo hx2 hm3 hx2.size (fun k hk => by simp at hk; omega)
          refine KW.cut1 (fun (_u : Unit) => True) (fun (_u : Unit) => [(1, .int .i64 cap), (5, .int .i64 (at_ : Int)), (7, .pointer (some ⟨xb, 0, none⟩)), (15, .slice (some ⟨b, o, none⟩) l.length c1), (16, .int .i64 ((l.length : Nat) : Int)), (17, .int .i64 ((i : Nat) : Int)), (44, .bool (decide ((x.1 < at_ ∨ x.2 < 1 ∨ x.1 > cap ∨ x.2 > cap - x.1))))]) (fun (_u : Unit) => w3) ?_ ?_
          · refine KW.region ?_
            refine OW.val rfl rfl (EX.fieldAddr (off := 0) Tryd.underlying77 rfl rfl ti3 rfl rfl) ?_
            refine OW.val rfl rfl (EX.load Tryd.underlying3 rfl rfl (hb3.cell_of rfl)) ?_
            refine OW.val rfl rfl (EX.move rfl) ?_
            refine OW.val rfl rfl (by first | exact EX.lssN rfl rfl | exact EX.lssZ rfl rfl) ?_
            refine OW.val rfl rfl (EX.move rfl) ?_
            refine OW.splitD 25 rfl (fun q1 => ?_) (fun q1 => ?_)
            · refine OW.pass rfl rfl ?_
              refine OW.pass rfl rfl ?_
              refine OW.pass rfl rfl ?_
              refine OW.val rfl rfl (EX.pickT rfl rfl) ?_
              refine OW.val rfl rfl (EX.move rfl) ?_
              refine OW.pass rfl rfl ?_
              refine OW.pass rfl rfl ?_
              refine OW.pass rfl rfl ?_
              refine OW.pass rfl rfl ?_
              refine OW.val rfl rfl (EX.pickT rfl rfl) ?_
              refine OW.val rfl rfl (EX.move rfl) ?_
              refine OW.pass rfl rfl ?_
              refine OW.pass rfl rfl ?_
              refine OW.pass rfl rfl ?_
              refine OW.pass rfl rfl ?_
              refine OW.pass rfl rfl ?_
              refine OW.pass rfl rfl ?_
              refine OW.pass rfl rfl ?_
              refine OW.val rfl rfl (EX.pickT rfl rfl) ?_
              refine OW.nil ?_
              refine KW.as 44 (.bool (decide ((x.1 < at_ ∨ x.2 < 1 ∨ x.1 > cap ∨ x.2 > cap - x.1)))) rfl (congrArg Value.bool (decide_eq_true (.inl q1)).symm) ?_
              refine KW.meet1 (()) ⟨rfl, rfl, rfl, rfl, rfl, rfl, rfl, trivial⟩ rfl ?_
              trivial
            · refine OW.val rfl rfl (EX.fieldAddr (off := 1) Tryd.underlying77 rfl rfl ti3 rfl rfl) ?_
              refine OW.val rfl rfl (EX.load Tryd.underlying3 rfl rfl (hb3.cell_of rfl)) ?_
              refine OW.val rfl rfl (by first | exact EX.lssN (b := 1) rfl rfl | exact EX.lssZ rfl rfl) ?_
              refine OW.val rfl rfl (EX.pickF rfl rfl) ?_
              refine OW.val rfl rfl (EX.move rfl) ?_
              refine OW.splitD 30 rfl (fun q2 => ?_) (fun q2 => ?_)
              · refine OW.pass rfl rfl ?_
                refine OW.pass rfl rfl ?_
                refine OW.pass rfl rfl ?_
                refine OW.pass rfl rfl ?_
                refine OW.val rfl rfl (EX.pickT rfl rfl) ?_
                refine OW.val rfl rfl (EX.move rfl) ?_
                refine OW.pass rfl rfl ?_
                refine OW.pass rfl rfl ?_
                refine OW.pass rfl rfl ?_
                refine OW.pass rfl rfl ?_
                refine OW.pass rfl rfl ?_
                refine OW.pass rfl rfl ?_
                refine OW.pass rfl rfl ?_
                refine OW.val rfl rfl (EX.pickT rfl rfl) ?_
                refine OW.nil ?_
                refine KW.as 44 (.bool (decide ((x.1 < at_ ∨ x.2 < 1 ∨ x.1 > cap ∨ x.2 > cap - x.1)))) rfl (congrArg Value.bool (decide_eq_true (.inr (.inl q2))).symm) ?_
                refine KW.meet1 (()) ⟨rfl, rfl, rfl, rfl, rfl, rfl, rfl, trivial⟩ rfl ?_
                trivial
              · refine OW.val rfl rfl (EX.fieldAddr (off := 0) Tryd.underlying77 rfl rfl ti3 rfl rfl) ?_
                refine OW.val rfl rfl (EX.load Tryd.underlying3 rfl rfl (hb3.cell_of rfl)) ?_
                refine OW.val rfl rfl (EX.move rfl) ?_
                refine OW.val rfl rfl (by first | exact EX.gtrN rfl rfl | exact EX.gtrZ rfl rfl) ?_
                refine OW.val rfl rfl (EX.pickF rfl rfl) ?_
                refine OW.val rfl rfl (EX.move rfl) ?_
                refine OW.splitD 36 rfl (fun q3 => ?_) (fun q3 => ?_)
                · refine OW.pass rfl rfl ?_
                  refine OW.pass rfl rfl ?_
                  refine OW.pass rfl rfl ?_
                  refine OW.pass rfl rfl ?_
                  refine OW.pass rfl rfl ?_
                  refine OW.pass rfl rfl ?_
                  refine OW.pass rfl rfl ?_
                  refine OW.val rfl rfl (EX.pickT rfl rfl) ?_
                  refine OW.nil ?_
                  refine KW.as 44 (.bool (decide ((x.1 < at_ ∨ x.2 < 1 ∨ x.1 > cap ∨ x.2 > cap - x.1)))) rfl (congrArg Value.bool (decide_eq_true (.inr (.inr (.inl q3)))).symm) ?_
                  refine KW.meet1 (()) ⟨rfl, rfl, rfl, rfl, rfl, rfl, rfl, trivial⟩ rfl ?_
                  trivial
                · refine OW.val rfl rfl (EX.fieldAddr (off := 1) Tryd.underlying77 rfl rfl ti3 rfl rfl) ?_
                  refine OW.val rfl rfl (EX.load Tryd.underlying3 rfl rfl (hb3.cell_of rfl)) ?_
                  refine OW.val rfl rfl (EX.move rfl) ?_
                  refine OW.val rfl rfl (EX.fieldAddr (off := 0) Tryd.underlying77 rfl rfl ti3 rfl rfl) ?_
                  refine OW.val rfl rfl (EX.load Tryd.underlying3 rfl rfl (hb3.cell_of rfl)) ?_
                  refine OW.val rfl rfl (by first | exact EX.subN (m := 9223372036854775807) rfl rfl rfl (by omega) | exact EX.subZ (m := 9223372036854775807) rfl rfl rfl rfl (by omega)) ?_
                  refine OW.val rfl rfl (by first | exact EX.gtrN rfl rfl | exact EX.gtrZ rfl rfl) ?_
                  refine OW.val rfl rfl (EX.pickF rfl rfl) ?_
                  refine OW.nil ?_
                  refine KW.as 44 (.bool (decide ((x.1 < at_ ∨ x.2 < 1 ∨ x.1 > cap ∨ x.2 > cap - x.1)))) rfl (congrArg Value.bool (decide_eq_decide.2 (by omega))) ?_
                  refine KW.meet1 (()) ⟨rfl, rfl, rfl, rfl, rfl, rfl, rfl, trivial⟩ rfl ?_
                  trivial
          · rintro _ _
            refine KW.condD rfl (fun hbad => ?_) (fun hbad => ?_)
            · refine KW.seq (KW.region ?_)
              refine OW.val rfl rfl (EX.assign rfl) ?_
              refine OW.nil ?_
              refine KW.ret (ret1 rfl rfl ?_)
              rw [no (by rw [hall]; exact hup.fail hlast hbad)]
              exact ⟨rfl, (hx1.trans hx).trans x3⟩
            · have hup2 := hup.snoc hc (x := x) (by omega) (by omega) (by omega) (by omega)
              have hl2 := hup2.low
              rw [← hsn] at hup2
              refine KW.skip (KW.region ?_)
              refine OW.val rfl rfl (EX.fieldAddr (off := 0) Tryd.underlying77 rfl rfl ti3 rfl rfl) ?_
              refine OW.val rfl rfl (EX.load Tryd.underlying3 rfl rfl (hb3.cell_of rfl)) ?_
              refine OW.val rfl rfl (EX.fieldAddr (off := 1) Tryd.underlying77 rfl rfl ti3 rfl rfl) ?_
              refine OW.val rfl rfl (EX.load Tryd.underlying3 rfl rfl (hb3.cell_of rfl)) ?_
              refine OW.val rfl rfl (by first | exact EX.addN (m := 9223372036854775807) rfl rfl rfl (by omega) | exact EX.addZ (m := 9223372036854775807) rfl rfl rfl rfl (by omega)) ?_
              refine OW.val rfl rfl (EX.assign rfl) ?_
              refine OW.nil ?_
              refine KW.leave (KW.region ?_)
              refine OW.val rfl rfl (by first | exact EX.addN (b := 1) (m := 9223372036854775807) rfl rfl rfl (by omega) | exact EX.addZ (m := 9223372036854775807) rfl rfl rfl rfl (by omega)) ?_
              refine OW.val rfl rfl (EX.move rfl) ?_
              refine OW.nil ?_
              refine KW.back3 (i + 1) (x.1 + x.2) (w3) ⟨rfl, rfl, rfl, rfl, rfl, trivial⟩ rfl ?_ (by omega)
              exact ⟨by omega, hup2, hx.trans x3⟩
        · obtain rfl : i = l'.length := by omega
          rw [List.take_length] at hup
          refine KW.exit rfl (KW.seq (KW.region ?_))
          refine OW.val rfl rfl (EX.assign rfl) ?_
          refine OW.nil ?_
          refine KW.ret (ret1 rfl rfl ?_)
          rw [yes (hup.done hc)]
          exact ⟨rfl, hx1.trans hx⟩
end Go.Proofs.YthgfdpcpbghkpaaDoor
namespace Go.Proofs.YthgfdpcpbghkpaaDoor
open Go.RowKit Pth Rec Srt Cat
structure PreX (l : List Xt) (cap : Int) : Prop where
  fit : ∀ x ∈ l, fitX cap x
  far : l.Pairwise Cat.apart
theorem PreX.nil (cap : Int) : PreX [] cap := ⟨by simp, List.Pairwise.nil⟩
theorem PreX.snoc {l : List Xt} {cap : Int} (h : PreX l cap) {x : Xt} (hf : fitX cap x) (hn : ∀ k, inX x k = true → marked l k = false) : PreX (l ++ [x]) cap := by
  refine ⟨fun y hy => ?_, ?_⟩
  · rcases List.mem_append.1 hy with hy | hy
    · exact h.fit y hy
    · simp only [List.mem_singleton] at hy
      subst hy
      exact hf
  · rw [List.pairwise_append]
    refine ⟨h.far, by simp, fun a ha b hb => ?_⟩
    simp only [List.mem_singleton] at hb
    subst hb
    have h2 := h.fit a ha
    unfold fitX at hf h2
    refine apart_of_not hf.2.1 h2.2.1 fun k hk => ?_
    have h3 := hn k hk
    unfold marked at h3
    rw [List.any_eq_false] at h3
    have := h3 a ha
    simpa using this
end Go.Proofs.YthgfdpcpbghkpaaDoor
namespace Go.Proofs.YthgfdpcpbghkpaaDoor
open Go.RowKit Pth
def MLen (w : World) : Prop := ∃ m : Int, w.cell? ⟨0, 0, none⟩ = some (.int .i64 m)
theorem MLen.ext {w w' : World} (h : MLen w) (hx : Ext w w') : MLen w' := by
  obtain ⟨m, hm⟩ := h
  refine ⟨m, ?_⟩
  have hlt : 0 < w.heap.size := World.block_lt_of_cell? w _ hm
  have := hx.block _ hlt
  unfold World.cell? at hm ⊢
  rwa [this]
theorem split_c (s : List UInt8) (hs : s.length ≤ 2000000) (w : World) (hG : MLen w) :
    Ret Tryd.prog 55 [str s, str [47]] w fun v w' => ∃ b, v = .slice (some ⟨b, 0, none⟩) (parts s).length (parts s).length ∧ w.heap.size ≤ b ∧ Bk w' b 9 (txtsV (parts s)) ∧ Ext w w' := by
  have hn : (!(Tryd.f55.name == "runtime.NumGoroutine") && Tryd.f55.body.isSome) = true := by kernel_rfl
  obtain ⟨m, hm⟩ := hG
  have h := Tryd.strings_Split ⟨s.toArray⟩ ⟨#[47]⟩ m w (by show s.length < _; omega) hm (by show 1 ≤ 1; omega)
  have hd := Go.Lib.splitB_data ⟨#[47]⟩ 0 (Go.Lib.countB ⟨s.toArray⟩ ⟨#[47]⟩) ⟨s.toArray⟩
  have hp : (Go.Lib.splitB ⟨#[47]⟩ 0 (Go.Lib.countB ⟨s.toArray⟩ ⟨#[47]⟩) ⟨s.toArray⟩).map (·.data.toList) = parts s := hd.trans (split_parts _ s rfl)
  have hlen := congrArg List.length hp
  rw [List.length_map, Go.Lib.splitB_all ⟨#[47]⟩ (by show 1 ≤ 1; omega) 0 _ ⟨s.toArray⟩ rfl] at hlen
  have hv : (Go.Lib.splitB ⟨#[47]⟩ 0 (Go.Lib.countB ⟨s.toArray⟩ ⟨#[47]⟩) ⟨s.toArray⟩).map Value.string = txtsV (parts s) := by
    rw [← hp, txtsV, List.map_map]
    rfl
  rw [hv, hlen] at h
  refine (Ret.of_calls Tryd.func55 hn (h.mono (fun e w' q => q))).mono ?_
  rintro v w' ⟨rfl, rfl⟩
  exact ⟨w.heap.size, rfl, Nat.le_refl _, Bk.new w _ _, Ext.alloc w _⟩
theorem parts_p (s : List UInt8) (hs : s.length ≤ 2000000) (w : World) (hG : MLen w) :
    Ret Tryd.prog 43 [str s] w fun v w' => ∃ b, v = .slice (some ⟨b, 0, none⟩) (parts s).length (parts s).length ∧ w.heap.size ≤ b ∧ Bk w' b 9 (txtsV (parts s)) ∧ Ext w w' := by
  refine Ret.enter Tryd.func43 rfl Tryd.ntmps43 (by kernel_rfl) rfl ?_
  refine KW.seq (KW.region ?_)
  refine OW.val rfl rfl (EX.assign rfl) ?_
  refine OW.nil ?_
  refine KW.seq (KW.region ?_)
  refine OW.val rfl rfl (EX.move rfl) ?_
  refine OW.call rfl rfl rfl (split_c s hs w hG) ?_
  rintro _ w1 ⟨b, rfl, hb⟩
  refine OW.val rfl rfl (EX.assign rfl) ?_
  refine OW.nil ?_
  refine KW.ret (ret1 rfl rfl ?_)
  exact ⟨b, rfl, hb⟩
theorem parts_len (s : List UInt8) : (parts s).length ≤ s.length + 1 := by
  have h1 := wt_len (parts s)
  rwa [wt_parts] at h1
theorem compare_c (x y : List UInt8) (w : World) : Ret Tryd.prog 44 [str x, str y] w fun v w' => v = .int .i64 (Go.Lib.compareBytes x y) ∧ w = w' := by
  have hn : (!(Tryd.f44.name == "runtime.NumGoroutine") && Tryd.f44.body.isSome) = true := by kernel_rfl
  refine (Ret.of_calls Tryd.func44 hn ((Tryd.strings_Compare ⟨x.toArray⟩ ⟨y.toArray⟩ w).mono (fun e w' q => q))).mono ?_
  rintro v w' ⟨rfl, rfl⟩
  exact ⟨rfl, rfl⟩
theorem RetQ.of1 {P : Program} {f : FuncId} {args : List Value} {w : World} {v : Value} (h : Ret P f args w fun v' w' => v' = v ∧ w = w') : RetQ P f args w v :=
  h.mono fun _ _ ⟨h1, h2⟩ => ⟨h1, 0, by subst h2; rfl⟩
theorem cmpL_skip : ∀ (i : Nat) (x y : Txts), (∀ j, j < i → x[j]? = y[j]?) → i ≤ x.length → i ≤ y.length → cmpL x y = cmpL (x.drop i) (y.drop i)
  | 0, x, y, _, _, _ => rfl
  | i + 1, [], y, _, h, _ => by simp at h
  | i + 1, x, [], _, _, h => by simp at h
  | i + 1, a :: x, b :: y, h, h1, h2 => by
    have h0 := h 0 (by omega)
    simp only [List.getElem?_cons_zero, Option.some.injEq] at h0
    subst h0
    rw [cmpL, if_pos rfl]
    simp only [List.drop_succ_cons]
    exact cmpL_skip i x y (fun j hj => by have := h (j + 1) (by omega); simpa using this) (by simpa using h1) (by simpa using h2)
theorem cmpL_at {x y : Txts} {i : Nat} (hs : ∀ j, j < i → x[j]? = y[j]?) (h1 : i < x.length) (h2 : i < y.length) (hne : x[i] ≠ y[i]) : cmpL x y = Go.Lib.compareBytes x[i] y[i] := by
  rw [cmpL_skip i x y hs (by omega) (by omega), List.drop_eq_getElem_cons h1, List.drop_eq_getElem_cons h2, cmpL, if_neg hne]
theorem cmpL_end {x y : Txts} {i : Nat} (hs : ∀ j, j < i → x[j]? = y[j]?) (hi : i = min x.length y.length) : cmpL x y = if x.length < y.length then -1 else if y.length < x.length then 1 else 0 := by
  rw [cmpL_skip i x y hs (by omega) (by omega)]
  rcases hx : x.drop i with _ | ⟨a, x'⟩
  · rcases hy : y.drop i with _ | ⟨b, y'⟩
    · have e1 := congrArg List.length hx
      have e2 := congrArg List.length hy
      simp only [List.length_drop, List.length_nil] at e1 e2
      rw [if_neg (by omega), if_neg (by omega)]
      rfl
    · have e1 := congrArg List.length hx
      have e2 := congrArg List.length hy
      simp only [List.length_drop, List.length_nil, List.length_cons] at e1 e2
      rw [if_pos (by omega)]
      rfl
  · rcases hy : y.drop i with _ | ⟨b, y'⟩
    · have e1 := congrArg List.length hx
      have e2 := congrArg List.length hy
      simp only [List.length_drop, List.length_nil, List.length_cons] at e1 e2
      rw [if_neg (by omega), if_pos (by omega)]
      rfl
    · have e1 := congrArg List.length hx
      have e2 := congrArg List.length hy
      simp only [List.length_drop, List.length_cons] at e1 e2
      omega
theorem same_snoc {x y : Txts} {i : Nat} (hs : ∀ j, j < i → x[j]? = y[j]?) (h1 : i < x.length) (h2 : i < y.length) (h : x[i] = y[i]) : ∀ j, j < i + 1 → x[j]? = y[j]? := fun j hj => by
  by_cases e : j = i
  · subst e
    rw [List.getElem?_eq_getElem h1, List.getElem?_eq_getElem h2, h]
  · exact hs j (by omega)
set_option maxRecDepth 20000 in
theorem cmp_s (a b : List UInt8) (ha : a.length ≤ 2000000) (hb : b.length ≤ 2000000) (w : World) (hG : MLen w) :
    Ret Tryd.prog 29 [str a, str b] w fun v w' => v = .int .i64 (cmpP a b) ∧ Ext w w' := by
  have la := parts_len a
  have lb := parts_len b
  refine Ret.enter Tryd.func29 rfl Tryd.ntmps29 (by kernel_rfl) rfl ?_
  refine KW.seq (KW.region ?_)
  refine OW.val rfl rfl (EX.assign rfl) ?_
  refine OW.nil ?_
  refine KW.seq (KW.region ?_)
  refine OW.val rfl rfl (EX.move rfl) ?_
  refine OW.call rfl rfl rfl (parts_p a ha w hG) ?_
  rintro _ w1 ⟨ba, rfl, hga, hba, hx1⟩
  refine OW.val rfl rfl (EX.move rfl) ?_
  refine OW.call rfl rfl rfl (parts_p b hb w1 (hG.ext hx1)) ?_
  rintro _ w2 ⟨bb, rfl, hgb, hbb, hx2⟩
  refine OW.val rfl rfl (EX.assign rfl) ?_
  refine OW.val rfl rfl (EX.assign rfl) ?_
  refine OW.nil ?_
  refine KW.seq (KW.seq (KW.region ?_))
  refine OW.val rfl rfl (EX.move rfl) ?_
  refine OW.val rfl rfl (EX.lenA Tryd.underlying23 rfl) ?_
  refine OW.val rfl rfl (EX.move rfl) ?_
  refine OW.val rfl rfl (EX.lenA Tryd.underlying23 rfl) ?_
  refine OW.val rfl rfl (by first | exact EX.minN rfl rfl | exact EX.minZ rfl rfl) ?_
  refine OW.val rfl rfl (EX.move rfl) ?_
  refine OW.nil ?_
  refine KW.block ?_
  have x2 := hx1.trans hx2
  have hba2 := hba.ext hx2
  unfold cmpP
  generalize hX : parts a = X at hba2 la
  generalize hY : parts b = Y at hbb lb
  refine KW.loop2 (fun (i : Nat) (wr : World) => i ≤ min X.length Y.length ∧ (∀ j, j < i → X[j]? = Y[j]?) ∧ Ext w2 wr) (fun (i : Nat) (wr : World) => [(5, .slice (some ⟨ba, 0, none⟩) X.length X.length), (6, .slice (some ⟨bb, 0, none⟩) Y.length Y.length), (16, .int .i64 (((min X.length Y.length) : Nat) : Int)), (17, .int .i64 ((i : Nat) : Int))]) (fun (i : Nat) (wr : World) => wr) (fun (i : Nat) (wr : World) => min X.length Y.length - i) (0) (w2) ⟨rfl, rfl, rfl, rfl, trivial⟩ rfl ?_ ?_
  · exact ⟨by omega, fun j hj => by omega, Ext.refl _⟩
  · rintro i wr ⟨hi, hs, hxr⟩
    have xr := x2.trans hxr
    have hbr := hba2.ext hxr
    have hcr := hbb.ext hxr
    refine KW.seq (KW.region ?_)
    refine OW.val rfl rfl (by first | exact EX.lssN rfl rfl | exact EX.lssZ rfl rfl) ?_
    refine OW.nil ?_
    refine KW.seq ?_
    refine KW.condD rfl (fun hlt => ?_) (fun hlt => ?_)
    · have h1 : i < X.length := by omega
      have h2 : i < Y.length := by omega
      have g1 := txtsV_get h1
      have g2 := txtsV_get h2
      refine KW.skip (KW.seq (KW.block (KW.seq (KW.region ?_))))
      refine OW.val rfl rfl (EX.move rfl) ?_
      refine OW.val rfl rfl (EX.assign rfl) ?_
      refine OW.nil ?_
      refine KW.seq ?_
      refine KW.regionQ (by kernel_rfl) (by kernel_rfl) ?_
      refine QW.val rfl rfl (fun _ => EX.move rfl) ?_
      refine QW.val rfl rfl (fun _ => EX.move rfl) ?_
      refine QW.val rfl rfl (fun _ => by first | exact EX.indexAddrS0 Tryd.underlying23 ti9 rfl rfl (by omega) | exact EX.indexAddrS1 Tryd.underlying23 ti9 rfl rfl (by omega)) ?_
      refine QW.val rfl rfl (fun _ => EX.load Tryd.underlying9 rfl rfl ((hbr.drewN _).cell_of g1)) ?_
      refine QW.val rfl rfl (fun _ => EX.move rfl) ?_
      refine QW.val rfl rfl (fun _ => EX.move rfl) ?_
      refine QW.val rfl rfl (fun _ => by first | exact EX.indexAddrS0 Tryd.underlying23 ti9 rfl rfl (by omega) | exact EX.indexAddrS1 Tryd.underlying23 ti9 rfl rfl (by omega)) ?_
      refine QW.val rfl rfl (fun _ => EX.load Tryd.underlying9 rfl rfl ((hcr.drewN _).cell_of g2)) ?_
      refine QW.val rfl rfl (fun _ => EX.neqS rfl rfl) ?_
      refine QW.nil (fun nq => ?_)
      refine KW.condD rfl (fun hne => ?_) (fun hne => ?_)
      · have hcm := cmpL_at hs h1 h2 hne
        have hbd := hbr.drewN nq
        have hcd := hcr.drewN nq
        refine KW.seq ?_
        refine KW.regionQ (by kernel_rfl) (by kernel_rfl) ?_
        refine QW.val rfl rfl (fun _ => EX.move rfl) ?_
        refine QW.val rfl rfl (fun _ => EX.move rfl) ?_
        refine QW.val rfl rfl (fun _ => by first | exact EX.indexAddrS0 Tryd.underlying23 ti9 rfl rfl (by omega) | exact EX.indexAddrS1 Tryd.underlying23 ti9 rfl rfl (by omega)) ?_
        refine QW.val rfl rfl (fun _ => EX.load Tryd.underlying9 rfl rfl ((hbd.drewN _).cell_of g1)) ?_
        refine QW.val rfl rfl (fun _ => EX.move rfl) ?_
        refine QW.val rfl rfl (fun _ => EX.move rfl) ?_
        refine QW.val rfl rfl (fun _ => by first | exact EX.indexAddrS0 Tryd.underlying23 ti9 rfl rfl (by omega) | exact EX.indexAddrS1 Tryd.underlying23 ti9 rfl rfl (by omega)) ?_
        refine QW.val rfl rfl (fun _ => EX.load Tryd.underlying9 rfl rfl ((hcd.drewN _).cell_of g2)) ?_
        refine QW.call rfl rfl rfl (fun _ => RetQ.of1 (compare_c X[i] Y[i] _)) ?_
        refine QW.val rfl rfl (fun _ => EX.assign rfl) ?_
        refine QW.nil (fun nq => ?_)
        refine KW.ret (ret1 rfl rfl ?_)
        rw [hcm]
        exact ⟨rfl, (xr.trans (Ext.drewN _ _)).trans (Ext.drewN _ _)⟩
      · refine KW.skip (KW.leave (KW.region ?_))
        refine OW.val rfl rfl (by first | exact EX.addN (b := 1) (m := 9223372036854775807) rfl rfl rfl (by omega) | exact EX.addZ (m := 9223372036854775807) rfl rfl rfl rfl (by omega)) ?_
        refine OW.val rfl rfl (EX.move rfl) ?_
        refine OW.nil ?_
        refine KW.back2 (i + 1) (wr.drewN nq) ⟨rfl, rfl, rfl, rfl, trivial⟩ rfl ?_ (by omega)
        exact ⟨by omega, same_snoc hs h1 h2 (by simpa using hne), hxr.trans (Ext.drewN wr nq)⟩
    · have hce := cmpL_end hs (by omega)
      refine KW.exit rfl (KW.seq (KW.block (KW.seq (KW.region ?_))))
      refine OW.val rfl rfl (EX.move rfl) ?_
      refine OW.val rfl rfl (EX.lenA Tryd.underlying23 rfl) ?_
      refine OW.val rfl rfl (EX.move rfl) ?_
      refine OW.val rfl rfl (EX.lenA Tryd.underlying23 rfl) ?_
      refine OW.val rfl rfl (by first | exact EX.lssN rfl rfl | exact EX.lssZ rfl rfl) ?_
      refine OW.val rfl rfl (EX.assign rfl) ?_
      refine OW.nil ?_
      refine KW.condD rfl (fun k1 => ?_) (fun k1 => ?_)
      · rw [if_pos k1] at hce
        refine KW.seq (KW.region ?_)
        refine OW.val rfl rfl (EX.assign rfl) ?_
        refine OW.nil ?_
        refine KW.ret (ret1 rfl rfl ?_)
        rw [hce]
        exact ⟨rfl, xr⟩
      · rw [if_neg k1] at hce
        refine KW.seq (KW.region ?_)
        refine OW.val rfl rfl (EX.move rfl) ?_
        refine OW.val rfl rfl (EX.lenA Tryd.underlying23 rfl) ?_
        refine OW.val rfl rfl (EX.move rfl) ?_
        refine OW.val rfl rfl (EX.lenA Tryd.underlying23 rfl) ?_
        refine OW.val rfl rfl (by first | exact EX.gtrN rfl rfl | exact EX.gtrZ rfl rfl) ?_
        refine OW.val rfl rfl (EX.assign rfl) ?_
        refine OW.nil ?_
        refine KW.condD rfl (fun k2 => ?_) (fun k2 => ?_)
        · rw [if_pos (by omega)] at hce
          refine KW.seq (KW.region ?_)
          refine OW.val rfl rfl (EX.assign rfl) ?_
          refine OW.nil ?_
          refine KW.ret (ret1 rfl rfl ?_)
          rw [hce]
          exact ⟨rfl, xr⟩
        · rw [if_neg (by omega)] at hce
          refine KW.skip (KW.leave (KW.seq (KW.region ?_)))
          refine OW.val rfl rfl (EX.assign rfl) ?_
          refine OW.nil ?_
          refine KW.ret (ret1 rfl rfl ?_)
          rw [hce]
          exact ⟨rfl, xr⟩
end Go.Proofs.YthgfdpcpbghkpaaDoor
namespace Go.Proofs.YthgfdpcpbghkpaaDoor
open Go.RowKit Pth Rec Srt Cat
def cmpPrev (l : List M) (i : Nat) (m : M) : Int := match (l.take i).getLast? with | some p => cmpP p.path m.path | none => -1
structure PreC (l : List M) : Prop where
  may : ∀ m ∈ l, mayM m
  rises : Rises mkey l
theorem PreC.nil : PreC [] := ⟨by simp, List.Pairwise.nil⟩
theorem getLast_take {l : List M} {i : Nat} (h0 : 0 < i) (hi : i ≤ l.length) : (l.take i).getLast? = some (l[i - 1]'(by omega)) := by
  have e : l.take i = l.take (i - 1) ++ [l[i - 1]'(by omega)] := by
    have h := (List.take_append_getElem (show i - 1 < l.length by omega)).symm
    rw [show i - 1 + 1 = i by omega] at h
    exact h
  rw [e]
  exact List.getLast?_concat
theorem cmpPrev_pos {l : List M} {i : Nat} {m : M} (h0 : 0 < i) (hi : i ≤ l.length) : cmpPrev l i m = cmpP (l[i - 1]'(by omega)).path m.path := by
  unfold cmpPrev
  rw [getLast_take h0 hi]
theorem PreC.snoc {l : List M} {i : Nat} (h : PreC (l.take i)) {m : M} (hm : mayM m) (hc : ¬ 0 ≤ cmpPrev l i m) : PreC (l.take i ++ [m]) := by
  refine ⟨fun x hx => ?_, rises_snoc h.rises fun p hp => ?_⟩
  · rcases List.mem_append.1 hx with hx | hx
    · exact h.may x hx
    · simp only [List.mem_singleton] at hx
      subst hx
      exact hm
  · unfold cmpPrev at hc
    rw [hp] at hc
    simp only at hc
    have := cmpK_val mkey p m
    simp only [cmpK, mkey] at this
    omega
theorem not_okC {l : List M} {cap : Int} {i : Nat} (hi : i < l.length) (h : ¬ mayM l[i] ∨ 0 ≤ cmpPrev l i l[i]) : ¬ OkC l cap := fun q => by
  rcases h with h | h
  · exact h (q.may _ (List.getElem_mem hi))
  · rcases Nat.eq_zero_or_pos i with h0 | h0
    · subst h0
      simp [cmpPrev] at h
    · rw [cmpPrev_pos h0 (by omega)] at h
      have h1 : cmpK mkey (l[i - 1]'(by omega)) l[i] = -1 := List.pairwise_iff_getElem.1 q.rises (i - 1) i (by omega) hi (by omega)
      simp only [cmpK, mkey] at h1
      omega
theorem cell_extC {w w' : World} (h : Ext w w') {a : Addr} {u : Value} (hc : w.cell? a = some u) : w'.cell? a = some u := by
  have hlt := World.block_lt_of_cell? w _ hc
  have := h.block _ hlt
  unfold World.cell? at hc ⊢
  rw [this]
  exact hc
theorem exts_len (l : List M) : (exts l).length = l.length := by simp [exts]
set_option maxRecDepth 20000 in
theorem chk_s (l : List M) (hok : ∀ m ∈ l, m.Ok) (hl : l.length ≤ 140737488355328) (cap : Int) (A : Option Addr) (c B : Nat) (w : World) (hG : MLen w) (hs : Sl w B A (memsV l)) :
    Ret Tryd.prog 12 [.slice A l.length c, .int .i64 cap] w fun v w' => v = .int .i64 ((chkC l cap : Nat) : Int) ∧ Ext w w' := by
  refine Ret.enter Tryd.func12 rfl Tryd.ntmps12 (by kernel_rfl) rfl ?_
  refine KW.seq (KW.region ?_)
  refine OW.val rfl rfl (EX.assign rfl) ?_
  refine OW.nil ?_
  refine KW.seq (KW.seq (KW.region ?_))
  refine OW.val rfl rfl (EX.move rfl) ?_
  refine OW.val rfl rfl (EX.lenA Tryd.underlying22 rfl) ?_
  refine OW.val rfl rfl (by first | exact EX.gtrN (b := 16) rfl rfl | exact EX.gtrZ rfl rfl) ?_
  refine OW.nil ?_
  refine KW.condD rfl (fun hbig => ?_) (fun hbig => ?_)
  · refine KW.seq (KW.region ?_)
    refine OW.val rfl rfl (EX.assign rfl) ?_
    refine OW.nil ?_
    refine KW.ret (ret1 rfl rfl ?_)
    rw [chkC_no (fun h => by have := h.len; omega)]
    exact ⟨rfl, Ext.refl _⟩
  · refine KW.skip (KW.seq (KW.region ?_))
    refine OW.val rfl rfl (EX.assign rfl) ?_
    refine OW.nil ?_
    refine KW.seq (KW.seq (KW.region ?_))
    refine OW.val rfl rfl (EX.move rfl) ?_
    refine OW.val rfl rfl (EX.lenA Tryd.underlying22 rfl) ?_
    refine OW.val rfl rfl (EX.move rfl) ?_
    refine OW.nil ?_
    refine KW.block ?_
    refine KW.loop3 (fun (i : Nat) (v : Value) (wr : World) => i ≤ l.length ∧ PreC (l.take i) ∧ Own wr w.heap.size 77 2 v i (xtsV (exts (l.take i))) ∧ Ext w wr) (fun (i : Nat) (v : Value) (wr : World) => [(0, .slice A l.length c), (1, .int .i64 cap), (5, v), (11, .slice A l.length c), (12, .int .i64 ((l.length : Nat) : Int)), (13, .int .i64 ((i : Nat) : Int))]) (fun (i : Nat) (v : Value) (wr : World) => wr) (fun (i : Nat) (v : Value) (wr : World) => l.length - i) (0) (.slice none 0 0) (w) ⟨rfl, rfl, rfl, rfl, rfl, rfl, trivial⟩ rfl ?_ ?_
    · exact ⟨Nat.zero_le _, PreC.nil, Own.nil _ _ _ _, Ext.refl _⟩
    · rintro i v wr ⟨hi, hpre, hown, hx⟩
      refine KW.seq (KW.region ?_)
      refine OW.val rfl rfl (by first | exact EX.lssN rfl rfl | exact EX.lssZ rfl rfl) ?_
      refine OW.nil ?_
      refine KW.seq ?_
      refine KW.condD rfl (fun hlt => ?_) (fun hlt => ?_)
      · obtain ⟨b, o, rfl, _, hcell⟩ := (hs.ext hx).flat (i := i) (c := 5) (fun _ => rfl) (by decide) hlt
        have hsn : l.take (i + 1) = l.take i ++ [l[i]] := (List.take_append_getElem hlt).symm
        have hno := not_okC (cap := cap) hlt
        have hmo := hok l[i] (List.getElem_mem hlt)
        have hprev : ∀ h : 0 < i, cmpPrev l i l[i] = cmpP (l[i - 1]'(by omega)).path (l[i]).path := fun h => cmpPrev_pos h hi
        have hzero : i = 0 → cmpPrev l i l[i] = -1 := fun h => by subst h; simp [cmpPrev]
        have hpm : ∀ h : 0 < i, mayM (l[i - 1]'(by omega)) := fun h => hpre.may _ (List.mem_take_iff_getElem.2 ⟨i - 1, by omega, rfl⟩)
        have hcp : ∀ h : 0 < i, ∀ j u, (l[i - 1]'(by omega)).cells[j]? = some u → wr.cell? ⟨b, o + (i - 1) * 5 + j, none⟩ = some u := fun h => by
          obtain ⟨b2, o2, e2, _, h2⟩ := (hs.ext hx).flat (i := i - 1) (c := 5) (fun _ => rfl) (by decide) (by omega)
          cases e2
          exact h2
        generalize hmd : l[i] = m at hcell hsn hno hmo hprev hzero
        refine KW.skip (KW.seq (KW.block (KW.seq (KW.region ?_))))
        refine OW.val rfl rfl (EX.move rfl) ?_
        refine OW.val rfl rfl (EX.indexAddrS Tryd.underlying22 ti50 rfl rfl (by omega)) ?_
        refine OW.val rfl rfl (EX.loadA (l := m.cells) Tryd.underlying50 rfl ti50 rfl rfl hcell) ?_
        refine OW.allocB (l := [str [], .int .i64 0, .int .i64 0, .int .i64 0, .int .u32 0]) rfl rfl ti50 rfl ?_
        rintro mb w2 hge2 hb2 hx2
        refine OW.val rfl rfl (EX.assign rfl) ?_
        refine OW.storeS rfl ti50 rfl rfl rfl (by first | rfl | (simp only [List.all_cons, List.all_nil, Bool.and_true, Bool.true_and, Bool.and_eq_true, Value.oneCell']; repeat (first | assumption | exact Own.one (by assumption) | constructor))) (hb2) (Nat.le_refl _) ?_
        rintro w3 hb3 hm3
        refine OW.nil ?_
        refine KW.seq (KW.seq ?_)
        replace hb3 : Bk w3 mb 50 m.cells := hb3
        have x3 : Ext wr w3 := below_mo hx2 hm3 hx2.size (fun k hk => by simp at hk; omega)
        have xw3 := hx.trans x3
        have ck := fun w => checkM_s m hmo w
        refine KW.cut1 (fun (wq : World) => Ext w3 wq) (fun (wq : World) => [(0, .slice (some ⟨b, o, none⟩) l.length c), (1, .int .i64 cap), (5, v), (7, .pointer (some ⟨mb, 0, none⟩)), (11, .slice (some ⟨b, o, none⟩) l.length c), (12, .int .i64 ((l.length : Nat) : Int)), (13, .int .i64 ((i : Nat) : Int)), (36, .bool (decide ((¬ mayM m ∨ 0 ≤ cmpPrev l i m))))]) (fun (wq : World) => wq) ?_ ?_
        · skip
          rcases Decidable.em (mayM m) with hm | hm
          · have e0 : checkM m = 0 := (checkM_iff m).2 hm
            have hml := (may_path hm).1
            rw [e0] at ck
            rcases Nat.eq_zero_or_pos i with h0 | h0
            · refine KW.regionG (N := 19) (fun w' => Ext w3 w') (by kernel_rfl) rfl ?_
              have hS := Ext.drew w3
              refine GW.val 0 rfl (by kernel_rfl) (by kernel_rfl) (by kernel_rfl) rfl rfl hS (fun w' hS' => EX.loadBk Tryd.underlying50 rfl ti50 rfl (hb3.ext hS') rfl) ?_
              refine GW.call 1 rfl (by kernel_rfl) rfl rfl rfl (ck _) ?_
              rintro _ wq ⟨rfl, hxq⟩
              refine ⟨hS.trans hxq, fun hS => ?_⟩
              refine GW.val 2 rfl (by kernel_rfl) (by kernel_rfl) (by kernel_rfl) rfl rfl hS (fun w' hS' => by first | exact EX.neqN (b := 0) rfl rfl | exact EX.neqZ rfl rfl) ?_
              refine GW.val 3 rfl (by kernel_rfl) (by kernel_rfl) (by kernel_rfl) rfl rfl hS (fun w' hS' => EX.move rfl) ?_
              refine GW.as 21 (.bool false) rfl (congrArg Value.bool (decide_eq_false ((fun h => h rfl)))) ?_
              refine GW.val 4 rfl (by kernel_rfl) (by kernel_rfl) (by kernel_rfl) rfl rfl hS (fun w' hS' => EX.move rfl) ?_
              refine GW.val 5 rfl (by kernel_rfl) (by kernel_rfl) (by kernel_rfl) rfl rfl hS (fun w' hS' => by first | exact EX.gtrN (b := 0) rfl rfl | exact EX.gtrZ rfl rfl) ?_
              refine GW.val 6 rfl (by kernel_rfl) (by kernel_rfl) (by kernel_rfl) rfl rfl hS (fun w' hS' => EX.move rfl) ?_
              refine GW.as 24 (.bool false) rfl (congrArg Value.bool (decide_eq_false ((by omega)))) ?_
              refine GW.pass 7 rfl (by kernel_rfl) (by kernel_rfl) (by kernel_rfl) rfl rfl hS ?_
              refine GW.pass 8 rfl (by kernel_rfl) (by kernel_rfl) (by kernel_rfl) rfl rfl hS ?_
              refine GW.pass 9 rfl (by kernel_rfl) (by kernel_rfl) (by kernel_rfl) rfl rfl hS ?_
              refine GW.pass 10 rfl (by kernel_rfl) (by kernel_rfl) (by kernel_rfl) rfl rfl hS ?_
              refine GW.pass 11 rfl (by kernel_rfl) (by kernel_rfl) (by kernel_rfl) rfl rfl hS ?_
              refine GW.pass 12 rfl (by kernel_rfl) (by kernel_rfl) (by kernel_rfl) rfl rfl hS ?_
              refine GW.pass 13 rfl (by kernel_rfl) (by kernel_rfl) (by kernel_rfl) rfl rfl hS ?_
              refine GW.pass 14 rfl (by kernel_rfl) (by kernel_rfl) (by kernel_rfl) rfl rfl hS ?_
              refine GW.pass 15 rfl (by kernel_rfl) (by kernel_rfl) (by kernel_rfl) rfl rfl hS ?_
              refine GW.pass 16 rfl (by kernel_rfl) (by kernel_rfl) (by kernel_rfl) rfl rfl hS ?_
              refine GW.val 17 rfl (by kernel_rfl) (by kernel_rfl) (by kernel_rfl) rfl rfl hS (fun w' hS' => EX.pickF rfl rfl) ?_
              refine GW.val 18 rfl (by kernel_rfl) (by kernel_rfl) (by kernel_rfl) rfl rfl hS (fun w' hS' => EX.pickF rfl rfl) ?_
              refine GW.done (by kernel_rfl) ?_
              refine KW.as 36 (.bool (decide ((¬ mayM m ∨ 0 ≤ cmpPrev l i m)))) rfl (congrArg Value.bool (decide_eq_false (fun q => q.elim (fun z => z hm) (fun z => by have := hzero h0; omega))).symm) ?_
              refine KW.meet1 (wq) ⟨rfl, rfl, rfl, rfl, rfl, rfl, rfl, rfl, trivial⟩ rfl ?_
              exact hS
            · have e1 := hprev h0
              have e2 : (l[i - 1]'(by omega)).path.length ≤ 120 := (may_path (hpm h0)).1
              have e3 := hcp h0
              generalize (l[i - 1]'(by omega)) = p at e1 e2 e3
              have cc := fun w hG => cmp_s p.path m.path (by omega) (by omega) w hG
              rw [← e1] at cc
              refine KW.regionG (N := 19) (fun w' => Ext w3 w') (by kernel_rfl) rfl ?_
              have hS := Ext.drew w3
              refine GW.val 0 rfl (by kernel_rfl) (by kernel_rfl) (by kernel_rfl) rfl rfl hS (fun w' hS' => EX.loadBk Tryd.underlying50 rfl ti50 rfl (hb3.ext hS') rfl) ?_
              refine GW.call 1 rfl (by kernel_rfl) rfl rfl rfl (ck _) ?_
              rintro _ wq ⟨rfl, hxq⟩
              refine ⟨hS.trans hxq, fun hS => ?_⟩
              refine GW.val 2 rfl (by kernel_rfl) (by kernel_rfl) (by kernel_rfl) rfl rfl hS (fun w' hS' => by first | exact EX.neqN (b := 0) rfl rfl | exact EX.neqZ rfl rfl) ?_
              refine GW.val 3 rfl (by kernel_rfl) (by kernel_rfl) (by kernel_rfl) rfl rfl hS (fun w' hS' => EX.move rfl) ?_
              refine GW.as 21 (.bool false) rfl (congrArg Value.bool (decide_eq_false ((fun h => h rfl)))) ?_
              refine GW.val 4 rfl (by kernel_rfl) (by kernel_rfl) (by kernel_rfl) rfl rfl hS (fun w' hS' => EX.move rfl) ?_
              refine GW.val 5 rfl (by kernel_rfl) (by kernel_rfl) (by kernel_rfl) rfl rfl hS (fun w' hS' => by first | exact EX.gtrN (b := 0) rfl rfl | exact EX.gtrZ rfl rfl) ?_
              refine GW.val 6 rfl (by kernel_rfl) (by kernel_rfl) (by kernel_rfl) rfl rfl hS (fun w' hS' => EX.move rfl) ?_
              refine GW.as 24 (.bool true) rfl (congrArg Value.bool (decide_eq_true ((by omega)))) ?_
              refine GW.val 7 rfl (by kernel_rfl) (by kernel_rfl) (by kernel_rfl) rfl rfl hS (fun w' hS' => EX.move rfl) ?_
              refine GW.val 8 rfl (by kernel_rfl) (by kernel_rfl) (by kernel_rfl) rfl rfl hS (fun w' hS' => EX.move rfl) ?_
              refine GW.val 9 rfl (by kernel_rfl) (by kernel_rfl) (by kernel_rfl) rfl rfl hS (fun w' hS' => by first | exact EX.subN (b := 1) (m := 9223372036854775807) rfl rfl rfl (by omega) | exact EX.subZ (m := 9223372036854775807) rfl rfl rfl rfl (by omega)) ?_
              refine GW.val 10 rfl (by kernel_rfl) (by kernel_rfl) (by kernel_rfl) rfl rfl hS (fun w' hS' => EX.indexAddrS Tryd.underlying22 ti50 rfl rfl (by omega)) ?_
              refine GW.val 11 rfl (by kernel_rfl) (by kernel_rfl) (by kernel_rfl) rfl rfl hS (fun w' hS' => EX.fieldAddr (off := 0) Tryd.underlying50 rfl rfl ti9 rfl rfl) ?_
              refine GW.val 12 rfl (by kernel_rfl) (by kernel_rfl) (by kernel_rfl) rfl rfl hS (fun w' hS' => EX.load Tryd.underlying9 rfl rfl (cell_extC (x3.trans hS') (e3 0 _ rfl))) ?_
              refine GW.val 13 rfl (by kernel_rfl) (by kernel_rfl) (by kernel_rfl) rfl rfl hS (fun w' hS' => EX.fieldAddr (off := 0) Tryd.underlying50 rfl rfl ti9 rfl rfl) ?_
              refine GW.val 14 rfl (by kernel_rfl) (by kernel_rfl) (by kernel_rfl) rfl rfl hS (fun w' hS' => EX.load Tryd.underlying9 rfl rfl ((hb3.ext hS').cell_of rfl)) ?_
              refine GW.call 15 rfl (by kernel_rfl) rfl rfl rfl (cc _ ((hG.ext xw3).ext hS)) ?_
              rintro _ wp ⟨rfl, hxp⟩
              refine ⟨hS.trans hxp, fun hS => ?_⟩
              refine GW.val 16 rfl (by kernel_rfl) (by kernel_rfl) (by kernel_rfl) rfl rfl hS (fun w' hS' => by first | exact EX.geqN (b := 0) rfl rfl | exact EX.geqZ rfl rfl) ?_
              refine GW.val 17 rfl (by kernel_rfl) (by kernel_rfl) (by kernel_rfl) rfl rfl hS (fun w' hS' => EX.pickT rfl rfl) ?_
              refine GW.val 18 rfl (by kernel_rfl) (by kernel_rfl) (by kernel_rfl) rfl rfl hS (fun w' hS' => EX.pickF rfl rfl) ?_
              refine GW.done (by kernel_rfl) ?_
              refine KW.as 36 (.bool (decide ((¬ mayM m ∨ 0 ≤ cmpPrev l i m)))) rfl (congrArg Value.bool (decide_eq_decide.2 ⟨fun h => .inr h, fun h => h.elim (fun q => absurd hm q) id⟩)) ?_
              refine KW.meet1 (wp) ⟨rfl, rfl, rfl, rfl, rfl, rfl, rfl, rfl, trivial⟩ rfl ?_
              exact hS
          · have e0 : checkM m ≠ 0 := fun q => hm ((checkM_iff m).1 q)
            refine KW.regionG (N := 19) (fun w' => Ext w3 w') (by kernel_rfl) rfl ?_
            have hS := Ext.drew w3
            refine GW.val 0 rfl (by kernel_rfl) (by kernel_rfl) (by kernel_rfl) rfl rfl hS (fun w' hS' => EX.loadBk Tryd.underlying50 rfl ti50 rfl (hb3.ext hS') rfl) ?_
            refine GW.call 1 rfl (by kernel_rfl) rfl rfl rfl (ck _) ?_
            rintro _ wq ⟨rfl, hxq⟩
            refine ⟨hS.trans hxq, fun hS => ?_⟩
            refine GW.val 2 rfl (by kernel_rfl) (by kernel_rfl) (by kernel_rfl) rfl rfl hS (fun w' hS' => by first | exact EX.neqN (b := 0) rfl rfl | exact EX.neqZ rfl rfl) ?_
            refine GW.val 3 rfl (by kernel_rfl) (by kernel_rfl) (by kernel_rfl) rfl rfl hS (fun w' hS' => EX.move rfl) ?_
            refine GW.as 21 (.bool true) rfl (congrArg Value.bool (decide_eq_true ((fun h => e0 h)))) ?_
            refine GW.pass 4 rfl (by kernel_rfl) (by kernel_rfl) (by kernel_rfl) rfl rfl hS ?_
            refine GW.pass 5 rfl (by kernel_rfl) (by kernel_rfl) (by kernel_rfl) rfl rfl hS ?_
            refine GW.pass 6 rfl (by kernel_rfl) (by kernel_rfl) (by kernel_rfl) rfl rfl hS ?_
            refine GW.pass 7 rfl (by kernel_rfl) (by kernel_rfl) (by kernel_rfl) rfl rfl hS ?_
            refine GW.pass 8 rfl (by kernel_rfl) (by kernel_rfl) (by kernel_rfl) rfl rfl hS ?_
            refine GW.pass 9 rfl (by kernel_rfl) (by kernel_rfl) (by kernel_rfl) rfl rfl hS ?_
            refine GW.pass 10 rfl (by kernel_rfl) (by kernel_rfl) (by kernel_rfl) rfl rfl hS ?_
            refine GW.pass 11 rfl (by kernel_rfl) (by kernel_rfl) (by kernel_rfl) rfl rfl hS ?_
            refine GW.pass 12 rfl (by kernel_rfl) (by kernel_rfl) (by kernel_rfl) rfl rfl hS ?_
            refine GW.pass 13 rfl (by kernel_rfl) (by kernel_rfl) (by kernel_rfl) rfl rfl hS ?_
            refine GW.pass 14 rfl (by kernel_rfl) (by kernel_rfl) (by kernel_rfl) rfl rfl hS ?_
            refine GW.pass 15 rfl (by kernel_rfl) (by kernel_rfl) (by kernel_rfl) rfl rfl hS ?_
            refine GW.pass 16 rfl (by kernel_rfl) (by kernel_rfl) (by kernel_rfl) rfl rfl hS ?_
            refine GW.pass 17 rfl (by kernel_rfl) (by kernel_rfl) (by kernel_rfl) rfl rfl hS ?_
            refine GW.val 18 rfl (by kernel_rfl) (by kernel_rfl) (by kernel_rfl) rfl rfl hS (fun w' hS' => EX.pickT rfl rfl) ?_
            refine GW.done (by kernel_rfl) ?_
            refine KW.as 36 (.bool (decide ((¬ mayM m ∨ 0 ≤ cmpPrev l i m)))) rfl (congrArg Value.bool (decide_eq_true (.inl hm)).symm) ?_
            refine KW.meet1 (wq) ⟨rfl, rfl, rfl, rfl, rfl, rfl, rfl, rfl, trivial⟩ rfl ?_
            exact hS
        · rintro wq hxq
          have xq := xw3.trans hxq
          have hbq := hb3.ext hxq
          have hownq := (hown.ext x3).ext hxq
          refine KW.condD rfl (fun hbad => ?_) (fun hbad => ?_)
          · refine KW.seq (KW.region ?_)
            refine OW.val rfl rfl (EX.assign rfl) ?_
            refine OW.nil ?_
            refine KW.ret (ret1 rfl rfl ?_)
            rw [chkC_no (hno hbad)]
            exact ⟨rfl, xq⟩
          · have hpre2 := hpre.snoc (m := m) (Decidable.of_not_not fun q => hbad (.inl q)) (fun q => hbad (.inr q))
            rw [← hsn] at hpre2
            refine KW.skip (KW.region ?_)
            refine OW.val rfl rfl (EX.move rfl) ?_
            refine OW.val rfl rfl (EX.fieldAddr (off := 1) Tryd.underlying50 rfl rfl ti3 rfl rfl) ?_
            refine OW.val rfl rfl (EX.load Tryd.underlying3 rfl rfl (hbq.cell_of rfl)) ?_
            refine OW.val rfl rfl (EX.fieldAddr (off := 2) Tryd.underlying50 rfl rfl ti3 rfl rfl) ?_
            refine OW.val rfl rfl (EX.load Tryd.underlying3 rfl rfl (hbq.cell_of rfl)) ?_
            refine OW.val rfl rfl (EX.buildS (pl := [(0, 1), (1, 1)]) (ks := [0, 1]) (is := [0, 1]) (zs := [.int .i64 0, .int .i64 0]) Tryd.underlying77 ti77 (by kernel_rfl) rfl rfl rfl (by first | rfl | (simp only [List.all_cons, List.all_nil, Bool.and_true, Bool.true_and, Bool.and_eq_true, Value.oneCell']; repeat (first | assumption | exact Own.one (by assumption) | constructor))) (by simp only [setAll, List.set_cons_zero, List.set_cons_succ]; rfl)) ?_
            refine OW.pushS rfl rfl (fun _ => rfl) rfl Tryd.underlying73 ti77 rfl (by decide) (by decide) rfl rfl (fun _ => rfl) (by first | rfl | assumption | (simp only [List.all_cons, List.all_nil, Bool.and_true, Bool.true_and, Bool.and_eq_true, Value.oneCell']; repeat (first | assumption | constructor))) (xq) (hownq) (by simp only [maxLen]; omega) (by omega) ?_
            rintro _ v4 w4 hown4 x4 hg4
            refine OW.val rfl rfl (EX.assign rfl) ?_
            refine OW.nil ?_
            refine KW.leave (KW.region ?_)
            refine OW.val rfl rfl (by first | exact EX.addN (b := 1) (m := 9223372036854775807) rfl rfl rfl (by omega) | exact EX.addZ (m := 9223372036854775807) rfl rfl rfl rfl (by omega)) ?_
            refine OW.val rfl rfl (EX.move rfl) ?_
            refine OW.nil ?_
            refine KW.back3 (i + 1) (v4) (w4) ⟨rfl, rfl, rfl, rfl, rfl, rfl, trivial⟩ rfl ?_ (by omega)
            refine ⟨by omega, hpre2, ?_, x4⟩
            rw [hsn, show exts (l.take i ++ [m]) = exts (l.take i) ++ [(m.start, m.sectors)] by simp [exts], xtsV_snoc]
            exact hown4
      · obtain rfl : i = l.length := by omega
        rw [List.take_length] at hpre hown
        obtain ⟨A4, c4, rfl, _, hsl4⟩ := hown.slice
        have cs := space_s (exts l) (by rw [exts_len]; omega) cap A4 c4 _ wr hsl4
        rw [exts_len] at cs
        refine KW.exit rfl (KW.seq (KW.seq (KW.region ?_)))
        refine OW.val rfl rfl (EX.move rfl) ?_
        refine OW.val rfl rfl (EX.move rfl) ?_
        refine OW.call rfl rfl rfl (cs) ?_
        rintro _ w5 ⟨rfl, hx5⟩
        refine OW.val rfl rfl (by first | exact EX.neqN (b := 0) rfl rfl | exact EX.neqZ rfl rfl) ?_
        refine OW.nil ?_
        refine KW.condD rfl (fun hsp => ?_) (fun hsp => ?_)
        · have hno : ¬ OkX (exts l) cap := fun q => hsp (by unfold spaceC; rw [if_pos q])
          refine KW.seq (KW.region ?_)
          refine OW.val rfl rfl (EX.assign rfl) ?_
          refine OW.nil ?_
          refine KW.ret (ret1 rfl rfl ?_)
          rw [chkC_no (fun h => hno h.ext)]
          exact ⟨rfl, hx.trans hx5⟩
        · have hyes : OkX (exts l) cap := Decidable.byContradiction fun q => hsp (by unfold spaceC; rw [if_neg q]; decide)
          refine KW.skip (KW.seq (KW.region ?_))
          refine OW.val rfl rfl (EX.assign rfl) ?_
          refine OW.nil ?_
          refine KW.ret (ret1 rfl rfl ?_)
          rw [chkC_ok ⟨by omega, hpre.may, hpre.rises, hyes⟩]
          exact ⟨rfl, hx.trans hx5⟩
end Go.Proofs.YthgfdpcpbghkpaaDoor
namespace Go.Proofs.YthgfdpcpbghkpaaDoor
open Go.RowKit
section
variable {P : Program} {n : Nat} {σ : Sig} {w w' : World} {t e ty T src dst : TypeId} {x y : Operand}
theorem Bk.shape {b : Nat} {l : List Value} (h : Bk w b T l) : w.shape? b = some (T, l.length) := by
  obtain ⟨fr, h, _⟩ := h
  simp [World.shape?, h]
theorem EX.toUnsafe {a : Addr} {s cells : Nat} (hs : P.underlying src = some (.pointer t)) (hd : P.underlying dst = some .unsafePointer) (hz : (P.info? t).map (·.size) = some (s + 1)) (hsh : w.shape? a.block = some (e, cells)) (hoff : a.off < cells) (hx : ev σ x = some (.pointer (some a))) :
    EX P n σ (.convert src dst x) ty w (.pointer (some a)) w := fun A ha dd pos after g => by
  obtain ⟨j, hj, hjs⟩ := Option.map_eq_some_iff.1 hz
  simp only [execOp, ha.ev hx, Lib.run_to_unsafe w a hs hd hj (by omega) hsh hoff, Sem.run_bind, Result.andThen_ok]
  rfl
theorem EX.fromUnsafe {a : Addr} {u : TypeId} {cells : Nat} {z : Nat} (hs : P.underlying src = some .unsafePointer) (hd : P.underlying dst = some (.pointer u)) (hz : (P.info? u).map (·.size) = some z) (hsh : w.shape? a.block = some (e, cells)) (hl : liesAt P P.depth e (cells / P.cellsOf e) a.off u 1 = true) (hx : ev σ x = some (.pointer (some a))) :
    EX P n σ (.convert src dst x) ty w (.pointer (some a)) w := fun A ha dd pos after g => by
  obtain ⟨j, hj, hjs⟩ := Option.map_eq_some_iff.1 hz
  simp only [execOp, ha.ev hx, Lib.run_from_unsafe w a hs hd hj hsh hl, Sem.run_bind, Result.andThen_ok]
  rfl
theorem EX.neqSame {a : Addr} {z : Nat} (hu : P.underlying t = some (.pointer e)) (hz : (P.info? e).map (·.size) = some z) (hx : ev σ x = some (.pointer (some a))) (hy : ev σ y = some (.pointer (some a))) : EX P n σ (.binOp .neq t x y T) ty w (.bool false) w := by
  obtain ⟨j, hj, hjs⟩ := Option.map_eq_some_iff.1 hz
  exact EX.bin hx hy (guard_ptr _ _ _) (Lib.run_neq_ptr_same w a hu hj)
theorem EX.extern {f : FuncId} {fn : Func} {xs : List Operand} {vs : List Value} {ats : Array TypeId} {E : Array Value → Sem Value} {v : Value} (hf : P.funcs[f]? = some fn) (hname : (fn.name == "runtime.NumGoroutine") = false) (hb : fn.body.isNone = true) (hn : Extern.findNext fn = none) (he : Extern.find fn = some E)
    (hx : evs σ xs = some vs) (hr : (E vs.toArray).run P w = .ok v w') : EX P n σ (.call { callee := .value (.func f), args := xs.toArray, argTypes := ats }) ty w v w' := fun a ha dd pos after g => by
  rw [execOp_call_go]
  have : #[] ++ xs.toArray.map a.eval ++ #[] = vs.toArray := by simp [ha.evs hx]
  rw [this, run_callFunc_extern hf hname hb hn he, hr]
  rfl
theorem EX.sliceData {a : Addr} {m c : Nat} (hc : c ≠ 0) (hx : ev σ x = some (.slice (some a) m c)) : EX P n σ (.call { callee := .builtin .unsafeSliceData, args := #[x], argTypes := #[t] }) ty w (.pointer (some a)) w := fun A ha dd pos after g => by
  simp only [execOp, resolve, invoke, builtin, Sem.run_bind, Sem.run_pure, Result.andThen_ok, List.map_toArray, List.map_cons, List.map_nil, ha.ev hx, Lib.run_unsafeSliceData_row w _ _ a m c hc]
theorem EX.sliceDataN {m c : Nat} (hx : ev σ x = some (.slice none m c)) : EX P n σ (.call { callee := .builtin .unsafeSliceData, args := #[x], argTypes := #[t] }) ty w (.pointer none) w := fun A ha dd pos after g => by
  simp only [execOp, resolve, invoke, builtin, Sem.run_bind, Sem.run_pure, Result.andThen_ok, List.map_toArray, List.map_cons, List.map_nil, ha.ev hx, Lib.run_unsafeSliceData_nil w _ _ m c]
theorem EX.unsafeStr {g : Nat} {l : List UInt8} {rest : List Value} {t' : TypeId} (hp : P.underlying t = some (.pointer e)) (hc : P.cellsOf e = 1) (hb : Bk w g e (bytesV l ++ rest)) (h0 : l ≠ []) (h63 : l.length ≤ 9223372036854775807)
    (hx : ev σ x = some (.pointer (some ⟨g, 0, none⟩))) (hy : ev σ y = some (.int .i64 (l.length : Int))) : EX P n σ (.call { callee := .builtin .unsafeString, args := #[x, y], argTypes := #[t, t'] }) ty w (str l) (w.freeze ⟨g, 0, none⟩ l.length) := fun A ha dd pos after gd => by
  have h := Lib.run_unsafeString_row (P := P) w t t' ty e hp hc g (bytesV l ++ rest).length hb.shape l h0 (by simp [bytesV]) h63 (by
    intro j u hj
    have : (bytesV l ++ rest)[j]? = some (.int .u8 (u.toNat : Int)) := by
      rw [List.getElem?_append_left (by simp [bytesV]; exact (List.getElem?_eq_some_iff.1 hj).1)]
      simp [bytesV, hj]
    have h2 := hb.cell_of this
    rw [show (⟨g, 0, none⟩ : Addr).add j = ⟨g, j, none⟩ by unfold Addr.add; split <;> simp_all]
    exact h2)
  simp only [execOp, resolve, invoke, builtin, Sem.run_bind, Sem.run_pure, Result.andThen_ok, List.map_toArray, List.map_cons, List.map_nil, ha.ev hx, ha.ev hy, h]
theorem EX.unsafeStrN {t' : TypeId} {p : Option Addr} (hx : ev σ x = some (.pointer p)) (hy : ev σ y = some (.int .i64 ((0 : Nat) : Int))) : EX P n σ (.call { callee := .builtin .unsafeString, args := #[x, y], argTypes := #[t, t'] }) ty w (str []) w := fun A ha dd pos after gd => by
  have h := Lib.run_unsafeString_none (P := P) w t t' ty p
  have e0 : (((0 : Nat) : Int)) = 0 := rfl
  simp only [execOp, resolve, invoke, builtin, Sem.run_bind, Sem.run_pure, Result.andThen_ok, List.map_toArray, List.map_cons, List.map_nil, ha.ev hx, ha.ev hy, e0, h]
  rfl
end
end Go.Proofs.YthgfdpcpbghkpaaDoor
namespace Go.Proofs.YthgfdpcpbghkpaaDoor
open Go.RowKit
def Bd (w : World) (B b : Nat) (l : List UInt8) : Prop :=
  B ≤ b ∧ ∃ p v, (p = .pointer none ∨ p = .pointer (some ⟨b, 0, none⟩)) ∧ Bk w b 47 [p, v] ∧ (l = [] → v = .slice none 0 0) ∧ Own w B 5 1 v l.length (bytesV l)
theorem Bd.new {w : World} {B b : Nat} (hB : B ≤ b) (h : Bk w b 47 [.pointer none, .slice none 0 0]) : Bd w B b [] := ⟨hB, _, _, .inl rfl, h, fun _ => rfl, Own.nil _ _ _ _⟩
theorem Bd.ext {w w' : World} {B b : Nat} {l : List UInt8} (h : Bd w B b l) (hx : Ext w w') : Bd w' B b l := by
  obtain ⟨h1, p, v, h2, h3, h4, h5⟩ := h
  exact ⟨h1, p, v, h2, h3.ext hx, h4, h5.ext hx⟩
set_option maxRecDepth 20000 in
theorem copyCheck_b (b : Nat) (p v : Value) (w : World) (hp : p = .pointer none ∨ p = .pointer (some ⟨b, 0, none⟩)) (hb : Bk w b 47 [p, v]) :
    Ret Tryd.prog 35 [.pointer (some ⟨b, 0, none⟩)] w fun r w' => r = .tuple #[] ∧ Bk w' b 47 [.pointer (some ⟨b, 0, none⟩), v] ∧ Mo w w' [b] := by
  refine Ret.enter Tryd.func35 rfl Tryd.ntmps35 (by kernel_rfl) rfl ?_
  refine KW.seq (KW.region ?_)
  refine OW.val rfl rfl (EX.move rfl) ?_
  refine OW.val rfl rfl (EX.nilCheck rfl) ?_
  refine OW.val rfl rfl (EX.fieldAddr (off := 0) Tryd.underlying47 rfl rfl ti44 rfl rfl) ?_
  refine OW.val rfl rfl (EX.load Tryd.underlying44 rfl rfl (hb.cell_of rfl)) ?_
  rcases hp with rfl | rfl
  · refine OW.val rfl rfl (EX.eqlP0 Tryd.underlying44 rfl rfl) ?_
    refine OW.nil ?_
    refine KW.condT rfl (KW.region ?_)
    refine OW.val rfl rfl (EX.move rfl) ?_
    refine OW.val rfl rfl (EX.move rfl) ?_
    refine OW.val rfl rfl (EX.toUnsafe (s := 1) Tryd.underlying44 Tryd.underlying101 (by kernel_rfl) hb.shape (Nat.zero_lt_succ _) rfl) ?_
    refine OW.val rfl rfl (EX.extern Tryd.func46 (by kernel_rfl) (by kernel_rfl) (by kernel_rfl) (E := Extern.AbiNoEscape.same) (by kernel_rfl) rfl (Lib.run_noEscape _ _)) ?_
    refine OW.val rfl rfl (EX.fromUnsafe (z := 2) Tryd.underlying101 Tryd.underlying44 (by kernel_rfl) hb.shape (by kernel_rfl) rfl) ?_
    refine OW.val rfl rfl (EX.nilCheck rfl) ?_
    refine OW.val rfl rfl (EX.fieldAddr (off := 0) Tryd.underlying47 rfl rfl ti44 rfl rfl) ?_
    refine OW.storeB rfl ti44 rfl rfl (by first | rfl | assumption | exact Own.one (by assumption)) (hb) (by simp) ?_
    rintro w2 hb2 hm2
    refine OW.nil ?_
    refine KW.done (ret0 rfl ?_)
    exact ⟨rfl, hb2, hm2⟩
  · refine OW.val rfl rfl (EX.eqlP1 Tryd.underlying44 rfl rfl) ?_
    refine OW.nil ?_
    refine KW.condF rfl (KW.seq (KW.region ?_))
    refine OW.val rfl rfl (EX.move rfl) ?_
    refine OW.val rfl rfl (EX.nilCheck rfl) ?_
    refine OW.val rfl rfl (EX.fieldAddr (off := 0) Tryd.underlying47 rfl rfl ti44 rfl rfl) ?_
    refine OW.val rfl rfl (EX.load Tryd.underlying44 rfl rfl (hb.cell_of rfl)) ?_
    refine OW.val rfl rfl (EX.move rfl) ?_
    refine OW.val rfl rfl (EX.neqSame (z := 2) Tryd.underlying44 (by kernel_rfl) rfl rfl) ?_
    refine OW.nil ?_
    refine KW.condF rfl (KW.skip ?_)
    refine KW.done (ret0 rfl ?_)
    exact ⟨rfl, hb, Mo.refl _ _⟩
def bty (T : TypeId) : Bool := T == 47 || T == 5
set_option maxRecDepth 20000 in
theorem writeString_t (B b : Nat) (l s : List UInt8) (w : World) (h : Bd w B b l) (hs : s ≠ []) (hlen : l.length + s.length ≤ 140737488355328) (hB : B ≤ w.heap.size) :
    Ret Tryd.prog 17 [.pointer (some ⟨b, 0, none⟩), str s] w fun r w' => (∃ q, r = q) ∧ Bd w' B b (l ++ s) ∧ Below B w w' ∧ Tm w w' B bty := by
  obtain ⟨hBb, p, v, hp, hb, hn, hown⟩ := h
  have hlb : (bytesV l).length = l.length := by simp [bytesV]
  refine Ret.enter Tryd.func17 rfl Tryd.ntmps17 (by kernel_rfl) rfl ?_
  refine KW.seq (KW.region ?_)
  refine OW.val rfl rfl (EX.assign rfl) ?_
  refine OW.val rfl rfl (EX.assign rfl) ?_
  refine OW.nil ?_
  refine KW.seq (KW.region ?_)
  refine OW.val rfl rfl (EX.move rfl) ?_
  refine OW.call rfl rfl rfl (copyCheck_b b p v w hp hb) ?_
  rintro _ w1 ⟨rfl, hb1, hm1⟩
  refine OW.nil ?_
  refine KW.seq (KW.region ?_)
  refine OW.val rfl rfl (EX.move rfl) ?_
  refine OW.val rfl rfl (EX.move rfl) ?_
  refine OW.val rfl rfl (EX.nilCheck rfl) ?_
  refine OW.val rfl rfl (EX.fieldAddr (off := 1) Tryd.underlying47 rfl rfl ti45 rfl rfl) ?_
  have hown1 := hown.mo hm1 (fun k hk => by simp; exact fun z => hown.ne hb (by decide) k hk z.symm)
  have b1 : Below B w w1 := below_mo (Below.refl B w) hm1 hB (fun k hk => by simp at hk; omega)
  have hB1 : B ≤ w1.heap.size := Nat.le_trans hB b1.size
  refine OW.val rfl rfl (EX.load Tryd.underlying45 rfl rfl (hb1.cell_of rfl)) ?_
  refine OW.val rfl rfl (EX.move rfl) ?_
  refine OW.append B rfl rfl Tryd.underlying45 ti5 rfl (by decide) rfl rfl hown1 (Src.of_str Tryd.underlying9 s) (by simp only [maxLen]; omega) (by omega) hB1 ?_
  rintro v2 w2 hown2 hg2 hv2
  refine OW.val rfl rfl (EX.nilCheck rfl) ?_
  refine OW.val rfl rfl (EX.fieldAddr (off := 1) Tryd.underlying47 rfl rfl ti45 rfl rfl) ?_
  have hb2 := hb1.grown hg2 (fun z => hown1.ne hb1 (by decide) b z.symm rfl)
  have b2 : Below B w w2 := below_mo b1 (Mo.grown hg2 (S := v.ownBlock.toList) (fun k e => by rw [e]; simp)) hB1 (fun k hk => (hown1.lt k (Option.mem_toList.1 hk)).1)
  have hB2 : B ≤ w2.heap.size := Nat.le_trans hB b2.size
  refine OW.storeB rfl ti45 rfl rfl (by first | rfl | assumption | exact Own.one (by assumption)) (hb2) (by simp) ?_
  rintro w3 hb3 hm3
  refine OW.nil ?_
  refine KW.seq (KW.region ?_)
  refine OW.val rfl rfl (EX.move rfl) ?_
  refine OW.val rfl rfl (EX.lenS Tryd.underlying9 rfl) ?_
  refine OW.val rfl rfl (EX.assign rfl) ?_
  refine OW.val rfl rfl (EX.assign rfl) ?_
  refine OW.nil ?_
  have b3 : Below B w w3 := below_mo b2 hm3 hB2 (fun k hk => by simp at hk; omega)
  have hown3 := hown2.mo hm3 (fun k hk => by simp; exact fun z => hown2.ne hb2 (by decide) k hk z.symm)
  have tm1 : Tm w w1 B bty := (Tm.set hb hm1 hBb).mono fun T hT => by simp at hT; simp [bty, hT]
  have tm2 : Tm w1 w2 B bty := (Tm.grown hown1 hg2).mono fun T hT => by simp at hT; simp [bty, hT]
  have tm3 : Tm w2 w3 B bty := (Tm.set hb2 hm3 hBb).mono fun T hT => by simp at hT; simp [bty, hT]
  refine KW.ret (ret2 rfl rfl rfl ?_)
  refine ⟨⟨_, rfl⟩, ⟨hBb, _, v2, .inr rfl, hb3, fun q => absurd q (by simp [hs]), ?_⟩, b3, (tm1.trans tm2).trans tm3⟩
  rw [List.length_append]
  have e : bytesV (l ++ s) = bytesV l ++ bytesV s := by simp [bytesV]
  rw [e]
  exact hown3
theorem writeString_b (B b : Nat) (l s : List UInt8) (w : World) (h : Bd w B b l) (hs : s ≠ []) (hlen : l.length + s.length ≤ 140737488355328) (hB : B ≤ w.heap.size) :
    Ret Tryd.prog 17 [.pointer (some ⟨b, 0, none⟩), str s] w fun r w' => (∃ q, r = q) ∧ Bd w' B b (l ++ s) ∧ Below B w w' :=
  (writeString_t B b l s w h hs hlen hB).mono fun _ _ h => ⟨h.1, h.2.1, h.2.2.1⟩
set_option maxRecDepth 20000 in
theorem bstring_b (B b : Nat) (l : List UInt8) (w : World) (h : Bd w B b l) (hlen : l.length ≤ 140737488355328) (hB : B ≤ w.heap.size) :
    Ret Tryd.prog 18 [.pointer (some ⟨b, 0, none⟩)] w fun r w' => r = str l ∧ Below B w w' := by
  obtain ⟨hBb, p, v, hp, hb, hn, hown⟩ := h
  refine Ret.enter Tryd.func18 rfl Tryd.ntmps18 (by kernel_rfl) rfl ?_
  refine KW.seq (KW.region ?_)
  refine OW.val rfl rfl (EX.assign rfl) ?_
  refine OW.nil ?_
  refine KW.seq ?_
  rcases Decidable.em (l = []) with hl | hl
  · obtain rfl := hn hl
    subst hl
    refine KW.regionQ (by kernel_rfl) (by kernel_rfl) ?_
    refine QW.val rfl rfl (fun _ => EX.move rfl) ?_
    refine QW.val rfl rfl (fun _ => EX.nilCheck rfl) ?_
    refine QW.val rfl rfl (fun _ => EX.fieldAddr (off := 1) Tryd.underlying47 rfl rfl ti45 rfl rfl) ?_
    refine QW.val rfl rfl (fun _ => EX.load Tryd.underlying45 rfl rfl (hb.cell_of rfl)) ?_
    refine QW.val rfl rfl (fun _ => EX.sliceDataN rfl) ?_
    refine QW.val rfl rfl (fun _ => EX.move rfl) ?_
    refine QW.val rfl rfl (fun _ => EX.nilCheck rfl) ?_
    refine QW.val rfl rfl (fun _ => EX.fieldAddr (off := 1) Tryd.underlying47 rfl rfl ti45 rfl rfl) ?_
    refine QW.val rfl rfl (fun _ => EX.load Tryd.underlying45 rfl rfl (hb.cell_of rfl)) ?_
    refine QW.val rfl rfl (fun _ => EX.lenA Tryd.underlying45 rfl) ?_
    refine QW.val rfl rfl (fun _ => EX.unsafeStrN rfl rfl) ?_
    refine QW.val rfl rfl (fun _ => EX.assign rfl) ?_
    refine QW.nil (fun nq => ?_)
    refine KW.ret (ret1 rfl rfl ?_)
    exact ⟨rfl, below_drewN (Below.refl B w) nq⟩
  · have hne : l.length ≠ 0 := fun z => hl (List.eq_nil_of_length_eq_zero z)
    rcases hown.2 with ⟨_, hz⟩ | ⟨g, cap, rest, rfl, hg, hbg, hlen2, hc1, hc2⟩
    · exact absurd hz hne
    · refine KW.regionH 10 (by kernel_rfl) (by kernel_rfl) ?_
      refine HW.val rfl rfl (EX.move rfl) ?_
      refine HW.val rfl rfl (EX.nilCheck rfl) ?_
      refine HW.val rfl rfl (EX.fieldAddr (off := 1) Tryd.underlying47 rfl rfl ti45 rfl rfl) ?_
      refine HW.val rfl rfl (EX.load Tryd.underlying45 rfl rfl (hb.cell_of rfl)) ?_
      refine HW.val rfl rfl (EX.sliceData (by omega) rfl) ?_
      refine HW.val rfl rfl (EX.move rfl) ?_
      refine HW.val rfl rfl (EX.nilCheck rfl) ?_
      refine HW.val rfl rfl (EX.fieldAddr (off := 1) Tryd.underlying47 rfl rfl ti45 rfl rfl) ?_
      refine HW.val rfl rfl (EX.load Tryd.underlying45 rfl rfl (hb.cell_of rfl)) ?_
      refine HW.val rfl rfl (EX.lenA Tryd.underlying45 rfl) ?_
      refine HW.tail ?_
      refine OW.val rfl rfl (EX.unsafeStr (g := g) (l := l) (rest := rest) Tryd.underlying85 (by kernel_rfl) (hbg.drewN _) hl (by omega) rfl rfl) ?_
      refine OW.val rfl rfl (EX.assign rfl) ?_
      refine OW.nil ?_
      refine KW.ret (ret1 rfl rfl ?_)
      exact ⟨rfl, Lib.below_freeze (below_drewN (Below.refl B w) _) (p := ⟨g, 0, none⟩) hg _⟩
end Go.Proofs.YthgfdpcpbghkpaaDoor
