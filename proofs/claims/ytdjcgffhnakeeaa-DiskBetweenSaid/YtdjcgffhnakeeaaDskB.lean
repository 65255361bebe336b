/-
  disk: the device in memory, and its methods.
-/
import Derived.Test.YtdjcgffhnakeeaaDskA
namespace Go.Proofs.Ytdjcgffhnakeeaa
open Go.RowKit Dsk
set_option linter.unusedVariables false

def boolsV (l : List Bool) : List Value := l.map fun b => .bool b
theorem boolsV_length (l : List Bool) : (boolsV l).length = l.length := by simp [boolsV]
theorem boolsV_one (l : List Bool) : ∀ u ∈ boolsV l, u.oneCell' = true := by
  intro u hu
  obtain ⟨_, _, rfl⟩ := List.mem_map.1 hu
  rfl
/-- a change's closure: its variables lie in boxes of their own -/
def ChV (w : World) : Ch → Value → Prop
  | .write i s, v => ∃ bi bs : Nat, v = .func (.func 32) (List.toArray []) (List.toArray [.pointer (some ⟨bi, 0, none⟩), .pointer (some ⟨bs, 0, none⟩)]) ∧ Bk w bi 3 [.int .i64 (i : Int)] ∧ Bk w bs 9 [str s]
  | .cut n, v => ∃ b : Nat, v = .func (.func 33) (List.toArray []) (List.toArray [.pointer (some ⟨b, 0, none⟩)]) ∧ Bk w b 3 [.int .i64 (n : Int)]
def ChVs (w : World) : List Ch → List Value → Prop
  | [], [] => True
  | c :: cs, v :: vs => ChV w c v ∧ ChVs w cs vs
  | _, _ => False
theorem ChV.tm {w w' : World} {B : Nat} {p : TypeId → Bool} (h : Tm w w' B p) (hi : p 3 = false) (hs : p 9 = false) : ∀ {c : Ch} {v : Value}, ChV w c v → ChV w' c v
  | .write i s, v, ⟨bi, bs, e, h1, h2⟩ => ⟨bi, bs, e, h.bk h1 hi, h.bk h2 hs⟩
  | .cut n, v, ⟨b, e, h1⟩ => ⟨b, e, h.bk h1 hi⟩
theorem ChV.one {w : World} : ∀ {c : Ch} {v : Value}, ChV w c v → v.oneCell' = true
  | .write i s, v, ⟨bi, bs, e, h1, h2⟩ => by rw [e]; rfl
  | .cut n, v, ⟨b, e, h1⟩ => by rw [e]; rfl
theorem ChVs.tm {w w' : World} {B : Nat} {p : TypeId → Bool} (h : Tm w w' B p) (hi : p 3 = false) (hs : p 9 = false) : ∀ {cs : List Ch} {vs : List Value}, ChVs w cs vs → ChVs w' cs vs
  | [], [], _ => trivial
  | c :: cs, v :: vs, ⟨h1, h2⟩ => ⟨h1.tm h hi hs, ChVs.tm h hi hs h2⟩
  | [], _ :: _, h => h.elim
  | _ :: _, [], h => h.elim
theorem ChVs.len {w : World} : ∀ {cs : List Ch} {vs : List Value}, ChVs w cs vs → vs.length = cs.length
  | [], [], _ => rfl
  | c :: cs, v :: vs, ⟨_, h2⟩ => by simp [ChVs.len h2]
  | [], _ :: _, h => h.elim
  | _ :: _, [], h => h.elim
theorem ChVs.snoc {w : World} : ∀ {cs : List Ch} {vs : List Value} {c : Ch} {v : Value}, ChVs w cs vs → ChV w c v → ChVs w (cs ++ [c]) (vs ++ [v])
  | [], [], _, _, _, h => ⟨h, trivial⟩
  | c :: cs, v :: vs, _, _, ⟨h1, h2⟩, h => ⟨h1, ChVs.snoc h2 h⟩
  | [], _ :: _, _, _, h, _ => h.elim
  | _ :: _, [], _, _, h, _ => h.elim
theorem ChVs.at_ {w : World} : ∀ {cs : List Ch} {vs : List Value}, ChVs w cs vs → ∀ (j : Nat) (hj : j < cs.length), ∃ v, vs[j]? = some v ∧ ChV w cs[j] v
  | [], [], _, j, hj => by simp at hj
  | c :: cs, v :: vs, ⟨h1, h2⟩, 0, hj => ⟨v, rfl, h1⟩
  | c :: cs, v :: vs, ⟨h1, h2⟩, j + 1, hj => by
    obtain ⟨u, h3, h4⟩ := ChVs.at_ h2 j (by simpa using hj)
    exact ⟨u, by simpa using h3, by simpa using h4⟩
  | [], _ :: _, h, _, _ => h.elim
  | _ :: _, [], h, _, _ => h.elim
/-- the device in memory -/
structure Dev (w : World) (B b : Nat) (D : Dv) (vk vn vp vq : Value) (vs : List Value) : Prop where
  lo : B ≤ b
  cells : Bk w b 54 [.int .i64 (D.cap : Int), vk, vn, vp, .int .i64 (D.at_ : Int), vq, .bool D.dead, .int .i64 (D.calls : Int)]
  kept : Own w B 5 1 vk D.kept.length (bytesV D.kept)
  now : Own w B 5 1 vn D.now.length (bytesV D.now)
  apart : ∀ k, vk.ownBlock = some k → vn.ownBlock ≠ some k
  pend : Own w B 67 1 vp D.pend.length vs
  chs : ChVs w D.pend vs
  keep : Own w B 4 1 vq D.keep.length (boolsV D.keep)
def DevAt (w : World) (B b : Nat) (D : Dv) : Prop := ∃ vk vn vp vq vs, Dev w B b D vk vn vp vq vs
/-- the types of what a device's call changes -/
def dty (T : TypeId) : Bool := T == 54 || T == 67 || T == 5
theorem DevAt.ext {w w' : World} {B b : Nat} {D : Dv} (h : DevAt w B b D) (hx : Ext w w') : DevAt w' B b D := by
  obtain ⟨vk, vn, vp, vq, vs, h1, h2, h3, h4, h5, h6, h7, h8⟩ := h
  exact ⟨vk, vn, vp, vq, vs, h1, h2.ext hx, h3.ext hx, h4.ext hx, h5, h6.ext hx, h7.tm (Tm.of_ext hx 0 (fun _ => false)) rfl rfl, h8.ext hx⟩
theorem DevAt.lt {w : World} {B b : Nat} {D : Dv} (h : DevAt w B b D) : B ≤ b ∧ b < w.heap.size := by
  obtain ⟨vk, vn, vp, vq, vs, h⟩ := h
  exact ⟨h.lo, h.cells.lt⟩

/-! ### What tells and changes nothing -/
section
variable {w : World} {B b : Nat} {D : Dv}
theorem none_d (h : DevAt w B b D) (hD : D.Ok) : Ret Try.prog 28 [.pointer (some ⟨b, 0, none⟩)] w fun v w' => v = .bool false ∧ w = w' := by
  obtain ⟨vk, vn, vp, vq, vs, h⟩ := h
  have hc := hD.cap
  refine Ret.enter Try.func28 rfl Try.ntmps28 (by kernel_rfl) rfl ?_
  refine KW.seq (KW.region ?_)
  refine OW.val rfl rfl (EX.assign rfl) ?_
  refine OW.nil ?_
  refine KW.seq ?_
  refine KW.region ?_
  refine OW.val rfl rfl (EX.move rfl) ?_
  refine OW.val rfl rfl (by first | exact EX.eqlP1 Try.underlying23 rfl rfl | exact EX.eqlP0 Try.underlying23 rfl rfl) ?_
  refine OW.val rfl rfl (EX.move rfl) ?_
  refine OW.val rfl rfl (EX.move rfl) ?_
  refine OW.val rfl rfl (EX.nilCheck rfl) ?_
  refine OW.val rfl rfl (EX.fieldAddr (off := 0) Try.underlying54 rfl rfl ti3 rfl rfl) ?_
  refine OW.val rfl rfl (EX.load Try.underlying3 rfl rfl (h.cells.cell_of rfl)) ?_
  refine OW.val rfl rfl (by first | exact EX.eqlN (b := 0) rfl rfl | exact EX.eqlZ rfl rfl) ?_
  refine OW.val rfl rfl (EX.pickF rfl rfl) ?_
  refine OW.val rfl rfl (EX.assign rfl) ?_
  refine OW.nil ?_
  refine KW.as 2 (.bool false) rfl (congrArg Value.bool (decide_eq_false (by omega))) ?_
  refine KW.ret (ret1 rfl rfl ?_)
  exact ⟨by simp, rfl⟩
theorem none_n (w : World) : Ret Try.prog 28 [.pointer none] w fun v w' => v = .bool true ∧ w = w' := by
  refine Ret.enter Try.func28 rfl Try.ntmps28 (by kernel_rfl) rfl ?_
  refine KW.seq (KW.region ?_)
  refine OW.val rfl rfl (EX.assign rfl) ?_
  refine OW.nil ?_
  refine KW.seq ?_
  refine KW.region ?_
  refine OW.val rfl rfl (EX.move rfl) ?_
  refine OW.val rfl rfl (by first | exact EX.eqlP1 Try.underlying23 rfl rfl | exact EX.eqlP0 Try.underlying23 rfl rfl) ?_
  refine OW.val rfl rfl (EX.move rfl) ?_
  refine OW.pass rfl rfl ?_
  refine OW.pass rfl rfl ?_
  refine OW.pass rfl rfl ?_
  refine OW.pass rfl rfl ?_
  refine OW.pass rfl rfl ?_
  refine OW.val rfl rfl (EX.pickT rfl rfl) ?_
  refine OW.val rfl rfl (EX.assign rfl) ?_
  refine OW.nil ?_
  refine KW.ret (ret1 rfl rfl ?_)
  exact ⟨rfl, rfl⟩
theorem alive_d (h : DevAt w B b D) (hD : D.Ok) : Ret Try.prog 29 [.pointer (some ⟨b, 0, none⟩)] w fun v w' => v = .int .i64 ((if D.dead then 190 else 0 : Nat) : Int) ∧ w = w' := by
  have h0 := h
  obtain ⟨vk, vn, vp, vq, vs, h⟩ := h
  refine Ret.enter Try.func29 rfl Try.ntmps29 (by kernel_rfl) rfl ?_
  refine KW.seq (KW.region ?_)
  refine OW.val rfl rfl (EX.assign rfl) ?_
  refine OW.nil ?_
  refine KW.seq (KW.block (KW.seq (KW.region ?_)))
  refine OW.val rfl rfl (EX.move rfl) ?_
  refine OW.call rfl rfl rfl (none_d h0 hD) ?_
  rintro _ _ ⟨rfl, rfl⟩
  refine OW.val rfl rfl (EX.assign rfl) ?_
  refine OW.nil ?_
  refine KW.condF rfl (KW.seq (KW.region ?_))
  refine OW.val rfl rfl (EX.move rfl) ?_
  refine OW.val rfl rfl (EX.nilCheck rfl) ?_
  refine OW.val rfl rfl (EX.fieldAddr (off := 6) Try.underlying54 rfl rfl ti4 rfl rfl) ?_
  refine OW.val rfl rfl (EX.load Try.underlying4 rfl rfl (h.cells.cell_of rfl)) ?_
  refine OW.val rfl rfl (EX.assign rfl) ?_
  refine OW.nil ?_
  refine KW.cond rfl (fun hd => ?_) (fun hd => ?_)
  · refine KW.seq (KW.region ?_)
    refine OW.val rfl rfl (EX.assign rfl) ?_
    refine OW.nil ?_
    refine KW.ret (ret1 rfl rfl ?_)
    rw [hd]
    exact ⟨rfl, rfl⟩
  · refine KW.skip (KW.leave (KW.seq (KW.region ?_)))
    refine OW.val rfl rfl (EX.assign rfl) ?_
    refine OW.nil ?_
    refine KW.ret (ret1 rfl rfl ?_)
    rw [hd]
    exact ⟨rfl, rfl⟩
theorem alive_n (w : World) : Ret Try.prog 29 [.pointer none] w fun v w' => v = .int .i64 ((1 : Nat) : Int) ∧ w = w' := by
  refine Ret.enter Try.func29 rfl Try.ntmps29 (by kernel_rfl) rfl ?_
  refine KW.seq (KW.region ?_)
  refine OW.val rfl rfl (EX.assign rfl) ?_
  refine OW.nil ?_
  refine KW.seq (KW.block (KW.seq (KW.region ?_)))
  refine OW.val rfl rfl (EX.move rfl) ?_
  refine OW.call rfl rfl rfl (none_n w) ?_
  rintro _ _ ⟨rfl, rfl⟩
  refine OW.val rfl rfl (EX.assign rfl) ?_
  refine OW.nil ?_
  refine KW.condT rfl (KW.seq (KW.region ?_))
  refine OW.val rfl rfl (EX.assign rfl) ?_
  refine OW.nil ?_
  refine KW.ret (ret1 rfl rfl ?_)
  exact ⟨rfl, rfl⟩
end
/-! ### Changes -/
theorem chV_call {w : World} {c : Ch} {v : Value} (h : ChV w c v) {cap : Nat} (hok : c.ok cap) (hcap : cap ≤ 4096) {u : Value} {all : List UInt8} (hown : Own w 0 5 1 u all.length (bytesV all)) (hl : all.length ≤ 100000000) :
    ∃ (f : FuncId) (cs : List Value), v = .func (.func f) (List.toArray []) (List.toArray cs) ∧ Ret Try.prog f ([u] ++ cs) w fun v' w' => Chd w w' u v' (c.ap all) := by
  cases c with
  | write i s =>
    obtain ⟨bi, bs, rfl, h1, h2⟩ := h
    exact ⟨_, _, rfl, write1_c bi bs i s u all w h1 h2 hown (by have := hok.1; omega) hok.2 (by omega)⟩
  | cut n =>
    obtain ⟨b, rfl, h1⟩ := h
    exact ⟨_, _, rfl, (cut1_c b n u all w h1 hown (by have : n ≤ cap := hok; omega) hl).mono fun _ _ hq => hq.2⟩
section
variable {w w' : World} {B b : Nat} {D D' : Dv} {vk vn vp vq vk' vn' vp' vq' : Value} {vs vs' : List Value}
/-- the device's own cells are stored -/
theorem Dev.after {l0 : List Value} (hlo : B ≤ b) (h0 : Bk w b 54 l0) (hm : Mo w w' [b])
    (hb : Bk w' b 54 [.int .i64 (D'.cap : Int), vk', vn', vp', .int .i64 (D'.at_ : Int), vq', .bool D'.dead, .int .i64 (D'.calls : Int)])
    (hk : Own w B 5 1 vk' D'.kept.length (bytesV D'.kept)) (hn : Own w B 5 1 vn' D'.now.length (bytesV D'.now)) (ha : ∀ k, vk'.ownBlock = some k → vn'.ownBlock ≠ some k)
    (hp : Own w B 67 1 vp' D'.pend.length vs') (hc : ChVs w D'.pend vs') (hq : Own w B 4 1 vq' D'.keep.length (boolsV D'.keep)) : Dev w' B b D' vk' vn' vp' vq' vs' := by
  have tm := Tm.set h0 hm hlo
  exact ⟨hlo, hb, tm.own hk rfl, tm.own hn rfl, ha, tm.own hp rfl, hc.tm tm rfl rfl, tm.own hq rfl⟩
theorem Dev.tmD {l0 : List Value} (hlo : B ≤ b) (h0 : Bk w b 54 l0) (hm : Mo w w' [b]) : Tm w w' B dty := (Tm.set h0 hm hlo).mono fun T hT => by simp at hT; simp [dty, hT]
theorem Dev.ext (h : Dev w B b D vk vn vp vq vs) (hx : Ext w w') : Dev w' B b D vk vn vp vq vs :=
  ⟨h.lo, h.cells.ext hx, h.kept.ext hx, h.now.ext hx, h.apart, h.pend.ext hx, h.chs.tm (Tm.of_ext hx 0 (fun _ => false)) rfl rfl, h.keep.ext hx⟩
end
theorem Own.noneEmpty {w : World} {B T n c : Nat} {xs : List Value} {A : Option Addr} (h : Own w B T 1 (.slice A n c) n xs) : A = none → xs = [] := by
  rintro rfl
  rcases h.2 with ⟨e, rfl⟩ | ⟨g, cap, rest, e, _⟩
  · exact List.eq_nil_of_length_eq_zero (by simpa using h.1)
  · simp at e
theorem does_go {D : Dv} {c : Option Ch} (h : (D.pushed c).at_ ≠ 1) : D.does c = (Dv.done { D.pushed c with at_ := (D.pushed c).at_ - 1 } c, 0) := by
  unfold Dv.does
  simp only
  split
  · rename_i h0
    have : ({ D.pushed c with at_ := (D.pushed c).at_ - 1 } : Dv) = D.pushed c := by
      generalize D.pushed c = E at h0
      cases E
      simp at h0
      simp [h0]
    rw [this]
  · first | rfl | rw [if_neg h]
theorem does_fall {D : Dv} {c : Option Ch} (h : (D.pushed c).at_ = 1) : D.does c = ({ D.pushed c with kept := fallen (D.pushed c).pend (D.pushed c).keep (D.pushed c).kept, now := fallen (D.pushed c).pend (D.pushed c).keep (D.pushed c).kept, pend := [], at_ := 0, keep := [], dead := true }, 190) := by
  unfold Dv.does
  simp only
  rw [if_neg (by omega), if_pos h]
theorem fallen_step {cs : List Ch} {bs : List Bool} {all : List UInt8} {k : Nat} (h : k < cs.length) : fallen (cs.take (k + 1)) bs all = if bs.getD k false then (cs[k]).ap (fallen (cs.take k) bs all) else fallen (cs.take k) bs all := by
  have e : cs.take (k + 1) = cs.take k ++ [cs[k]] := by rw [List.take_add_one, List.getElem?_eq_getElem h]; rfl
  rw [e, fallen_snoc, List.length_take, Nat.min_eq_left (by omega)]
theorem does_c {w : World} {B b : Nat} {D : Dv} (h0 : DevAt w B b D) (hD : D.Ok) (vc : Value) (c : Option Ch) (hcn : c = none → vc = .nilFunc) (hcs : ∀ d, c = some d → ChV w d vc ∧ d.ok D.cap)
    (hcalls : D.calls ≤ 1000000) (hpl : D.pend.length ≤ 1000000) (hat : D.at_ ≤ 9223372036854775807) (hkl : D.keep.length ≤ 140737488355328) :
    Ret Try.prog 30 [.pointer (some ⟨b, 0, none⟩), vc] w fun v w' => v = .int .i64 (((D.does c).2 : Nat) : Int) ∧ DevAt w' B b (D.does c).1 ∧ Tm w w' B dty := by
  have hq : vc = .nilFunc ∧ c.isSome = false ∨ ∃ f fi ca, vc = .func f fi ca ∧ c.isSome = true := by
    cases c with
    | none => exact .inl ⟨hcn rfl, rfl⟩
    | some d =>
      obtain ⟨h1, _⟩ := hcs d rfl
      cases d with
      | write i s => obtain ⟨bi, bs, e, _⟩ := h1; exact .inr ⟨_, _, _, e, rfl⟩
      | cut n => obtain ⟨bi, e, _⟩ := h1; exact .inr ⟨_, _, _, e, rfl⟩
  have hE := pushed_ok hD (fun d hd => (hcs d hd).2)
  have hlt := h0.lt
  obtain ⟨vk, vn, vp, vq, vs, h⟩ := h0
  have hvl := h.chs.len
  refine Ret.enter Try.func30 rfl Try.ntmps30 (by kernel_rfl) rfl ?_
  refine KW.seq (KW.region ?_)
  refine OW.val rfl rfl (EX.assign rfl) ?_
  refine OW.nil ?_
  refine KW.seq (KW.seq (KW.region ?_))
  refine OW.val rfl rfl (EX.move rfl) ?_
  refine OW.val rfl rfl (EX.neqFb Try.underlying67 rfl rfl hq) ?_
  refine OW.nil ?_
  refine KW.cut3 (fun (w1 : World) (vp1 : Value) (vs1 : List Value) => Dev w1 B b (D.pushed c) vk vn vp1 vq vs1 ∧ Tm w w1 B dty) (fun (w1 : World) (vp1 : Value) (vs1 : List Value) => [(0, .pointer (some ⟨b, 0, none⟩)), (1, vc)]) (fun (w1 : World) (vp1 : Value) (vs1 : List Value) => w1) ?_ ?_
  · refine KW.cond rfl (fun hc => ?_) (fun hc => ?_)
    · obtain ⟨ch, rfl⟩ := Option.isSome_iff_exists.1 hc
      have hv := (hcs ch rfl).1
      have hv1 := hv.one
      refine KW.region ?_
      refine OW.val rfl rfl (EX.move rfl) ?_
      refine OW.val rfl rfl (EX.move rfl) ?_
      refine OW.val rfl rfl (EX.nilCheck rfl) ?_
      refine OW.val rfl rfl (EX.fieldAddr (off := 3) Try.underlying54 rfl rfl ti52 rfl rfl) ?_
      refine OW.val rfl rfl (EX.load Try.underlying52 rfl rfl (h.cells.cell_of rfl)) ?_
      refine OW.val rfl rfl (EX.move rfl) ?_
      refine OW.buildB 1 rfl rfl Try.underlying52 ti67 rfl rfl rfl rfl (by first | rfl | (simp only [List.all_cons, List.all_nil, Bool.and_true, Bool.and_eq_true]; assumption)) (by decide) ?_
      rintro bq w2 hge hb2 hx2
      have h2 := h.ext hx2
      refine OW.append 0 rfl rfl Try.underlying52 ti67 rfl (by decide) rfl rfl ((h2.pend.more (Nat.zero_le _))) (Src.of_sl Try.underlying52 hb2.sl (by simp) (by simp [hv1]) (by decide)) (by simp only [maxLen]; omega) (by omega) (Nat.zero_le _) ?_
      rintro v3 w3 hown3 hg3 hv3
      refine OW.val rfl rfl (EX.nilCheck rfl) ?_
      refine OW.val rfl rfl (EX.fieldAddr (off := 3) Try.underlying54 rfl rfl ti52 rfl rfl) ?_
      have t3 : Tm w2 w3 B (fun U => U == 67) := Tm.grown h2.pend hg3
      have hd3 := t3.bk h2.cells rfl
      have hown3' : Own w3 B 67 1 v3 (D.pend.length + 1) (vs ++ [vc]) := hown3.base (by
        intro k hk
        rcases hv3 with e | e
        · exact (h2.pend.lt k (by rw [← e]; exact hk)).1
        · rw [e] at hk; injection hk with hk; have := hx2.size; omega)
      have hv31 := hown3.one
      refine OW.storeB rfl ti52 rfl rfl (by first | rfl | assumption | exact Own.one (by assumption)) (hd3) (by simp) ?_
      rintro w4 hb4 hm4
      refine OW.nil ?_
      refine KW.meet3 (w4) (v3) (vs ++ [vc]) ⟨rfl, rfl, trivial⟩ rfl ?_
      refine ⟨Dev.after (D' := D.pushed (some ch)) h.lo hd3 hm4 hb4 (t3.own h2.kept rfl) (t3.own h2.now rfl) h.apart ?_ ((h2.chs.tm t3 rfl rfl).snoc ((hv.tm (Tm.of_ext hx2 0 (fun _ => false)) rfl rfl).tm t3 rfl rfl)) (t3.own h2.keep rfl), ?_⟩
      · have : (D.pushed (some ch)).pend.length = D.pend.length + 1 := by simp [Dv.pushed]
        rw [this]; exact hown3'
      · exact ((Tm.of_ext hx2 B dty).trans (t3.mono fun T hT => by simp at hT; simp [dty, hT])).trans (Dev.tmD h.lo hd3 hm4)
    · obtain rfl : c = none := by cases c; rfl; simp at hc
      refine KW.skip ?_
      refine KW.meet3 (w) (vp) (vs) ⟨rfl, rfl, trivial⟩ rfl ?_
      exact ⟨h, Tm.refl _ _ _⟩
  · rintro w1 vp1 vs1 ⟨h1, ht1⟩
    generalize hEd : D.pushed c = E at h1 hE
    have hEc : E.cap = D.cap := by rw [← hEd, pushed_cap]
    have hEat : E.at_ = D.at_ := by rw [← hEd]; cases c <;> rfl
    have hEk : E.keep = D.keep := by rw [← hEd]; cases c <;> rfl
    have hEl : E.pend.length ≤ 1000001 := by
      rw [← hEd]
      cases c with
      | none => exact Nat.le_succ_of_le hpl
      | some c => simp [Dv.pushed]; omega
    have hvl1 := h1.chs.len
    refine KW.seq (KW.seq (KW.region ?_))
    refine OW.val rfl rfl (EX.move rfl) ?_
    refine OW.val rfl rfl (EX.nilCheck rfl) ?_
    refine OW.val rfl rfl (EX.fieldAddr (off := 4) Try.underlying54 rfl rfl ti39 rfl rfl) ?_
    refine OW.val rfl rfl (EX.fieldAddr (off := 0) Try.underlying39 rfl rfl ti3 rfl rfl) ?_
    refine OW.val rfl rfl (EX.load Try.underlying3 rfl rfl (h1.cells.cell_of rfl)) ?_
    refine OW.val rfl rfl (by first | exact EX.gtrN (b := 0) rfl rfl | exact EX.gtrZ rfl rfl) ?_
    refine OW.nil ?_
    refine KW.cut1 (fun (w2 : World) => Dev w2 B b { E with at_ := E.at_ - 1 } vk vn vp1 vq vs1 ∧ Tm w w2 B dty ∧ E.at_ ≠ 1) (fun (w2 : World) => [(0, .pointer (some ⟨b, 0, none⟩)), (1, vc)]) (fun (w2 : World) => w2) ?_ ?_
    · refine KW.condD rfl (fun hat1 => ?_) (fun hat1 => ?_)
      · refine KW.seq (KW.region ?_)
        refine OW.val rfl rfl (EX.move rfl) ?_
        refine OW.val rfl rfl (EX.nilCheck rfl) ?_
        refine OW.val rfl rfl (EX.fieldAddr (off := 4) Try.underlying54 rfl rfl ti39 rfl rfl) ?_
        refine OW.val rfl rfl (EX.fieldAddr (off := 0) Try.underlying39 rfl rfl ti3 rfl rfl) ?_
        refine OW.val rfl rfl (EX.load Try.underlying3 rfl rfl (h1.cells.cell_of rfl)) ?_
        refine OW.val rfl rfl (by first | exact EX.subN (b := 1) (m := 9223372036854775807) rfl rfl rfl (by omega) | exact EX.subZ (m := 9223372036854775807) rfl rfl rfl rfl (by omega)) ?_
        refine OW.val rfl rfl (EX.nilCheck rfl) ?_
        refine OW.val rfl rfl (EX.fieldAddr (off := 4) Try.underlying54 rfl rfl ti39 rfl rfl) ?_
        refine OW.val rfl rfl (EX.fieldAddr (off := 0) Try.underlying39 rfl rfl ti3 rfl rfl) ?_
        refine OW.storeB rfl ti3 rfl rfl (by first | rfl | assumption | exact Own.one (by assumption)) (h1.cells) (by simp) ?_
        rintro w2 hb2 hm2
        refine OW.nil ?_
        refine KW.seq (KW.region ?_)
        refine OW.val rfl rfl (EX.move rfl) ?_
        refine OW.val rfl rfl (EX.nilCheck rfl) ?_
        refine OW.val rfl rfl (EX.fieldAddr (off := 4) Try.underlying54 rfl rfl ti39 rfl rfl) ?_
        refine OW.val rfl rfl (EX.fieldAddr (off := 0) Try.underlying39 rfl rfl ti3 rfl rfl) ?_
        have h2 : Dev w2 B b { E with at_ := E.at_ - 1 } vk vn vp1 vq vs1 := Dev.after h1.lo h1.cells hm2 hb2 h1.kept h1.now h1.apart h1.pend h1.chs h1.keep
        have ht2 : Tm w w2 B dty := ht1.trans (Dev.tmD h1.lo h1.cells hm2)
        refine OW.val rfl rfl (EX.load Try.underlying3 rfl rfl (h2.cells.cell_of rfl)) ?_
        refine OW.val rfl rfl (by first | exact EX.eqlN (b := 0) rfl rfl | exact EX.eqlZ rfl rfl) ?_
        refine OW.nil ?_
        refine KW.condD rfl (fun hz => ?_) (fun hz => ?_)
        · have hz1 : E.at_ = 1 := by have : E.at_ - 1 = 0 := hz; omega
          obtain ⟨A, cp, rfl, hcp, hslp⟩ := h2.pend.slice
          obtain ⟨Aq, cq, rfl, hcq, hslq⟩ := h2.keep.slice
          have hkk : E.keep.length ≤ 140737488355328 := by rw [hEk]; exact hkl
          refine KW.seq (KW.seq (KW.region ?_))
          refine OW.val rfl rfl (EX.move rfl) ?_
          refine OW.val rfl rfl (EX.nilCheck rfl) ?_
          refine OW.val rfl rfl (EX.fieldAddr (off := 3) Try.underlying54 rfl rfl ti52 rfl rfl) ?_
          refine OW.val rfl rfl (EX.load Try.underlying52 rfl rfl (h2.cells.cell_of rfl)) ?_
          refine OW.val rfl rfl (EX.lenA Try.underlying52 rfl) ?_
          refine OW.val rfl rfl (EX.move rfl) ?_
          refine OW.nil ?_
          refine KW.block ?_
          refine KW.loop4 (fun (k : Nat) (vkr : Value) (all : List UInt8) (wr : World) => k ≤ E.pend.length ∧ all = fallen (E.pend.take k) E.keep E.kept ∧ all.length ≤ 512 * E.cap ∧ Dev wr B b { E with at_ := 0, kept := all } vkr vn (.slice A E.pend.length cp) (.slice Aq E.keep.length cq) vs1 ∧ Tm w wr B dty) (fun (k : Nat) (vkr : Value) (all : List UInt8) (wr : World) => [(0, .pointer (some ⟨b, 0, none⟩)), (43, .slice A E.pend.length cp), (44, .int .i64 ((E.pend.length : Nat) : Int)), (45, .int .i64 ((k : Nat) : Int))]) (fun (k : Nat) (vkr : Value) (all : List UInt8) (wr : World) => wr) (fun (k : Nat) (vkr : Value) (all : List UInt8) (wr : World) => E.pend.length - k) (0) (vk) (E.kept) (w2) ⟨rfl, rfl, rfl, rfl, trivial⟩ rfl ?_ ?_
          · refine ⟨by omega, by simp [fallen], hE.kept, ?_, ht2⟩
            have : E.at_ - 1 = 0 := by omega
            rw [← this]
            exact h2
          · rintro k vkr all wr ⟨hk, hall, hal, hd, htr⟩
            have hcapE := hE.cap
            refine KW.seq (KW.region ?_)
            refine OW.val rfl rfl (by first | exact EX.lssN rfl rfl | exact EX.lssZ rfl rfl) ?_
            refine OW.nil ?_
            refine KW.seq ?_
            refine KW.condD rfl (fun hk1 => ?_) (fun hk1 => ?_)
            · obtain ⟨v, hv, hcv⟩ := hd.chs.at_ k hk1
              have hone := hcv.one
              obtain ⟨g, cap', rest, e, hgB, hg, hgl, hgn, hgm⟩ := hd.pend.blk (by rw [hvl1]; omega)
              simp only [Value.slice.injEq, true_and] at e
              obtain ⟨rfl, rfl⟩ := e
              have hvg : (vs1 ++ rest)[k]? = some v := by rw [List.getElem?_append_left (by rw [hvl1]; exact hk1)]; exact hv
              have hstep := fallen_step (bs := E.keep) (all := E.kept) hk1
              rw [← hall] at hstep
              refine KW.skip (KW.seq (KW.block (KW.seq (KW.region ?_))))
              refine OW.val rfl rfl (EX.move rfl) ?_
              refine OW.val rfl rfl (by first | exact EX.indexAddrS0 Try.underlying52 ti67 rfl rfl (by omega) | exact EX.indexAddrS1 Try.underlying52 ti67 rfl rfl (by omega)) ?_
              refine OW.val rfl rfl (EX.load Try.underlying67 rfl rfl (hg.cell_of hvg)) ?_
              refine OW.val rfl rfl (EX.assign rfl) ?_
              refine OW.val rfl rfl (EX.assign rfl) ?_
              refine OW.nil ?_
              refine KW.seq ?_
              refine KW.region ?_
              refine OW.val rfl rfl (EX.move rfl) ?_
              refine OW.val rfl rfl (EX.move rfl) ?_
              refine OW.val rfl rfl (EX.nilCheck rfl) ?_
              refine OW.val rfl rfl (EX.fieldAddr (off := 4) Try.underlying54 rfl rfl ti39 rfl rfl) ?_
              refine OW.val rfl rfl (EX.fieldAddr (off := 1) Try.underlying39 rfl rfl ti34 rfl rfl) ?_
              refine OW.val rfl rfl (EX.load Try.underlying34 rfl rfl (hd.cells.cell_of rfl)) ?_
              refine OW.val rfl rfl (EX.lenA Try.underlying34 rfl) ?_
              refine OW.val rfl rfl (by first | exact EX.lssN rfl rfl | exact EX.lssZ rfl rfl) ?_
              refine OW.val rfl rfl (EX.move rfl) ?_
              refine OW.splitD 58 rfl (fun hk2 => ?_) (fun hk2 => ?_)
              · have hgd : E.keep.getD k false = E.keep[k] := by simp [List.getD, List.getElem?_eq_getElem hk2]
                rw [hgd] at hstep
                obtain ⟨gq, capq, restq, eq, hgqB, hgq, _, _, _⟩ := hd.keep.blk (by rw [boolsV_length]; exact Nat.lt_of_le_of_lt (Nat.zero_le _) hk2)
                simp only [Value.slice.injEq, true_and] at eq
                obtain ⟨rfl, rfl⟩ := eq
                have hbg : (boolsV E.keep ++ restq)[k]? = some (.bool E.keep[k]) := by rw [List.getElem?_append_left (by rw [boolsV_length]; exact hk2)]; simp [boolsV, hk2]
                refine OW.val rfl rfl (EX.move rfl) ?_
                refine OW.val rfl rfl (EX.nilCheck rfl) ?_
                refine OW.val rfl rfl (EX.fieldAddr (off := 4) Try.underlying54 rfl rfl ti39 rfl rfl) ?_
                refine OW.val rfl rfl (EX.fieldAddr (off := 1) Try.underlying39 rfl rfl ti34 rfl rfl) ?_
                refine OW.val rfl rfl (EX.load Try.underlying34 rfl rfl (hd.cells.cell_of rfl)) ?_
                refine OW.val rfl rfl (EX.move rfl) ?_
                refine OW.val rfl rfl (by first | exact EX.indexAddrS0 Try.underlying34 ti4 rfl rfl (by omega) | exact EX.indexAddrS1 Try.underlying34 ti4 rfl rfl (by omega)) ?_
                refine OW.val rfl rfl (EX.load Try.underlying4 rfl rfl (hgq.cell_of hbg)) ?_
                refine OW.val rfl rfl (EX.pickT rfl rfl) ?_
                refine OW.nil ?_
                refine KW.cond rfl (fun hb => ?_) (fun hb => ?_)
                · rw [if_pos hb] at hstep
                  obtain ⟨f, cs, rfl, hret⟩ := chV_call hcv (hE.pend _ (List.getElem_mem hk1)) hcapE.2 (hd.kept.more (Nat.zero_le _)) (by show all.length ≤ 100000000; omega)
                  refine KW.region ?_
                  refine OW.val rfl rfl (EX.move rfl) ?_
                  refine OW.val rfl rfl (EX.move rfl) ?_
                  refine OW.val rfl rfl (EX.move rfl) ?_
                  refine OW.val rfl rfl (EX.nilCheck rfl) ?_
                  refine OW.val rfl rfl (EX.fieldAddr (off := 1) Try.underlying54 rfl rfl ti51 rfl rfl) ?_
                  refine OW.val rfl rfl (EX.load Try.underlying51 rfl rfl (hd.cells.cell_of rfl)) ?_
                  refine OW.callV rfl rfl rfl rfl rfl (hret) ?_
                  rintro v5 w5 ⟨hown5, hmo5, hbl5⟩
                  refine OW.val rfl rfl (EX.nilCheck rfl) ?_
                  refine OW.val rfl rfl (EX.fieldAddr (off := 1) Try.underlying54 rfl rfl ti51 rfl rfl) ?_
                  have t5 : Tm wr w5 B (fun U => U == 5) := Tm.ownMo hd.kept hmo5
                  have hone5 := hown5.one
                  have hnow5 := hd.now.mo hmo5 (fun k hk hkS => hd.apart k (Option.mem_toList.1 hkS) hk)
                  have hap5 : ∀ k, v5.ownBlock = some k → vn.ownBlock ≠ some k := by
                    intro k hk hk'
                    rcases hbl5 with e | ⟨g', e, hge⟩
                    · exact hd.apart k (by rw [← e]; exact hk) hk'
                    · rw [e] at hk; injection hk with hk; have := (hd.now.lt k hk').2; omega
                  have hbase5 : Own w5 B 5 1 v5 ((E.pend[k]).ap all).length (bytesV ((E.pend[k]).ap all)) := hown5.base (by
                    intro k hk
                    rcases hbl5 with e | ⟨g', e, hge⟩
                    · exact (hd.kept.lt k (by rw [← e]; exact hk)).1
                    · rw [e] at hk; injection hk with hk; have := hd.cells.lt; have := hd.lo; omega)
                  refine OW.storeB rfl ti51 rfl rfl (by first | rfl | assumption | exact Own.one (by assumption)) (t5.bk hd.cells rfl) (by simp) ?_
                  rintro w6 hb6 hm6
                  refine OW.nil ?_
                  refine KW.leave (KW.region ?_)
                  refine OW.val rfl rfl (by first | exact EX.addN (b := 1) (m := 9223372036854775807) rfl rfl rfl (by omega) | exact EX.addZ (m := 9223372036854775807) rfl rfl rfl rfl (by omega)) ?_
                  refine OW.val rfl rfl (EX.move rfl) ?_
                  refine OW.nil ?_
                  refine KW.back4 (k + 1) (v5) ((E.pend[k]).ap all) (w6) ⟨rfl, rfl, rfl, rfl, trivial⟩ rfl ?_ (by omega)
                  refine ⟨by omega, hstep.symm, ap_length (hE.pend _ (List.getElem_mem hk1)) hal, ?_, ?_⟩
                  · exact Dev.after (D' := { E with at_ := 0, kept := (E.pend[k]).ap all }) hd.lo (t5.bk hd.cells rfl) hm6 hb6 hbase5 hnow5 hap5 (t5.own hd.pend rfl) (hd.chs.tm t5 rfl rfl) (t5.own hd.keep rfl)
                  · exact (htr.trans (t5.mono fun T hT => by simp at hT; simp [dty, hT])).trans (Dev.tmD hd.lo (t5.bk hd.cells rfl) hm6)
                · rw [if_neg (by simp [hb])] at hstep
                  refine KW.skip (KW.leave (KW.region ?_))
                  refine OW.val rfl rfl (by first | exact EX.addN (b := 1) (m := 9223372036854775807) rfl rfl rfl (by omega) | exact EX.addZ (m := 9223372036854775807) rfl rfl rfl rfl (by omega)) ?_
                  refine OW.val rfl rfl (EX.move rfl) ?_
                  refine OW.nil ?_
                  refine KW.back4 (k + 1) (vkr) (all) (wr) ⟨rfl, rfl, rfl, rfl, trivial⟩ rfl ?_ (by omega)
                  exact ⟨by omega, hstep.symm, hal, hd, htr⟩
              · have hgd : E.keep.getD k false = false := by simp [List.getD, List.getElem?_eq_none (Nat.le_of_not_lt hk2)]
                rw [hgd] at hstep
                refine OW.pass rfl rfl ?_
                refine OW.pass rfl rfl ?_
                refine OW.pass rfl rfl ?_
                refine OW.pass rfl rfl ?_
                refine OW.pass rfl rfl ?_
                refine OW.pass rfl rfl ?_
                refine OW.pass rfl rfl ?_
                refine OW.pass rfl rfl ?_
                refine OW.val rfl rfl (EX.pickF rfl rfl) ?_
                refine OW.nil ?_
                refine KW.condF rfl (KW.skip (KW.leave (KW.region ?_)))
                refine OW.val rfl rfl (by first | exact EX.addN (b := 1) (m := 9223372036854775807) rfl rfl rfl (by omega) | exact EX.addZ (m := 9223372036854775807) rfl rfl rfl rfl (by omega)) ?_
                refine OW.val rfl rfl (EX.move rfl) ?_
                refine OW.nil ?_
                refine KW.back4 (k + 1) (vkr) (all) (wr) ⟨rfl, rfl, rfl, rfl, trivial⟩ rfl ?_ (by omega)
                exact ⟨by omega, by rw [hstep]; rfl, hal, hd, htr⟩
            · obtain rfl : k = E.pend.length := by omega
              rw [List.take_length] at hall
              obtain ⟨Ak, ck, rfl, hck, hslk⟩ := hd.kept.slice
              have hclone := cloneB_c Ak ck (bytesV all) _ wr hslk hd.kept.noneEmpty bytesV_one (by rw [bytesV_length]; omega)
              rw [bytesV_length] at hclone
              refine KW.exit rfl (KW.seq (KW.region ?_))
              refine OW.val rfl rfl (EX.move rfl) ?_
              refine OW.val rfl rfl (EX.move rfl) ?_
              refine OW.val rfl rfl (EX.move rfl) ?_
              refine OW.val rfl rfl (EX.move rfl) ?_
              refine OW.val rfl rfl (EX.move rfl) ?_
              refine OW.val rfl rfl (EX.nilCheck rfl) ?_
              refine OW.val rfl rfl (EX.fieldAddr (off := 1) Try.underlying54 rfl rfl ti51 rfl rfl) ?_
              refine OW.val rfl rfl (EX.load Try.underlying51 rfl rfl (hd.cells.cell_of rfl)) ?_
              refine OW.call rfl rfl rfl (hclone) ?_
              rintro v7 w7 ⟨hown7, hx7⟩
              refine OW.val rfl rfl (EX.buildS (pl := [(0, 1), (1, 1)]) (ks := []) (is := []) (zs := [.int .i64 0, .slice none 0 0]) Try.underlying39 ti39 (by kernel_rfl) rfl rfl rfl (by first | rfl | (simp only [List.all_cons, List.all_nil, Bool.and_true, Bool.true_and, Bool.and_eq_true, Value.oneCell']; repeat (first | assumption | exact Own.one (by assumption) | constructor))) (by simp only [setAll, List.set_cons_zero, List.set_cons_succ]; rfl)) ?_
              refine OW.val rfl rfl (EX.nilCheck rfl) ?_
              refine OW.val rfl rfl (EX.fieldAddr (off := 2) Try.underlying54 rfl rfl ti51 rfl rfl) ?_
              have hd7 := hd.ext hx7
              have hone7 := hown7.one
              refine OW.storeB rfl ti51 rfl rfl (by first | rfl | assumption | exact Own.one (by assumption)) (hd7.cells) (by simp) ?_
              rintro w8 hb8 hm8
              refine OW.val rfl rfl (EX.nilCheck rfl) ?_
              refine OW.val rfl rfl (EX.fieldAddr (off := 3) Try.underlying54 rfl rfl ti52 rfl rfl) ?_
              refine OW.storeB rfl ti52 rfl rfl (by first | rfl | assumption | exact Own.one (by assumption)) (hb8) (by simp) ?_
              rintro w9 hb9 hm9
              refine OW.val rfl rfl (EX.nilCheck rfl) ?_
              refine OW.val rfl rfl (EX.fieldAddr (off := 4) Try.underlying54 rfl rfl ti39 rfl rfl) ?_
              refine OW.storeS rfl ti39 rfl rfl rfl (by first | rfl | (simp only [List.all_cons, List.all_nil, Bool.and_true, Bool.true_and, Bool.and_eq_true, Value.oneCell']; repeat (first | assumption | exact Own.one (by assumption) | constructor))) (hb9) (by simp) ?_
              rintro w10 hb10 hm10
              refine OW.val rfl rfl (EX.nilCheck rfl) ?_
              refine OW.val rfl rfl (EX.fieldAddr (off := 6) Try.underlying54 rfl rfl ti4 rfl rfl) ?_
              refine OW.storeB rfl ti4 rfl rfl (by first | rfl | assumption | exact Own.one (by assumption)) (hb10) (by simp) ?_
              rintro w11 hb11 hm11
              refine OW.nil ?_
              refine KW.seq (KW.region ?_)
              refine OW.val rfl rfl (EX.assign rfl) ?_
              refine OW.nil ?_
              refine KW.ret (ret1 rfl rfl ?_)
              have hmm : Mo w7 w11 [b] := ((hm8.trans hm9).trans hm10).trans hm11
              have hEall : all = fallen (D.pushed c).pend (D.pushed c).keep (D.pushed c).kept := by rw [hEd]; exact hall
              rw [does_fall (by rw [hEd]; exact hz1), hEd, ← hall]
              refine ⟨rfl, ⟨_, _, _, _, [], Dev.after (D' := { E with kept := all, now := all, pend := [], at_ := 0, keep := [], dead := true }) hd.lo hd7.cells hmm hb11 hd7.kept (hown7.base (fun k hk => by have := (hown7.lt k hk).1; have := hd.cells.lt; have := hd.lo; omega)) ?_ (Own.nil _ _ _ _) trivial (Own.nil _ _ _ _)⟩, ?_⟩
              · intro k hk hk'
                have q1 := (hd.kept.lt k hk).2
                have q2 := (hown7.lt k hk').1
                omega
              · exact (htr.trans (Tm.of_ext hx7 B dty)).trans (Dev.tmD hd.lo hd7.cells hmm)
        · refine KW.skip ?_
          refine KW.meet1 (w2) ⟨rfl, rfl, trivial⟩ rfl ?_
          have hz1 : ¬ E.at_ - 1 = 0 := hz
          exact ⟨h2, ht2, by omega⟩
      · refine KW.skip ?_
        refine KW.meet1 (w1) ⟨rfl, rfl, trivial⟩ rfl ?_
        have e0 : E.at_ = 0 := by omega
        refine ⟨?_, ht1, by omega⟩
        have : ({ E with at_ := E.at_ - 1 } : Dv) = E := by cases E; simp at e0; simp [e0]
        rw [this]
        exact h1
    · rintro w2 ⟨h2, ht2, hne1⟩
      have hcapE := hE.cap
      have hnowE := hE.now
      rw [does_go (by rw [hEd]; exact hne1), hEd]
      refine KW.seq (KW.seq (KW.region ?_))
      refine OW.val rfl rfl (EX.move rfl) ?_
      refine OW.val rfl rfl (EX.neqFb Try.underlying67 rfl rfl hq) ?_
      refine OW.nil ?_
      refine KW.cond rfl (fun hc => ?_) (fun hc => ?_)
      · obtain ⟨ch, rfl⟩ := Option.isSome_iff_exists.1 hc
        have hv2 : ChV w2 ch vc := (hcs ch rfl).1.tm ht2 rfl rfl
        have hok := (hcs ch rfl).2
        obtain ⟨f, cs, rfl, hret⟩ := chV_call hv2 hok hD.cap.2 (h2.now.more (Nat.zero_le _)) (by show E.now.length ≤ 100000000; omega)
        refine KW.region ?_
        refine OW.val rfl rfl (EX.move rfl) ?_
        refine OW.val rfl rfl (EX.move rfl) ?_
        refine OW.val rfl rfl (EX.move rfl) ?_
        refine OW.val rfl rfl (EX.nilCheck rfl) ?_
        refine OW.val rfl rfl (EX.fieldAddr (off := 2) Try.underlying54 rfl rfl ti51 rfl rfl) ?_
        refine OW.val rfl rfl (EX.load Try.underlying51 rfl rfl (h2.cells.cell_of rfl)) ?_
        refine OW.callV rfl rfl rfl rfl rfl (hret) ?_
        rintro v5 w5 ⟨hown5, hmo5, hbl5⟩
        refine OW.val rfl rfl (EX.nilCheck rfl) ?_
        refine OW.val rfl rfl (EX.fieldAddr (off := 2) Try.underlying54 rfl rfl ti51 rfl rfl) ?_
        have t5 : Tm w2 w5 B (fun U => U == 5) := Tm.ownMo h2.now hmo5
        have hone5 := hown5.one
        have hk5 := h2.kept.mo hmo5 (fun k hk hkS => h2.apart k hk (Option.mem_toList.1 hkS))
        have hap5 : ∀ k, vk.ownBlock = some k → v5.ownBlock ≠ some k := by
          intro k hk' hk
          rcases hbl5 with e | ⟨g', e, hge⟩
          · exact h2.apart k hk' (by rw [← e]; exact hk)
          · rw [e] at hk; injection hk with hk; have := (h2.kept.lt k hk').2; omega
        have hbase5 : Own w5 B 5 1 v5 (ch.ap E.now).length (bytesV (ch.ap E.now)) := hown5.base (by
          intro k hk
          rcases hbl5 with e | ⟨g', e, hge⟩
          · exact (h2.now.lt k (by rw [← e]; exact hk)).1
          · rw [e] at hk; injection hk with hk; have := h2.cells.lt; have := h2.lo; omega)
        refine OW.storeB rfl ti51 rfl rfl (by first | rfl | assumption | exact Own.one (by assumption)) (t5.bk h2.cells rfl) (by simp) ?_
        rintro w6 hb6 hm6
        refine OW.nil ?_
        refine KW.seq (KW.region ?_)
        refine OW.val rfl rfl (EX.move rfl) ?_
        refine OW.val rfl rfl (EX.nilCheck rfl) ?_
        refine OW.val rfl rfl (EX.fieldAddr (off := 7) Try.underlying54 rfl rfl ti3 rfl rfl) ?_
        have hEcalls : ({ E with at_ := E.at_ - 1 } : Dv).calls ≤ 1000000 := by show E.calls ≤ 1000000; rw [← hEd]; exact hcalls
        refine OW.val rfl rfl (EX.load Try.underlying3 rfl rfl (hb6.cell_of rfl)) ?_
        refine OW.val rfl rfl (by first | exact EX.addN (b := 1) (m := 9223372036854775807) rfl rfl rfl (by omega) | exact EX.addZ (m := 9223372036854775807) rfl rfl rfl rfl (by omega)) ?_
        refine OW.val rfl rfl (EX.nilCheck rfl) ?_
        refine OW.val rfl rfl (EX.fieldAddr (off := 7) Try.underlying54 rfl rfl ti3 rfl rfl) ?_
        refine OW.storeB rfl ti3 rfl rfl (by first | rfl | assumption | exact Own.one (by assumption)) (hb6) (by simp) ?_
        rintro w7 hb7 hm7
        refine OW.nil ?_
        refine KW.seq (KW.region ?_)
        refine OW.val rfl rfl (EX.assign rfl) ?_
        refine OW.nil ?_
        refine KW.ret (ret1 rfl rfl ?_)
        have hmm : Mo w5 w7 [b] := hm6.trans hm7
        refine ⟨rfl, ⟨_, _, _, _, _, Dev.after (D' := Dv.done { E with at_ := E.at_ - 1 } (some ch)) h2.lo (t5.bk h2.cells rfl) hmm hb7 hk5 hbase5 hap5 (t5.own h2.pend rfl) (h2.chs.tm t5 rfl rfl) (t5.own h2.keep rfl)⟩, ?_⟩
        exact (ht2.trans (t5.mono fun T hT => by simp at hT; simp [dty, hT])).trans (Dev.tmD h2.lo (t5.bk h2.cells rfl) hmm)
      · obtain rfl : c = none := by cases c; rfl; simp at hc
        obtain ⟨An, cn, rfl, hcn2, hsln⟩ := h2.now.slice
        have hclone := cloneB_c An cn (bytesV E.now) _ w2 hsln h2.now.noneEmpty bytesV_one (by rw [bytesV_length]; omega)
        rw [bytesV_length] at hclone
        have hEcalls : ({ E with at_ := E.at_ - 1 } : Dv).calls ≤ 1000000 := by show E.calls ≤ 1000000; rw [← hEd]; exact hcalls
        refine KW.region ?_
        refine OW.val rfl rfl (EX.move rfl) ?_
        refine OW.val rfl rfl (EX.move rfl) ?_
        refine OW.val rfl rfl (EX.move rfl) ?_
        refine OW.val rfl rfl (EX.nilCheck rfl) ?_
        refine OW.val rfl rfl (EX.fieldAddr (off := 2) Try.underlying54 rfl rfl ti51 rfl rfl) ?_
        refine OW.val rfl rfl (EX.load Try.underlying51 rfl rfl (h2.cells.cell_of rfl)) ?_
        refine OW.call rfl rfl rfl (hclone) ?_
        rintro v7 w7 ⟨hown7, hx7⟩
        refine OW.val rfl rfl (EX.nilCheck rfl) ?_
        refine OW.val rfl rfl (EX.fieldAddr (off := 1) Try.underlying54 rfl rfl ti51 rfl rfl) ?_
        have hd7 := h2.ext hx7
        have hone7 := hown7.one
        refine OW.storeB rfl ti51 rfl rfl (by first | rfl | assumption | exact Own.one (by assumption)) (hd7.cells) (by simp) ?_
        rintro w8 hb8 hm8
        refine OW.val rfl rfl (EX.nilCheck rfl) ?_
        refine OW.val rfl rfl (EX.fieldAddr (off := 3) Try.underlying54 rfl rfl ti52 rfl rfl) ?_
        refine OW.storeB rfl ti52 rfl rfl (by first | rfl | assumption | exact Own.one (by assumption)) (hb8) (by simp) ?_
        rintro w9 hb9 hm9
        refine OW.nil ?_
        refine KW.seq (KW.region ?_)
        refine OW.val rfl rfl (EX.move rfl) ?_
        refine OW.val rfl rfl (EX.nilCheck rfl) ?_
        refine OW.val rfl rfl (EX.fieldAddr (off := 7) Try.underlying54 rfl rfl ti3 rfl rfl) ?_
        refine OW.val rfl rfl (EX.load Try.underlying3 rfl rfl (hb9.cell_of rfl)) ?_
        refine OW.val rfl rfl (by first | exact EX.addN (b := 1) (m := 9223372036854775807) rfl rfl rfl (by omega) | exact EX.addZ (m := 9223372036854775807) rfl rfl rfl rfl (by omega)) ?_
        refine OW.val rfl rfl (EX.nilCheck rfl) ?_
        refine OW.val rfl rfl (EX.fieldAddr (off := 7) Try.underlying54 rfl rfl ti3 rfl rfl) ?_
        refine OW.storeB rfl ti3 rfl rfl (by first | rfl | assumption | exact Own.one (by assumption)) (hb9) (by simp) ?_
        rintro w10 hb10 hm10
        refine OW.nil ?_
        refine KW.seq (KW.region ?_)
        refine OW.val rfl rfl (EX.assign rfl) ?_
        refine OW.nil ?_
        refine KW.ret (ret1 rfl rfl ?_)
        have hmm : Mo w7 w10 [b] := (hm8.trans hm9).trans hm10
        refine ⟨rfl, ⟨_, _, _, _, [], Dev.after (D' := Dv.done { E with at_ := E.at_ - 1 } none) h2.lo hd7.cells hmm hb10 (hown7.base (fun k hk => by have := (hown7.lt k hk).1; have := h2.cells.lt; have := h2.lo; omega)) hd7.now ?_ (Own.nil _ _ _ _) trivial hd7.keep⟩, ?_⟩
        · intro k hk hk'
          have q1 := (h2.now.lt k hk').2
          have q2 := (hown7.lt k hk).1
          omega
        · exact (ht2.trans (Tm.of_ext hx7 B dty)).trans (Dev.tmD h2.lo hd7.cells hmm)
end Go.Proofs.Ytdjcgffhnakeeaa
