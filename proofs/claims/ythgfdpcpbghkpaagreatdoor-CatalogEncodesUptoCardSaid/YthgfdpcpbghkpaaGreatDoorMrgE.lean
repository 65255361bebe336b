/-
  What the statements rest on, part 5 of 5: many small texts, one behind the other.
-/
import Derived.Test.YthgfdpcpbghkpaaGreatDoorMrgD
import Derived.ProofKit
import Derived.OpenShut
import Derived.ShutString
import Derived.SizedLaws
import Derived.SliceStrings
import Derived.Deep.Slices
import Derived.Deep.Grids
set_option linter.unusedSimpArgs false
set_option linter.unusedVariables false
set_option linter.unnecessarySimpa false
namespace Go.Proofs.YthgfdpcpbghkpaaGreatDoor
open Go.RowKit Dsk
theorem cloneB_c (A : Option Addr) (c : Nat) (xs : List Value) (B : Nat) (w : World) (hs : Sl w B A xs) (hA : A = none → xs = []) (h1 : ∀ u ∈ xs, u.oneCell' = true) (hl : xs.length ≤ 140737488351232) :
    Ret Tryz.prog 79 [.slice A xs.length c] w fun v w' => Own w' w.heap.size 5 1 v xs.length xs ∧ Ext w w' := by
  refine Ret.enter Tryz.func79 rfl Tryz.ntmps79 (by kernel_rfl) rfl ?_
  rcases A with _ | a
  · obtain rfl := hA rfl
    refine KW.seq (KW.region ?_)
    refine OW.val rfl rfl (EX.assign rfl) ?_
    refine OW.nil ?_
    refine KW.seq (KW.seq (KW.region ?_))
    refine OW.val rfl rfl (EX.move rfl) ?_
    refine OW.val rfl rfl (by first | exact EX.eqlA1 Tryz.underlying54 rfl rfl | exact EX.eqlA0 Tryz.underlying54 rfl rfl) ?_
    refine OW.nil ?_
    refine KW.condT rfl (KW.seq (KW.region ?_))
    refine OW.val rfl rfl (EX.assign rfl) ?_
    refine OW.nil ?_
    refine KW.ret (ret1 rfl rfl ?_)
    exact ⟨Own.nil _ _ _ _, Ext.refl _⟩
  · refine KW.seq (KW.region ?_)
    refine OW.val rfl rfl (EX.assign rfl) ?_
    refine OW.nil ?_
    refine KW.seq (KW.seq (KW.region ?_))
    refine OW.val rfl rfl (EX.move rfl) ?_
    refine OW.val rfl rfl (by first | exact EX.eqlA1 Tryz.underlying54 rfl rfl | exact EX.eqlA0 Tryz.underlying54 rfl rfl) ?_
    refine OW.nil ?_
    refine KW.condF rfl (KW.skip (KW.seq (KW.region ?_)))
    refine OW.buildB 0 rfl rfl Tryz.underlying54 ti5 rfl rfl rfl rfl (by first | rfl | (simp only [List.all_cons, List.all_nil, Bool.and_true, Bool.and_eq_true]; assumption)) (by decide) ?_
    rintro b w1 hge hb hx
    refine OW.val rfl rfl (EX.move rfl) ?_
    refine OW.appendX rfl rfl Tryz.underlying54 ti5 rfl (by decide) rfl rfl (hx) (Own.of_bk (l := []) hb hge rfl (by decide)) (Src.of_sl Tryz.underlying54 (hs.ext hx) (by simp) h1 (by decide)) (by simp only [maxLen]; omega) (by omega) ?_
    rintro v' w' hown hx' _ _
    refine OW.val rfl rfl (EX.assign rfl) ?_
    refine OW.nil ?_
    refine KW.ret (ret1 rfl rfl ?_)
    rw [Nat.zero_add] at hown
    exact ⟨hown, hx'⟩
def Chd (w w' : World) (v v' : Value) (all : List UInt8) : Prop :=
  Own w' 0 5 1 v' all.length (bytesV all) ∧ Mo w w' v.ownBlock.toList ∧ (v'.ownBlock = v.ownBlock ∨ ∃ g, v'.ownBlock = some g ∧ w.heap.size ≤ g)
theorem bytesV_zeros (n : Nat) : bytesV (zeros n) = List.replicate n (.int .u8 0) := by simp [bytesV, zeros]
set_option maxRecDepth 20000 in
theorem write1_c (bi bs i : Nat) (s : List UInt8) (v : Value) (all : List UInt8) (w : World) (hbi : Bk w bi 3 [.int .i64 (i : Int)]) (hbs : Bk w bs 9 [str s]) (hown : Own w 0 5 1 v all.length (bytesV all)) (hi : i ≤ 1000000) (hs : s.length = 512) (hl : all.length ≤ 1000000000) :
    Ret Tryz.prog 53 [v, .pointer (some ⟨bi, 0, none⟩), .pointer (some ⟨bs, 0, none⟩)] w fun v' w' => Chd w w' v v' ((Ch.write i s).ap all) := by
  obtain ⟨A, c, rfl, hlc, hsl⟩ := hown.slice
  refine Ret.enter Tryz.func53 rfl Tryz.ntmps53 (by kernel_rfl) rfl ?_
  refine KW.seq (KW.region ?_)
  refine OW.val rfl rfl (EX.assign rfl) ?_
  refine OW.nil ?_
  refine KW.seq (KW.seq (KW.region ?_))
  refine OW.val rfl rfl (EX.load Tryz.underlying3 rfl rfl (hbi.cell_of rfl)) ?_
  refine OW.val rfl rfl (by first | exact EX.addN (b := 1) (m := 9223372036854775807) rfl rfl rfl (by omega) | exact EX.addZ (m := 9223372036854775807) rfl rfl rfl rfl (by omega)) ?_
  refine OW.val rfl rfl (by first | exact EX.mulN (b := 512) (m := 9223372036854775807) rfl rfl rfl (by omega) | exact EX.mulZ (m := 9223372036854775807) rfl rfl rfl rfl (by omega)) ?_
  refine OW.val rfl rfl (EX.assign rfl) ?_
  refine OW.nil ?_
  refine KW.seq (KW.region ?_)
  refine OW.val rfl rfl (EX.move rfl) ?_
  refine OW.val rfl rfl (EX.lenA Tryz.underlying54 rfl) ?_
  refine OW.val rfl rfl (EX.move rfl) ?_
  refine OW.val rfl rfl (by first | exact EX.lssN rfl rfl | exact EX.lssZ rfl rfl) ?_
  refine OW.nil ?_
  refine KW.cut2 (fun (v1 : Value) (w1 : World) => Own w1 0 5 1 v1 (all ++ zeros ((i + 1) * 512 - all.length)).length (bytesV (all ++ zeros ((i + 1) * 512 - all.length))) ∧ Mo w w1 (Value.slice A all.length c).ownBlock.toList ∧ (v1.ownBlock = (Value.slice A all.length c).ownBlock ∨ ∃ g, v1.ownBlock = some g ∧ w.heap.size ≤ g)) (fun (v1 : Value) (w1 : World) => [(0, v1), (1, .pointer (some ⟨bi, 0, none⟩)), (2, .pointer (some ⟨bs, 0, none⟩))]) (fun (v1 : Value) (w1 : World) => w1) ?_ ?_
  · skip
    refine KW.condD rfl (fun h => ?_) (fun h => ?_)
    · refine KW.region ?_
      refine OW.val rfl rfl (EX.move rfl) ?_
      refine OW.val rfl rfl (EX.move rfl) ?_
      refine OW.val rfl rfl (EX.move rfl) ?_
      refine OW.val rfl rfl (EX.lenA Tryz.underlying54 rfl) ?_
      refine OW.val rfl rfl (by first | exact EX.subN (m := 9223372036854775807) rfl rfl rfl (by omega) | exact EX.subZ (m := 9223372036854775807) rfl rfl rfl rfl (by omega)) ?_
      refine OW.appendZB rfl rfl Tryz.underlying54 Tryz.underlying3 ti5 rfl rfl rfl (hown) (by omega) (by simp only [maxLen]; omega) (by omega) ?_
      rintro v1 w1 hown1 hg1 hb1
      refine OW.val rfl rfl (EX.assign rfl) ?_
      refine OW.nil ?_
      refine KW.meet2 (v1) (w1) ⟨rfl, rfl, rfl, trivial⟩ rfl ?_
      refine ⟨?_, Mo.grown hg1 (fun k e => by rw [e]; simp), ?_⟩
      · rw [List.length_append, zeros_length, bytesV_append, bytesV_zeros]
        exact hown1
      · rcases hb1 with e | e
        · exact .inl e
        · exact .inr ⟨_, e, Nat.le_refl _⟩
    · refine KW.skip ?_
      refine KW.meet2 (_) (w) ⟨rfl, rfl, rfl, trivial⟩ rfl ?_
      have e0 : all ++ zeros ((i + 1) * 512 - all.length) = all := by rw [show (i + 1) * 512 - all.length = 0 by omega]; simp [zeros]
      rw [e0]
      exact ⟨hown, Mo.refl _ _, .inl rfl⟩
  · rintro v1 w1 ⟨hown1, hm, hv⟩
    have hbi1 := hbi.mo hm (fun k => hown.ne hbi (by decide) _ (Option.mem_toList.1 k) rfl)
    have hbs1 := hbs.mo hm (fun k => hown.ne hbs (by decide) _ (Option.mem_toList.1 k) rfl)
    have hL : (all ++ zeros ((i + 1) * 512 - all.length)).length = max all.length ((i + 1) * 512) := by rw [List.length_append, zeros_length]; omega
    generalize hall : all ++ zeros ((i + 1) * 512 - all.length) = al at hown1 hL
    have hbl : (bytesV al).length = al.length := bytesV_length al
    obtain ⟨g, cap, rest, rfl, _, hg, hc, hn, hm63⟩ := hown1.blk (by omega)
    refine KW.seq (KW.regionH 5 (by kernel_rfl) (by kernel_rfl) ?_)
    refine HW.val rfl rfl (EX.move rfl) ?_
    refine HW.val rfl rfl (EX.load Tryz.underlying3 rfl rfl (hbi1.cell_of rfl)) ?_
    refine HW.val rfl rfl (by first | exact EX.mulN (b := 512) (m := 9223372036854775807) rfl rfl rfl (by omega) | exact EX.mulZ (m := 9223372036854775807) rfl rfl rfl rfl (by omega)) ?_
    refine HW.val rfl rfl (EX.ownLE Tryz.underlying54 ti5 rfl rfl (by omega)) ?_
    refine HW.val rfl rfl (EX.load Tryz.underlying9 rfl rfl (hbs1.cell_of rfl)) ?_
    refine HW.tail ?_
    refine OW.copyS rfl rfl Tryz.underlying54 Tryz.underlying9 ti5 rfl rfl (by omega) (hg) (by simp [bytesV]; omega) ?_
    rintro w2 hg2 hm2
    refine OW.nil ?_
    refine KW.seq (KW.region ?_)
    refine OW.val rfl rfl (EX.move rfl) ?_
    refine OW.val rfl rfl (EX.assign rfl) ?_
    refine OW.nil ?_
    refine KW.ret (ret1 rfl rfl ?_)
    have e : (Ch.write i s).ap all = al.take (i * 512) ++ s ++ al.drop (i * 512 + s.length) := by simp only [Ch.ap, hall]
    have e2 : ((Ch.write i s).ap all).length = al.length := by rw [e]; simp only [List.length_append, List.length_take, List.length_drop]; omega
    refine ⟨?_, ?_, hv⟩
    · rw [e2]
      refine ⟨by rw [bytesV_length, e2]; simp, .inr ⟨g, cap, rest, rfl, Nat.zero_le _, ?_, by rw [bytesV_length, e2, ← hbl]; exact hc, hn, hm63⟩⟩
      have e3 : (bytesV al ++ rest).take (i * 512) ++ bytesV s ++ (bytesV al ++ rest).drop (i * 512 + s.length) = bytesV ((Ch.write i s).ap all) ++ rest := by
        rw [e, List.take_append_of_le_length (by omega), List.drop_append_of_le_length (by omega)]
        simp [bytesV, List.map_take, List.map_drop]
      rw [← e3]
      exact hg2
    · have hm2' : Mo w1 w2 [g] := (Mo.of_ext (Ext.drew w1) _).trans hm2
      refine ((hm.mono (fun k hk => List.mem_cons_of_mem g hk)).trans (hm2'.mono (by simp))).fresh ?_
      intro k hk hlt
      rcases List.mem_cons.1 hk with rfl | hk
      · rcases hv with e | ⟨g', e, hge⟩
        · rw [← e]; simp [Value.ownBlock]
        · simp [Value.ownBlock] at e; omega
      · exact hk
end Go.Proofs.YthgfdpcpbghkpaaGreatDoor
namespace Go.Proofs.YthgfdpcpbghkpaaGreatDoor
open Go.RowKit Dsk
def boolsV (l : List Bool) : List Value := l.map fun b => .bool b
theorem boolsV_length (l : List Bool) : (boolsV l).length = l.length := by simp [boolsV]
def ChV (w : World) : Ch → Value → Prop
  | .write i s, v => ∃ bi bs : Nat, v = .func (.func 53) (List.toArray []) (List.toArray [.pointer (some ⟨bi, 0, none⟩), .pointer (some ⟨bs, 0, none⟩)]) ∧ Bk w bi 3 [.int .i64 (i : Int)] ∧ Bk w bs 9 [str s]
  | .cut n, v => False
def ChVs (w : World) : List Ch → List Value → Prop
  | [], [] => True
  | c :: cs, v :: vs => ChV w c v ∧ ChVs w cs vs
  | _, _ => False
theorem ChV.tm {w w' : World} {B : Nat} {p : TypeId → Bool} (h : Tm w w' B p) (hi : p 3 = false) (hs : p 9 = false) : ∀ {c : Ch} {v : Value}, ChV w c v → ChV w' c v
  | .write i s, v, ⟨bi, bs, e, h1, h2⟩ => ⟨bi, bs, e, h.bk h1 hi, h.bk h2 hs⟩
  | .cut n, v, h1 => (h1 : False).elim
theorem ChV.one {w : World} : ∀ {c : Ch} {v : Value}, ChV w c v → v.oneCell' = true
  | .write i s, v, ⟨bi, bs, e, h1, h2⟩ => by rw [e]; rfl
  | .cut n, v, h1 => (h1 : False).elim
theorem ChVs.tm {w w' : World} {B : Nat} {p : TypeId → Bool} (h : Tm w w' B p) (hi : p 3 = false) (hs : p 9 = false) : ∀ {cs : List Ch} {vs : List Value}, ChVs w cs vs → ChVs w' cs vs
  | [], [], _ => trivial
  | c :: cs, v :: vs, ⟨h1, h2⟩ => ⟨h1.tm h hi hs, ChVs.tm h hi hs h2⟩
  | [], _ :: _, h => h.elim
  | _ :: _, [], h => h.elim
theorem ChVs.len {w : World} : ∀ {cs : List Ch} {vs : List Value}, ChVs w cs vs → vs.length = cs.length
  | [], [], _ => rfl
  | c :: cs, v :: vs, ⟨_, h2⟩ => by simp [ChVs.len h2]
  | [], _ :: _, h => h.elim
  | _ :: _, [], h => h.elim
theorem ChVs.snoc {w : World} : ∀ {cs : List Ch} {vs : List Value} {c : Ch} {v : Value}, ChVs w cs vs → ChV w c v → ChVs w (cs ++ [c]) (vs ++ [v])
  | [], [], _, _, _, h => ⟨h, trivial⟩
  | c :: cs, v :: vs, _, _, ⟨h1, h2⟩, h => ⟨h1, ChVs.snoc h2 h⟩
  | [], _ :: _, _, _, h, _ => h.elim
  | _ :: _, [], _, _, h, _ => h.elim
theorem ChVs.at_ {w : World} : ∀ {cs : List Ch} {vs : List Value}, ChVs w cs vs → ∀ (j : Nat) (hj : j < cs.length), ∃ v, vs[j]? = some v ∧ ChV w cs[j] v
  | [], [], _, j, hj => by simp at hj
  | c :: cs, v :: vs, ⟨h1, h2⟩, 0, hj => ⟨v, rfl, h1⟩
  | c :: cs, v :: vs, ⟨h1, h2⟩, j + 1, hj => by
    obtain ⟨u, h3, h4⟩ := ChVs.at_ h2 j (by simpa using hj)
    exact ⟨u, by simpa using h3, by simpa using h4⟩
  | [], _ :: _, h, _, _ => h.elim
  | _ :: _, [], h, _, _ => h.elim
structure Dev (w : World) (B b : Nat) (D : Dv) (vk vn vp vq : Value) (vs : List Value) : Prop where
  lo : B ≤ b
  cells : Bk w b 109 [.int .i64 (D.cap : Int), vk, vn, vp, .int .i64 (D.at_ : Int), vq, .bool D.dead, .int .i64 (D.calls : Int)]
  kept : Own w B 5 1 vk D.kept.length (bytesV D.kept)
  now : Own w B 5 1 vn D.now.length (bytesV D.now)
  apart : ∀ k, vk.ownBlock = some k → vn.ownBlock ≠ some k
  pend : Own w B 139 1 vp D.pend.length vs
  chs : ChVs w D.pend vs
  keep : Own w B 4 1 vq D.keep.length (boolsV D.keep)
def DevAt (w : World) (B b : Nat) (D : Dv) : Prop := ∃ vk vn vp vq vs, Dev w B b D vk vn vp vq vs
def dty (T : TypeId) : Bool := T == 109 || T == 139 || T == 5
theorem DevAt.ext {w w' : World} {B b : Nat} {D : Dv} (h : DevAt w B b D) (hx : Ext w w') : DevAt w' B b D := by
  obtain ⟨vk, vn, vp, vq, vs, h1, h2, h3, h4, h5, h6, h7, h8⟩ := h
  exact ⟨vk, vn, vp, vq, vs, h1, h2.ext hx, h3.ext hx, h4.ext hx, h5, h6.ext hx, h7.tm (Tm.of_ext hx 0 (fun _ => false)) rfl rfl, h8.ext hx⟩
theorem DevAt.lt {w : World} {B b : Nat} {D : Dv} (h : DevAt w B b D) : B ≤ b ∧ b < w.heap.size := by
  obtain ⟨vk, vn, vp, vq, vs, h⟩ := h
  exact ⟨h.lo, h.cells.lt⟩
section
variable {w : World} {B b : Nat} {D : Dv}
theorem none_d (h : DevAt w B b D) (hD : D.Ok) : Ret Tryz.prog 50 [.pointer (some ⟨b, 0, none⟩)] w fun v w' => v = .bool false ∧ w = w' := by
  obtain ⟨vk, vn, vp, vq, vs, h⟩ := h
  have hc := hD.cap
  refine Ret.enter Tryz.func50 rfl Tryz.ntmps50 (by kernel_rfl) rfl ?_
  refine KW.seq (KW.region ?_)
  refine OW.val rfl rfl (EX.assign rfl) ?_
  refine OW.nil ?_
  refine KW.seq ?_
  refine KW.region ?_
  refine OW.val rfl rfl (EX.move rfl) ?_
  refine OW.val rfl rfl (by first | exact EX.eqlP1 Tryz.underlying41 rfl rfl | exact EX.eqlP0 Tryz.underlying41 rfl rfl) ?_
  refine OW.val rfl rfl (EX.move rfl) ?_
  refine OW.val rfl rfl (EX.move rfl) ?_
  refine OW.val rfl rfl (EX.nilCheck rfl) ?_
  refine OW.val rfl rfl (EX.fieldAddr (off := 0) Tryz.underlying109 rfl rfl ti3 rfl rfl) ?_
  refine OW.val rfl rfl (EX.load Tryz.underlying3 rfl rfl (h.cells.cell_of rfl)) ?_
  refine OW.val rfl rfl (by first | exact EX.eqlN (b := 0) rfl rfl | exact EX.eqlZ rfl rfl) ?_
  refine OW.val rfl rfl (EX.pickF rfl rfl) ?_
  refine OW.val rfl rfl (EX.assign rfl) ?_
  refine OW.nil ?_
  refine KW.as 2 (.bool false) rfl (congrArg Value.bool (decide_eq_false (by omega))) ?_
  refine KW.ret (ret1 rfl rfl ?_)
  exact ⟨by simp, rfl⟩
theorem alive_d (h : DevAt w B b D) (hD : D.Ok) : Ret Tryz.prog 51 [.pointer (some ⟨b, 0, none⟩)] w fun v w' => v = .int .i64 ((if D.dead then 190 else 0 : Nat) : Int) ∧ w = w' := by
  have h0 := h
  obtain ⟨vk, vn, vp, vq, vs, h⟩ := h
  refine Ret.enter Tryz.func51 rfl Tryz.ntmps51 (by kernel_rfl) rfl ?_
  refine KW.seq (KW.region ?_)
  refine OW.val rfl rfl (EX.assign rfl) ?_
  refine OW.nil ?_
  refine KW.seq (KW.block (KW.seq (KW.region ?_)))
  refine OW.val rfl rfl (EX.move rfl) ?_
  refine OW.call rfl rfl rfl (none_d h0 hD) ?_
  rintro _ _ ⟨rfl, rfl⟩
  refine OW.val rfl rfl (EX.assign rfl) ?_
  refine OW.nil ?_
  refine KW.condF rfl (KW.seq (KW.region ?_))
  refine OW.val rfl rfl (EX.move rfl) ?_
  refine OW.val rfl rfl (EX.nilCheck rfl) ?_
  refine OW.val rfl rfl (EX.fieldAddr (off := 6) Tryz.underlying109 rfl rfl ti4 rfl rfl) ?_
  refine OW.val rfl rfl (EX.load Tryz.underlying4 rfl rfl (h.cells.cell_of rfl)) ?_
  refine OW.val rfl rfl (EX.assign rfl) ?_
  refine OW.nil ?_
  refine KW.cond rfl (fun hd => ?_) (fun hd => ?_)
  · refine KW.seq (KW.region ?_)
    refine OW.val rfl rfl (EX.assign rfl) ?_
    refine OW.nil ?_
    refine KW.ret (ret1 rfl rfl ?_)
    rw [hd]
    exact ⟨rfl, rfl⟩
  · refine KW.skip (KW.leave (KW.seq (KW.region ?_)))
    refine OW.val rfl rfl (EX.assign rfl) ?_
    refine OW.nil ?_
    refine KW.ret (ret1 rfl rfl ?_)
    rw [hd]
    exact ⟨rfl, rfl⟩
end
theorem chV_call {w : World} {c : Ch} {v : Value} (h : ChV w c v) {cap : Nat} (hok : c.ok cap) (hcap : cap ≤ 4096) {u : Value} {all : List UInt8} (hown : Own w 0 5 1 u all.length (bytesV all)) (hl : all.length ≤ 100000000) :
    ∃ (f : FuncId) (cs : List Value), v = .func (.func f) (List.toArray []) (List.toArray cs) ∧ Ret Tryz.prog f ([u] ++ cs) w fun v' w' => Chd w w' u v' (c.ap all) := by
  cases c with
  | write i s =>
    obtain ⟨bi, bs, rfl, h1, h2⟩ := h
    exact ⟨_, _, rfl, write1_c bi bs i s u all w h1 h2 hown (by have := hok.1; omega) hok.2 (by omega)⟩
  | cut n =>
    exact (h : False).elim
section
variable {w w' : World} {B b : Nat} {D D' : Dv} {vk vn vp vq vk' vn' vp' vq' : Value} {vs vs' : List Value}
theorem Dev.after {l0 : List Value} (hlo : B ≤ b) (h0 : Bk w b 109 l0) (hm : Mo w w' [b])
    (hb : Bk w' b 109 [.int .i64 (D'.cap : Int), vk', vn', vp', .int .i64 (D'.at_ : Int), vq', .bool D'.dead, .int .i64 (D'.calls : Int)])
    (hk : Own w B 5 1 vk' D'.kept.length (bytesV D'.kept)) (hn : Own w B 5 1 vn' D'.now.length (bytesV D'.now)) (ha : ∀ k, vk'.ownBlock = some k → vn'.ownBlock ≠ some k)
    (hp : Own w B 139 1 vp' D'.pend.length vs') (hc : ChVs w D'.pend vs') (hq : Own w B 4 1 vq' D'.keep.length (boolsV D'.keep)) : Dev w' B b D' vk' vn' vp' vq' vs' := by
  have tm := Tm.set h0 hm hlo
  exact ⟨hlo, hb, tm.own hk rfl, tm.own hn rfl, ha, tm.own hp rfl, hc.tm tm rfl rfl, tm.own hq rfl⟩
theorem Dev.tmD {l0 : List Value} (hlo : B ≤ b) (h0 : Bk w b 109 l0) (hm : Mo w w' [b]) : Tm w w' B dty := (Tm.set h0 hm hlo).mono fun T hT => by simp at hT; simp [dty, hT]
theorem Dev.ext (h : Dev w B b D vk vn vp vq vs) (hx : Ext w w') : Dev w' B b D vk vn vp vq vs :=
  ⟨h.lo, h.cells.ext hx, h.kept.ext hx, h.now.ext hx, h.apart, h.pend.ext hx, h.chs.tm (Tm.of_ext hx 0 (fun _ => false)) rfl rfl, h.keep.ext hx⟩
end
theorem Own.noneEmpty {w : World} {B T n c : Nat} {xs : List Value} {A : Option Addr} (h : Own w B T 1 (.slice A n c) n xs) : A = none → xs = [] := by
  rintro rfl
  rcases h.2 with ⟨e, rfl⟩ | ⟨g, cap, rest, e, _⟩
  · exact List.eq_nil_of_length_eq_zero (by simpa using h.1)
  · simp at e
theorem does_go {D : Dv} {c : Option Ch} (h : (D.pushed c).at_ ≠ 1) : D.does c = (Dv.done { D.pushed c with at_ := (D.pushed c).at_ - 1 } c, 0) := by
  unfold Dv.does
  simp only
  split
  · rename_i h0
    have : ({ D.pushed c with at_ := (D.pushed c).at_ - 1 } : Dv) = D.pushed c := by
      generalize D.pushed c = E at h0
      cases E
      simp at h0
      simp [h0]
    rw [this]
  · first | rfl | rw [if_neg h]
theorem does_fall {D : Dv} {c : Option Ch} (h : (D.pushed c).at_ = 1) : D.does c = ({ D.pushed c with kept := fallen (D.pushed c).pend (D.pushed c).keep (D.pushed c).kept, now := fallen (D.pushed c).pend (D.pushed c).keep (D.pushed c).kept, pend := [], at_ := 0, keep := [], dead := true }, 190) := by
  unfold Dv.does
  simp only
  rw [if_neg (by omega), if_pos h]
theorem fallen_step {cs : List Ch} {bs : List Bool} {all : List UInt8} {k : Nat} (h : k < cs.length) : fallen (cs.take (k + 1)) bs all = if bs.getD k false then (cs[k]).ap (fallen (cs.take k) bs all) else fallen (cs.take k) bs all := by
  have e : cs.take (k + 1) = cs.take k ++ [cs[k]] := by rw [List.take_add_one, List.getElem?_eq_getElem h]; rfl
  rw [e, fallen_snoc, List.length_take, Nat.min_eq_left (by omega)]
theorem Dev.at_ {w : World} {B b : Nat} {D : Dv} {vk vn vp vq : Value} {vs : List Value} (h : Dev w B b D vk vn vp vq vs) : DevAt w B b D := ⟨_, _, _, _, _, h⟩
def Kp (w w' : World) (b : Nat) (v1 v2 v3 : Value) : Prop := ∀ g T l, g ≠ b → v1.ownBlock ≠ some g → v2.ownBlock ≠ some g → v3.ownBlock ≠ some g → Bk w g T l → Bk w' g T l
theorem Kp.refl (w : World) (b : Nat) (v1 v2 v3 : Value) : Kp w w b v1 v2 v3 := fun _ _ _ _ _ _ _ h => h
theorem Kp.ext {w w1 w2 : World} {b : Nat} {v1 v2 v3 : Value} (h : Kp w w1 b v1 v2 v3) (hx : Ext w1 w2) : Kp w w2 b v1 v2 v3 := fun g T l a1 a2 a3 a4 hb => (h g T l a1 a2 a3 a4 hb).ext hx
theorem Kp.mo {w w1 w2 : World} {b : Nat} {v1 v2 v3 : Value} {S : List Nat} (h : Kp w w1 b v1 v2 v3) (hm : Mo w1 w2 S) (hS : ∀ k ∈ S, k = b ∨ v1.ownBlock = some k ∨ v2.ownBlock = some k ∨ v3.ownBlock = some k ∨ w.heap.size ≤ k) : Kp w w2 b v1 v2 v3 := fun g T l a1 a2 a3 a4 hb => (h g T l a1 a2 a3 a4 hb).mo hm (fun q => by
  rcases hS g q with e | e | e | e | e
  · exact a1 e
  · exact a2 e
  · exact a3 e
  · exact a4 e
  · exact absurd hb.lt (by omega))
theorem Kp.b {w w1 w2 : World} {b : Nat} {v1 v2 v3 : Value} (h : Kp w w1 b v1 v2 v3) (hm : Mo w1 w2 [b]) : Kp w w2 b v1 v2 v3 := h.mo hm (by simp)
theorem does_x {w : World} {B b : Nat} {D : Dv} {vk vn vp vq : Value} {vs : List Value} (h : Dev w B b D vk vn vp vq vs) (hD : D.Ok) (vc : Value) (c : Option Ch) (hcn : c = none → vc = .nilFunc) (hcs : ∀ d, c = some d → ChV w d vc ∧ d.ok D.cap)
    (hcalls : D.calls ≤ 1000000) (hpl : D.pend.length ≤ 1000000) (hat : D.at_ ≤ 9223372036854775807) (hkl : D.keep.length ≤ 140737488355328) :
    Ret Tryz.prog 52 [.pointer (some ⟨b, 0, none⟩), vc] w fun v w' => v = .int .i64 (((D.does c).2 : Nat) : Int) ∧ DevAt w' B b (D.does c).1 ∧ Tm w w' B dty ∧ Kp w w' b vk vn vp := by
  have h0 := h.at_
  have hq : vc = .nilFunc ∧ c.isSome = false ∨ ∃ f fi ca, vc = .func f fi ca ∧ c.isSome = true := by
    cases c with
    | none => exact .inl ⟨hcn rfl, rfl⟩
    | some d =>
      obtain ⟨h1, _⟩ := hcs d rfl
      cases d with
      | write i s => obtain ⟨bi, bs, e, _⟩ := h1; exact .inr ⟨_, _, _, e, rfl⟩
      | cut n => exact (h1 : False).elim
  have hE := pushed_ok hD (fun d hd => (hcs d hd).2)
  have hlt := h0.lt
  have hvl := h.chs.len
  refine Ret.enter Tryz.func52 rfl Tryz.ntmps52 (by kernel_rfl) rfl ?_
  refine KW.seq (KW.region ?_)
  refine OW.val rfl rfl (EX.assign rfl) ?_
  refine OW.nil ?_
  refine KW.seq (KW.seq (KW.region ?_))
  refine OW.val rfl rfl (EX.move rfl) ?_
  refine OW.val rfl rfl (EX.neqFb Tryz.underlying139 rfl rfl hq) ?_
  refine OW.nil ?_
  refine KW.cut3 (fun (w1 : World) (vp1 : Value) (vs1 : List Value) => Dev w1 B b (D.pushed c) vk vn vp1 vq vs1 ∧ Tm w w1 B dty ∧ Kp w w1 b vk vn vp) (fun (w1 : World) (vp1 : Value) (vs1 : List Value) => [(0, .pointer (some ⟨b, 0, none⟩)), (1, vc)]) (fun (w1 : World) (vp1 : Value) (vs1 : List Value) => w1) ?_ ?_
  · refine KW.cond rfl (fun hc => ?_) (fun hc => ?_)
    · obtain ⟨ch, rfl⟩ := Option.isSome_iff_exists.1 hc
      have hv := (hcs ch rfl).1
      have hv1 := hv.one
      refine KW.region ?_
      refine OW.val rfl rfl (EX.move rfl) ?_
      refine OW.val rfl rfl (EX.move rfl) ?_
      refine OW.val rfl rfl (EX.nilCheck rfl) ?_
      refine OW.val rfl rfl (EX.fieldAddr (off := 3) Tryz.underlying109 rfl rfl ti107 rfl rfl) ?_
      refine OW.val rfl rfl (EX.load Tryz.underlying107 rfl rfl (h.cells.cell_of rfl)) ?_
      refine OW.val rfl rfl (EX.move rfl) ?_
      refine OW.buildB 1 rfl rfl Tryz.underlying107 ti139 rfl rfl rfl rfl (by first | rfl | (simp only [List.all_cons, List.all_nil, Bool.and_true, Bool.and_eq_true]; assumption)) (by decide) ?_
      rintro bq w2 hge hb2 hx2
      have h2 := h.ext hx2
      refine OW.append 0 rfl rfl Tryz.underlying107 ti139 rfl (by decide) rfl rfl ((h2.pend.more (Nat.zero_le _))) (Src.of_sl Tryz.underlying107 hb2.sl (by simp) (by simp [hv1]) (by decide)) (by simp only [maxLen]; omega) (by omega) (Nat.zero_le _) ?_
      rintro v3 w3 hown3 hg3 hv3
      refine OW.val rfl rfl (EX.nilCheck rfl) ?_
      refine OW.val rfl rfl (EX.fieldAddr (off := 3) Tryz.underlying109 rfl rfl ti107 rfl rfl) ?_
      have t3 : Tm w2 w3 B (fun U => U == 139) := Tm.grown h2.pend hg3
      have hd3 := t3.bk h2.cells rfl
      have hown3' : Own w3 B 139 1 v3 (D.pend.length + 1) (vs ++ [vc]) := hown3.base (by
        intro k hk
        rcases hv3 with e | e
        · exact (h2.pend.lt k (by rw [← e]; exact hk)).1
        · rw [e] at hk; injection hk with hk; have := hx2.size; omega)
      have hv31 := hown3.one
      refine OW.storeB rfl ti107 rfl rfl (by first | rfl | assumption | exact Own.one (by assumption)) (hd3) (by simp) ?_
      rintro w4 hb4 hm4
      refine OW.nil ?_
      refine KW.meet3 (w4) (v3) (vs ++ [vc]) ⟨rfl, rfl, trivial⟩ rfl ?_
      refine ⟨Dev.after (D' := D.pushed (some ch)) h.lo hd3 hm4 hb4 (t3.own h2.kept rfl) (t3.own h2.now rfl) h.apart ?_ ((h2.chs.tm t3 rfl rfl).snoc ((hv.tm (Tm.of_ext hx2 0 (fun _ => false)) rfl rfl).tm t3 rfl rfl)) (t3.own h2.keep rfl), ?_, (((Kp.refl w b vk vn vp).ext hx2).mo (Mo.grown hg3 (fun k e => by rw [e]; simp)) (fun k hk => .inr (.inr (.inr (.inl (Option.mem_toList.1 hk)))))).b hm4⟩
      · have : (D.pushed (some ch)).pend.length = D.pend.length + 1 := by simp [Dv.pushed]
        rw [this]; exact hown3'
      · exact ((Tm.of_ext hx2 B dty).trans (t3.mono fun T hT => by simp at hT; simp [dty, hT])).trans (Dev.tmD h.lo hd3 hm4)
    · obtain rfl : c = none := by cases c; rfl; simp at hc
      refine KW.skip ?_
      refine KW.meet3 (w) (vp) (vs) ⟨rfl, rfl, trivial⟩ rfl ?_
      exact ⟨h, Tm.refl _ _ _, Kp.refl _ _ _ _ _⟩
  · rintro w1 vp1 vs1 ⟨h1, ht1, kp1⟩
    generalize hEd : D.pushed c = E at h1 hE
    have hEc : E.cap = D.cap := by rw [← hEd, pushed_cap]
    have hEat : E.at_ = D.at_ := by rw [← hEd]; cases c <;> rfl
    have hEk : E.keep = D.keep := by rw [← hEd]; cases c <;> rfl
    have hEl : E.pend.length ≤ 1000001 := by
      rw [← hEd]
      cases c with
      | none => exact Nat.le_succ_of_le hpl
      | some c => simp [Dv.pushed]; omega
    have hvl1 := h1.chs.len
    refine KW.seq (KW.seq (KW.region ?_))
    refine OW.val rfl rfl (EX.move rfl) ?_
    refine OW.val rfl rfl (EX.nilCheck rfl) ?_
    refine OW.val rfl rfl (EX.fieldAddr (off := 4) Tryz.underlying109 rfl rfl ti49 rfl rfl) ?_
    refine OW.val rfl rfl (EX.fieldAddr (off := 0) Tryz.underlying49 rfl rfl ti3 rfl rfl) ?_
    refine OW.val rfl rfl (EX.load Tryz.underlying3 rfl rfl (h1.cells.cell_of rfl)) ?_
    refine OW.val rfl rfl (by first | exact EX.gtrN (b := 0) rfl rfl | exact EX.gtrZ rfl rfl) ?_
    refine OW.nil ?_
    refine KW.cut1 (fun (w2 : World) => Dev w2 B b { E with at_ := E.at_ - 1 } vk vn vp1 vq vs1 ∧ Tm w w2 B dty ∧ E.at_ ≠ 1 ∧ Kp w w2 b vk vn vp) (fun (w2 : World) => [(0, .pointer (some ⟨b, 0, none⟩)), (1, vc)]) (fun (w2 : World) => w2) ?_ ?_
    · refine KW.condD rfl (fun hat1 => ?_) (fun hat1 => ?_)
      · refine KW.seq (KW.region ?_)
        refine OW.val rfl rfl (EX.move rfl) ?_
        refine OW.val rfl rfl (EX.nilCheck rfl) ?_
        refine OW.val rfl rfl (EX.fieldAddr (off := 4) Tryz.underlying109 rfl rfl ti49 rfl rfl) ?_
        refine OW.val rfl rfl (EX.fieldAddr (off := 0) Tryz.underlying49 rfl rfl ti3 rfl rfl) ?_
        refine OW.val rfl rfl (EX.load Tryz.underlying3 rfl rfl (h1.cells.cell_of rfl)) ?_
        refine OW.val rfl rfl (by first | exact EX.subN (b := 1) (m := 9223372036854775807) rfl rfl rfl (by omega) | exact EX.subZ (m := 9223372036854775807) rfl rfl rfl rfl (by omega)) ?_
        refine OW.val rfl rfl (EX.nilCheck rfl) ?_
        refine OW.val rfl rfl (EX.fieldAddr (off := 4) Tryz.underlying109 rfl rfl ti49 rfl rfl) ?_
        refine OW.val rfl rfl (EX.fieldAddr (off := 0) Tryz.underlying49 rfl rfl ti3 rfl rfl) ?_
        refine OW.storeB rfl ti3 rfl rfl (by first | rfl | assumption | exact Own.one (by assumption)) (h1.cells) (by simp) ?_
        rintro w2 hb2 hm2
        refine OW.nil ?_
        refine KW.seq (KW.region ?_)
        refine OW.val rfl rfl (EX.move rfl) ?_
        refine OW.val rfl rfl (EX.nilCheck rfl) ?_
        refine OW.val rfl rfl (EX.fieldAddr (off := 4) Tryz.underlying109 rfl rfl ti49 rfl rfl) ?_
        refine OW.val rfl rfl (EX.fieldAddr (off := 0) Tryz.underlying49 rfl rfl ti3 rfl rfl) ?_
        have h2 : Dev w2 B b { E with at_ := E.at_ - 1 } vk vn vp1 vq vs1 := Dev.after h1.lo h1.cells hm2 hb2 h1.kept h1.now h1.apart h1.pend h1.chs h1.keep
        have ht2 : Tm w w2 B dty := ht1.trans (Dev.tmD h1.lo h1.cells hm2)
        have kp2 := kp1.b hm2
        refine OW.val rfl rfl (EX.load Tryz.underlying3 rfl rfl (h2.cells.cell_of rfl)) ?_
        refine OW.val rfl rfl (by first | exact EX.eqlN (b := 0) rfl rfl | exact EX.eqlZ rfl rfl) ?_
        refine OW.nil ?_
        refine KW.condD rfl (fun hz => ?_) (fun hz => ?_)
        · have hz1 : E.at_ = 1 := by have : E.at_ - 1 = 0 := hz; omega
          obtain ⟨A, cp, rfl, hcp, hslp⟩ := h2.pend.slice
          obtain ⟨Aq, cq, rfl, hcq, hslq⟩ := h2.keep.slice
          have hkk : E.keep.length ≤ 140737488355328 := by rw [hEk]; exact hkl
          refine KW.seq (KW.seq (KW.region ?_))
          refine OW.val rfl rfl (EX.move rfl) ?_
          refine OW.val rfl rfl (EX.nilCheck rfl) ?_
          refine OW.val rfl rfl (EX.fieldAddr (off := 3) Tryz.underlying109 rfl rfl ti107 rfl rfl) ?_
          refine OW.val rfl rfl (EX.load Tryz.underlying107 rfl rfl (h2.cells.cell_of rfl)) ?_
          refine OW.val rfl rfl (EX.lenA Tryz.underlying107 rfl) ?_
          refine OW.val rfl rfl (EX.move rfl) ?_
          refine OW.nil ?_
          refine KW.block ?_
          refine KW.loop4 (fun (k : Nat) (vkr : Value) (all : List UInt8) (wr : World) => k ≤ E.pend.length ∧ all = fallen (E.pend.take k) E.keep E.kept ∧ all.length ≤ 512 * E.cap ∧ Dev wr B b { E with at_ := 0, kept := all } vkr vn (.slice A E.pend.length cp) (.slice Aq E.keep.length cq) vs1 ∧ Tm w wr B dty ∧ Kp w wr b vk vn vp ∧ (∀ k, vkr.ownBlock = some k → vk.ownBlock = some k ∨ w.heap.size ≤ k)) (fun (k : Nat) (vkr : Value) (all : List UInt8) (wr : World) => [(0, .pointer (some ⟨b, 0, none⟩)), (43, .slice A E.pend.length cp), (44, .int .i64 ((E.pend.length : Nat) : Int)), (45, .int .i64 ((k : Nat) : Int))]) (fun (k : Nat) (vkr : Value) (all : List UInt8) (wr : World) => wr) (fun (k : Nat) (vkr : Value) (all : List UInt8) (wr : World) => E.pend.length - k) (0) (vk) (E.kept) (w2) ⟨rfl, rfl, rfl, rfl, trivial⟩ rfl ?_ ?_
          · refine ⟨by omega, by simp [fallen], hE.kept, ?_, ht2, kp2, fun k hk => .inl hk⟩
            have : E.at_ - 1 = 0 := by omega
            rw [← this]
            exact h2
          · rintro k vkr all wr ⟨hk, hall, hal, hd, htr, kpr, hvk⟩
            have hcapE := hE.cap
            refine KW.seq (KW.region ?_)
            refine OW.val rfl rfl (by first | exact EX.lssN rfl rfl | exact EX.lssZ rfl rfl) ?_
            refine OW.nil ?_
            refine KW.seq ?_
            refine KW.condD rfl (fun hk1 => ?_) (fun hk1 => ?_)
            · obtain ⟨v, hv, hcv⟩ := hd.chs.at_ k hk1
              have hone := hcv.one
              obtain ⟨g, cap', rest, e, hgB, hg, hgl, hgn, hgm⟩ := hd.pend.blk (by rw [hvl1]; omega)
              simp only [Value.slice.injEq, true_and] at e
              obtain ⟨rfl, rfl⟩ := e
              have hvg : (vs1 ++ rest)[k]? = some v := by rw [List.getElem?_append_left (by rw [hvl1]; exact hk1)]; exact hv
              have hstep := fallen_step (bs := E.keep) (all := E.kept) hk1
              rw [← hall] at hstep
              refine KW.skip (KW.seq (KW.block (KW.seq (KW.region ?_))))
              refine OW.val rfl rfl (EX.move rfl) ?_
              refine OW.val rfl rfl (by first | exact EX.indexAddrS0 Tryz.underlying107 ti139 rfl rfl (by omega) | exact EX.indexAddrS1 Tryz.underlying107 ti139 rfl rfl (by omega)) ?_
              refine OW.val rfl rfl (EX.load Tryz.underlying139 rfl rfl (hg.cell_of hvg)) ?_
              refine OW.val rfl rfl (EX.assign rfl) ?_
              refine OW.val rfl rfl (EX.assign rfl) ?_
              refine OW.nil ?_
              refine KW.seq ?_
              refine KW.region ?_
              refine OW.val rfl rfl (EX.move rfl) ?_
              refine OW.val rfl rfl (EX.move rfl) ?_
              refine OW.val rfl rfl (EX.nilCheck rfl) ?_
              refine OW.val rfl rfl (EX.fieldAddr (off := 4) Tryz.underlying109 rfl rfl ti49 rfl rfl) ?_
              refine OW.val rfl rfl (EX.fieldAddr (off := 1) Tryz.underlying49 rfl rfl ti47 rfl rfl) ?_
              refine OW.val rfl rfl (EX.load Tryz.underlying47 rfl rfl (hd.cells.cell_of rfl)) ?_
              refine OW.val rfl rfl (EX.lenA Tryz.underlying47 rfl) ?_
              refine OW.val rfl rfl (by first | exact EX.lssN rfl rfl | exact EX.lssZ rfl rfl) ?_
              refine OW.val rfl rfl (EX.move rfl) ?_
              refine OW.splitD 58 rfl (fun hk2 => ?_) (fun hk2 => ?_)
              · have hgd : E.keep.getD k false = E.keep[k] := by simp [List.getD, List.getElem?_eq_getElem hk2]
                rw [hgd] at hstep
                obtain ⟨gq, capq, restq, eq, hgqB, hgq, _, _, _⟩ := hd.keep.blk (by rw [boolsV_length]; exact Nat.lt_of_le_of_lt (Nat.zero_le _) hk2)
                simp only [Value.slice.injEq, true_and] at eq
                obtain ⟨rfl, rfl⟩ := eq
                have hbg : (boolsV E.keep ++ restq)[k]? = some (.bool E.keep[k]) := by rw [List.getElem?_append_left (by rw [boolsV_length]; exact hk2)]; simp [boolsV, hk2]
                refine OW.val rfl rfl (EX.move rfl) ?_
                refine OW.val rfl rfl (EX.nilCheck rfl) ?_
                refine OW.val rfl rfl (EX.fieldAddr (off := 4) Tryz.underlying109 rfl rfl ti49 rfl rfl) ?_
                refine OW.val rfl rfl (EX.fieldAddr (off := 1) Tryz.underlying49 rfl rfl ti47 rfl rfl) ?_
                refine OW.val rfl rfl (EX.load Tryz.underlying47 rfl rfl (hd.cells.cell_of rfl)) ?_
                refine OW.val rfl rfl (EX.move rfl) ?_
                refine OW.val rfl rfl (by first | exact EX.indexAddrS0 Tryz.underlying47 ti4 rfl rfl (by omega) | exact EX.indexAddrS1 Tryz.underlying47 ti4 rfl rfl (by omega)) ?_
                refine OW.val rfl rfl (EX.load Tryz.underlying4 rfl rfl (hgq.cell_of hbg)) ?_
                refine OW.val rfl rfl (EX.pickT rfl rfl) ?_
                refine OW.nil ?_
                refine KW.cond rfl (fun hb => ?_) (fun hb => ?_)
                · rw [if_pos hb] at hstep
                  obtain ⟨f, cs, rfl, hret⟩ := chV_call hcv (hE.pend _ (List.getElem_mem hk1)) hcapE.2 (hd.kept.more (Nat.zero_le _)) (by show all.length ≤ 100000000; omega)
                  refine KW.region ?_
                  refine OW.val rfl rfl (EX.move rfl) ?_
                  refine OW.val rfl rfl (EX.move rfl) ?_
                  refine OW.val rfl rfl (EX.move rfl) ?_
                  refine OW.val rfl rfl (EX.nilCheck rfl) ?_
                  refine OW.val rfl rfl (EX.fieldAddr (off := 1) Tryz.underlying109 rfl rfl ti54 rfl rfl) ?_
                  refine OW.val rfl rfl (EX.load Tryz.underlying54 rfl rfl (hd.cells.cell_of rfl)) ?_
                  refine OW.callV rfl rfl rfl rfl rfl (hret) ?_
                  rintro v5 w5 ⟨hown5, hmo5, hbl5⟩
                  refine OW.val rfl rfl (EX.nilCheck rfl) ?_
                  refine OW.val rfl rfl (EX.fieldAddr (off := 1) Tryz.underlying109 rfl rfl ti54 rfl rfl) ?_
                  have t5 : Tm wr w5 B (fun U => U == 5) := Tm.ownMo hd.kept hmo5
                  have hone5 := hown5.one
                  have hnow5 := hd.now.mo hmo5 (fun k hk hkS => hd.apart k (Option.mem_toList.1 hkS) hk)
                  have hap5 : ∀ k, v5.ownBlock = some k → vn.ownBlock ≠ some k := by
                    intro k hk hk'
                    rcases hbl5 with e | ⟨g', e, hge⟩
                    · exact hd.apart k (by rw [← e]; exact hk) hk'
                    · rw [e] at hk; injection hk with hk; have := (hd.now.lt k hk').2; omega
                  have hbase5 : Own w5 B 5 1 v5 ((E.pend[k]).ap all).length (bytesV ((E.pend[k]).ap all)) := hown5.base (by
                    intro k hk
                    rcases hbl5 with e | ⟨g', e, hge⟩
                    · exact (hd.kept.lt k (by rw [← e]; exact hk)).1
                    · rw [e] at hk; injection hk with hk; have := hd.cells.lt; have := hd.lo; omega)
                  refine OW.storeB rfl ti54 rfl rfl (by first | rfl | assumption | exact Own.one (by assumption)) (t5.bk hd.cells rfl) (by simp) ?_
                  rintro w6 hb6 hm6
                  refine OW.nil ?_
                  refine KW.leave (KW.region ?_)
                  refine OW.val rfl rfl (by first | exact EX.addN (b := 1) (m := 9223372036854775807) rfl rfl rfl (by omega) | exact EX.addZ (m := 9223372036854775807) rfl rfl rfl rfl (by omega)) ?_
                  refine OW.val rfl rfl (EX.move rfl) ?_
                  refine OW.nil ?_
                  refine KW.back4 (k + 1) (v5) ((E.pend[k]).ap all) (w6) ⟨rfl, rfl, rfl, rfl, trivial⟩ rfl ?_ (by omega)
                  refine ⟨by omega, hstep.symm, ap_length (hE.pend _ (List.getElem_mem hk1)) hal, ?_, ?_, (kpr.mo hmo5 (fun k hk => by
                    rcases hvk k (Option.mem_toList.1 hk) with e | e
                    · exact .inr (.inl e)
                    · exact .inr (.inr (.inr (.inr e))))).b hm6, fun k hk => by
                    rcases hbl5 with e | ⟨g', e, hge⟩
                    · exact hvk k (by rw [← e]; exact hk)
                    · rw [e] at hk; injection hk with hk; right; have q := htr.size; have q2 := hge; omega⟩
                  · exact Dev.after (D' := { E with at_ := 0, kept := (E.pend[k]).ap all }) hd.lo (t5.bk hd.cells rfl) hm6 hb6 hbase5 hnow5 hap5 (t5.own hd.pend rfl) (hd.chs.tm t5 rfl rfl) (t5.own hd.keep rfl)
                  · exact (htr.trans (t5.mono fun T hT => by simp at hT; simp [dty, hT])).trans (Dev.tmD hd.lo (t5.bk hd.cells rfl) hm6)
                · rw [if_neg (by simp [hb])] at hstep
                  refine KW.skip (KW.leave (KW.region ?_))
                  refine OW.val rfl rfl (by first | exact EX.addN (b := 1) (m := 9223372036854775807) rfl rfl rfl (by omega) | exact EX.addZ (m := 9223372036854775807) rfl rfl rfl rfl (by omega)) ?_
                  refine OW.val rfl rfl (EX.move rfl) ?_
                  refine OW.nil ?_
                  refine KW.back4 (k + 1) (vkr) (all) (wr) ⟨rfl, rfl, rfl, rfl, trivial⟩ rfl ?_ (by omega)
                  exact ⟨by omega, hstep.symm, hal, hd, htr, kpr, hvk⟩
              · have hgd : E.keep.getD k false = false := by simp [List.getD, List.getElem?_eq_none (Nat.le_of_not_lt hk2)]
                rw [hgd] at hstep
                refine OW.pass rfl rfl ?_
                refine OW.pass rfl rfl ?_
                refine OW.pass rfl rfl ?_
                refine OW.pass rfl rfl ?_
                refine OW.pass rfl rfl ?_
                refine OW.pass rfl rfl ?_
                refine OW.pass rfl rfl ?_
                refine OW.pass rfl rfl ?_
                refine OW.val rfl rfl (EX.pickF rfl rfl) ?_
                refine OW.nil ?_
                refine KW.condF rfl (KW.skip (KW.leave (KW.region ?_)))
                refine OW.val rfl rfl (by first | exact EX.addN (b := 1) (m := 9223372036854775807) rfl rfl rfl (by omega) | exact EX.addZ (m := 9223372036854775807) rfl rfl rfl rfl (by omega)) ?_
                refine OW.val rfl rfl (EX.move rfl) ?_
                refine OW.nil ?_
                refine KW.back4 (k + 1) (vkr) (all) (wr) ⟨rfl, rfl, rfl, rfl, trivial⟩ rfl ?_ (by omega)
                exact ⟨by omega, by rw [hstep]; rfl, hal, hd, htr, kpr, hvk⟩
            · obtain rfl : k = E.pend.length := by omega
              rw [List.take_length] at hall
              obtain ⟨Ak, ck, rfl, hck, hslk⟩ := hd.kept.slice
              have hclone := cloneB_c Ak ck (bytesV all) _ wr hslk hd.kept.noneEmpty bytesV_one (by rw [bytesV_length]; omega)
              rw [bytesV_length] at hclone
              refine KW.exit rfl (KW.seq (KW.region ?_))
              refine OW.val rfl rfl (EX.move rfl) ?_
              refine OW.val rfl rfl (EX.move rfl) ?_
              refine OW.val rfl rfl (EX.move rfl) ?_
              refine OW.val rfl rfl (EX.move rfl) ?_
              refine OW.val rfl rfl (EX.move rfl) ?_
              refine OW.val rfl rfl (EX.nilCheck rfl) ?_
              refine OW.val rfl rfl (EX.fieldAddr (off := 1) Tryz.underlying109 rfl rfl ti54 rfl rfl) ?_
              refine OW.val rfl rfl (EX.load Tryz.underlying54 rfl rfl (hd.cells.cell_of rfl)) ?_
              refine OW.call rfl rfl rfl (hclone) ?_
              rintro v7 w7 ⟨hown7, hx7⟩
              refine OW.val rfl rfl (EX.buildS (pl := [(0, 1), (1, 1)]) (ks := []) (is := []) (zs := [.int .i64 0, .slice none 0 0]) Tryz.underlying49 ti49 (by kernel_rfl) rfl rfl rfl (by first | rfl | (simp only [List.all_cons, List.all_nil, Bool.and_true, Bool.true_and, Bool.and_eq_true, Value.oneCell']; repeat (first | assumption | exact Own.one (by assumption) | constructor))) (by simp only [setAll, List.set_cons_zero, List.set_cons_succ]; rfl)) ?_
              refine OW.val rfl rfl (EX.nilCheck rfl) ?_
              refine OW.val rfl rfl (EX.fieldAddr (off := 2) Tryz.underlying109 rfl rfl ti54 rfl rfl) ?_
              have hd7 := hd.ext hx7
              have hone7 := hown7.one
              refine OW.storeB rfl ti54 rfl rfl (by first | rfl | assumption | exact Own.one (by assumption)) (hd7.cells) (by simp) ?_
              rintro w8 hb8 hm8
              refine OW.val rfl rfl (EX.nilCheck rfl) ?_
              refine OW.val rfl rfl (EX.fieldAddr (off := 3) Tryz.underlying109 rfl rfl ti107 rfl rfl) ?_
              refine OW.storeB rfl ti107 rfl rfl (by first | rfl | assumption | exact Own.one (by assumption)) (hb8) (by simp) ?_
              rintro w9 hb9 hm9
              refine OW.val rfl rfl (EX.nilCheck rfl) ?_
              refine OW.val rfl rfl (EX.fieldAddr (off := 4) Tryz.underlying109 rfl rfl ti49 rfl rfl) ?_
              refine OW.storeS rfl ti49 rfl rfl rfl (by first | rfl | (simp only [List.all_cons, List.all_nil, Bool.and_true, Bool.true_and, Bool.and_eq_true, Value.oneCell']; repeat (first | assumption | exact Own.one (by assumption) | constructor))) (hb9) (by simp) ?_
              rintro w10 hb10 hm10
              refine OW.val rfl rfl (EX.nilCheck rfl) ?_
              refine OW.val rfl rfl (EX.fieldAddr (off := 6) Tryz.underlying109 rfl rfl ti4 rfl rfl) ?_
              refine OW.storeB rfl ti4 rfl rfl (by first | rfl | assumption | exact Own.one (by assumption)) (hb10) (by simp) ?_
              rintro w11 hb11 hm11
              refine OW.nil ?_
              refine KW.seq (KW.region ?_)
              refine OW.val rfl rfl (EX.assign rfl) ?_
              refine OW.nil ?_
              refine KW.ret (ret1 rfl rfl ?_)
              have hmm : Mo w7 w11 [b] := ((hm8.trans hm9).trans hm10).trans hm11
              have hEall : all = fallen (D.pushed c).pend (D.pushed c).keep (D.pushed c).kept := by rw [hEd]; exact hall
              rw [does_fall (by rw [hEd]; exact hz1), hEd, ← hall]
              refine ⟨rfl, ⟨_, _, _, _, [], Dev.after (D' := { E with kept := all, now := all, pend := [], at_ := 0, keep := [], dead := true }) hd.lo hd7.cells hmm hb11 hd7.kept (hown7.base (fun k hk => by have := (hown7.lt k hk).1; have := hd.cells.lt; have := hd.lo; omega)) ?_ (Own.nil _ _ _ _) trivial (Own.nil _ _ _ _)⟩, ?_, (kpr.ext hx7).b hmm⟩
              · intro k hk hk'
                have q1 := (hd.kept.lt k hk).2
                have q2 := (hown7.lt k hk').1
                omega
              · exact (htr.trans (Tm.of_ext hx7 B dty)).trans (Dev.tmD hd.lo hd7.cells hmm)
        · refine KW.skip ?_
          refine KW.meet1 (w2) ⟨rfl, rfl, trivial⟩ rfl ?_
          have hz1 : ¬ E.at_ - 1 = 0 := hz
          exact ⟨h2, ht2, by omega, kp2⟩
      · refine KW.skip ?_
        refine KW.meet1 (w1) ⟨rfl, rfl, trivial⟩ rfl ?_
        have e0 : E.at_ = 0 := by omega
        refine ⟨?_, ht1, by omega, kp1⟩
        have : ({ E with at_ := E.at_ - 1 } : Dv) = E := by cases E; simp at e0; simp [e0]
        rw [this]
        exact h1
    · rintro w2 ⟨h2, ht2, hne1, kp2⟩
      have hcapE := hE.cap
      have hnowE := hE.now
      rw [does_go (by rw [hEd]; exact hne1), hEd]
      refine KW.seq (KW.seq (KW.region ?_))
      refine OW.val rfl rfl (EX.move rfl) ?_
      refine OW.val rfl rfl (EX.neqFb Tryz.underlying139 rfl rfl hq) ?_
      refine OW.nil ?_
      refine KW.cond rfl (fun hc => ?_) (fun hc => ?_)
      · obtain ⟨ch, rfl⟩ := Option.isSome_iff_exists.1 hc
        have hv2 : ChV w2 ch vc := (hcs ch rfl).1.tm ht2 rfl rfl
        have hok := (hcs ch rfl).2
        obtain ⟨f, cs, rfl, hret⟩ := chV_call hv2 hok hD.cap.2 (h2.now.more (Nat.zero_le _)) (by show E.now.length ≤ 100000000; omega)
        refine KW.region ?_
        refine OW.val rfl rfl (EX.move rfl) ?_
        refine OW.val rfl rfl (EX.move rfl) ?_
        refine OW.val rfl rfl (EX.move rfl) ?_
        refine OW.val rfl rfl (EX.nilCheck rfl) ?_
        refine OW.val rfl rfl (EX.fieldAddr (off := 2) Tryz.underlying109 rfl rfl ti54 rfl rfl) ?_
        refine OW.val rfl rfl (EX.load Tryz.underlying54 rfl rfl (h2.cells.cell_of rfl)) ?_
        refine OW.callV rfl rfl rfl rfl rfl (hret) ?_
        rintro v5 w5 ⟨hown5, hmo5, hbl5⟩
        refine OW.val rfl rfl (EX.nilCheck rfl) ?_
        refine OW.val rfl rfl (EX.fieldAddr (off := 2) Tryz.underlying109 rfl rfl ti54 rfl rfl) ?_
        have t5 : Tm w2 w5 B (fun U => U == 5) := Tm.ownMo h2.now hmo5
        have hone5 := hown5.one
        have hk5 := h2.kept.mo hmo5 (fun k hk hkS => h2.apart k hk (Option.mem_toList.1 hkS))
        have hap5 : ∀ k, vk.ownBlock = some k → v5.ownBlock ≠ some k := by
          intro k hk' hk
          rcases hbl5 with e | ⟨g', e, hge⟩
          · exact h2.apart k hk' (by rw [← e]; exact hk)
          · rw [e] at hk; injection hk with hk; have := (h2.kept.lt k hk').2; omega
        have hbase5 : Own w5 B 5 1 v5 (ch.ap E.now).length (bytesV (ch.ap E.now)) := hown5.base (by
          intro k hk
          rcases hbl5 with e | ⟨g', e, hge⟩
          · exact (h2.now.lt k (by rw [← e]; exact hk)).1
          · rw [e] at hk; injection hk with hk; have := h2.cells.lt; have := h2.lo; omega)
        refine OW.storeB rfl ti54 rfl rfl (by first | rfl | assumption | exact Own.one (by assumption)) (t5.bk h2.cells rfl) (by simp) ?_
        rintro w6 hb6 hm6
        refine OW.nil ?_
        refine KW.seq (KW.region ?_)
        refine OW.val rfl rfl (EX.move rfl) ?_
        refine OW.val rfl rfl (EX.nilCheck rfl) ?_
        refine OW.val rfl rfl (EX.fieldAddr (off := 7) Tryz.underlying109 rfl rfl ti3 rfl rfl) ?_
        have hEcalls : ({ E with at_ := E.at_ - 1 } : Dv).calls ≤ 1000000 := by show E.calls ≤ 1000000; rw [← hEd]; exact hcalls
        refine OW.val rfl rfl (EX.load Tryz.underlying3 rfl rfl (hb6.cell_of rfl)) ?_
        refine OW.val rfl rfl (by first | exact EX.addN (b := 1) (m := 9223372036854775807) rfl rfl rfl (by omega) | exact EX.addZ (m := 9223372036854775807) rfl rfl rfl rfl (by omega)) ?_
        refine OW.val rfl rfl (EX.nilCheck rfl) ?_
        refine OW.val rfl rfl (EX.fieldAddr (off := 7) Tryz.underlying109 rfl rfl ti3 rfl rfl) ?_
        refine OW.storeB rfl ti3 rfl rfl (by first | rfl | assumption | exact Own.one (by assumption)) (hb6) (by simp) ?_
        rintro w7 hb7 hm7
        refine OW.nil ?_
        refine KW.seq (KW.region ?_)
        refine OW.val rfl rfl (EX.assign rfl) ?_
        refine OW.nil ?_
        refine KW.ret (ret1 rfl rfl ?_)
        have hmm : Mo w5 w7 [b] := hm6.trans hm7
        refine ⟨rfl, ⟨_, _, _, _, _, Dev.after (D' := Dv.done { E with at_ := E.at_ - 1 } (some ch)) h2.lo (t5.bk h2.cells rfl) hmm hb7 hk5 hbase5 hap5 (t5.own h2.pend rfl) (h2.chs.tm t5 rfl rfl) (t5.own h2.keep rfl)⟩, ?_, (kp2.mo hmo5 (fun k hk => .inr (.inr (.inl (Option.mem_toList.1 hk))))).b hmm⟩
        exact (ht2.trans (t5.mono fun T hT => by simp at hT; simp [dty, hT])).trans (Dev.tmD h2.lo (t5.bk h2.cells rfl) hmm)
      · obtain rfl : c = none := by cases c; rfl; simp at hc
        obtain ⟨An, cn, rfl, hcn2, hsln⟩ := h2.now.slice
        have hclone := cloneB_c An cn (bytesV E.now) _ w2 hsln h2.now.noneEmpty bytesV_one (by rw [bytesV_length]; omega)
        rw [bytesV_length] at hclone
        have hEcalls : ({ E with at_ := E.at_ - 1 } : Dv).calls ≤ 1000000 := by show E.calls ≤ 1000000; rw [← hEd]; exact hcalls
        refine KW.region ?_
        refine OW.val rfl rfl (EX.move rfl) ?_
        refine OW.val rfl rfl (EX.move rfl) ?_
        refine OW.val rfl rfl (EX.move rfl) ?_
        refine OW.val rfl rfl (EX.nilCheck rfl) ?_
        refine OW.val rfl rfl (EX.fieldAddr (off := 2) Tryz.underlying109 rfl rfl ti54 rfl rfl) ?_
        refine OW.val rfl rfl (EX.load Tryz.underlying54 rfl rfl (h2.cells.cell_of rfl)) ?_
        refine OW.call rfl rfl rfl (hclone) ?_
        rintro v7 w7 ⟨hown7, hx7⟩
        refine OW.val rfl rfl (EX.nilCheck rfl) ?_
        refine OW.val rfl rfl (EX.fieldAddr (off := 1) Tryz.underlying109 rfl rfl ti54 rfl rfl) ?_
        have hd7 := h2.ext hx7
        have hone7 := hown7.one
        refine OW.storeB rfl ti54 rfl rfl (by first | rfl | assumption | exact Own.one (by assumption)) (hd7.cells) (by simp) ?_
        rintro w8 hb8 hm8
        refine OW.val rfl rfl (EX.nilCheck rfl) ?_
        refine OW.val rfl rfl (EX.fieldAddr (off := 3) Tryz.underlying109 rfl rfl ti107 rfl rfl) ?_
        refine OW.storeB rfl ti107 rfl rfl (by first | rfl | assumption | exact Own.one (by assumption)) (hb8) (by simp) ?_
        rintro w9 hb9 hm9
        refine OW.nil ?_
        refine KW.seq (KW.region ?_)
        refine OW.val rfl rfl (EX.move rfl) ?_
        refine OW.val rfl rfl (EX.nilCheck rfl) ?_
        refine OW.val rfl rfl (EX.fieldAddr (off := 7) Tryz.underlying109 rfl rfl ti3 rfl rfl) ?_
        refine OW.val rfl rfl (EX.load Tryz.underlying3 rfl rfl (hb9.cell_of rfl)) ?_
        refine OW.val rfl rfl (by first | exact EX.addN (b := 1) (m := 9223372036854775807) rfl rfl rfl (by omega) | exact EX.addZ (m := 9223372036854775807) rfl rfl rfl rfl (by omega)) ?_
        refine OW.val rfl rfl (EX.nilCheck rfl) ?_
        refine OW.val rfl rfl (EX.fieldAddr (off := 7) Tryz.underlying109 rfl rfl ti3 rfl rfl) ?_
        refine OW.storeB rfl ti3 rfl rfl (by first | rfl | assumption | exact Own.one (by assumption)) (hb9) (by simp) ?_
        rintro w10 hb10 hm10
        refine OW.nil ?_
        refine KW.seq (KW.region ?_)
        refine OW.val rfl rfl (EX.assign rfl) ?_
        refine OW.nil ?_
        refine KW.ret (ret1 rfl rfl ?_)
        have hmm : Mo w7 w10 [b] := (hm8.trans hm9).trans hm10
        refine ⟨rfl, ⟨_, _, _, _, [], Dev.after (D' := Dv.done { E with at_ := E.at_ - 1 } none) h2.lo hd7.cells hmm hb10 (hown7.base (fun k hk => by have := (hown7.lt k hk).1; have := h2.cells.lt; have := h2.lo; omega)) hd7.now ?_ (Own.nil _ _ _ _) trivial hd7.keep⟩, ?_, (kp2.ext hx7).b hmm⟩
        · intro k hk hk'
          have q1 := (h2.now.lt k hk').2
          have q2 := (hown7.lt k hk).1
          omega
        · exact (ht2.trans (Tm.of_ext hx7 B dty)).trans (Dev.tmD h2.lo hd7.cells hmm)
theorem does_c {w : World} {B b : Nat} {D : Dv} (h0 : DevAt w B b D) (hD : D.Ok) (vc : Value) (c : Option Ch) (hcn : c = none → vc = .nilFunc) (hcs : ∀ d, c = some d → ChV w d vc ∧ d.ok D.cap)
    (hcalls : D.calls ≤ 1000000) (hpl : D.pend.length ≤ 1000000) (hat : D.at_ ≤ 9223372036854775807) (hkl : D.keep.length ≤ 140737488355328) :
    Ret Tryz.prog 52 [.pointer (some ⟨b, 0, none⟩), vc] w fun v w' => v = .int .i64 (((D.does c).2 : Nat) : Int) ∧ DevAt w' B b (D.does c).1 ∧ Tm w w' B dty := by
  obtain ⟨vk, vn, vp, vq, vs, h⟩ := h0
  exact (does_x h hD vc c hcn hcs hcalls hpl hat hkl).mono fun _ _ q => ⟨q.1, q.2.1, q.2.2.1⟩
end Go.Proofs.YthgfdpcpbghkpaaGreatDoor
namespace Go.Proofs.YthgfdpcpbghkpaaGreatDoor
open Go.RowKit Dsk
def _root_.Go.Proofs.YthgfdpcpbghkpaaGreatDoor.Dsk.Dv.write (D : Dv) (i : Int) (s : List UInt8) : Dv × Nat :=
  if D.dead then (D, 190) else if i < 0 ∨ (D.cap : Int) ≤ i then (D, 191) else if s.length ≠ 512 then (D, 2) else D.does (some (.write i.toNat s))
def _root_.Go.Proofs.YthgfdpcpbghkpaaGreatDoor.Dsk.Dv.cut (D : Dv) (n : Int) : Dv × Nat :=
  if D.dead then (D, 190) else if n < 0 ∨ ((D.now.length / 512 : Nat) : Int) < n then (D, 191) else D.does (some (.cut n.toNat))
def _root_.Go.Proofs.YthgfdpcpbghkpaaGreatDoor.Dsk.Dv.sync (D : Dv) : Dv × Nat := if D.dead then (D, 190) else D.does none
def _root_.Go.Proofs.YthgfdpcpbghkpaaGreatDoor.Dsk.Dv.plan (D : Dv) (a : Int) (k : List Bool) : Dv × Nat :=
  if D.dead then (D, 190) else if a < 0 then (D, 2) else ({ D with at_ := a.toNat, keep := k }, 0)
section
variable {w : World} {B b : Nat} {D : Dv}
theorem len_d (h : DevAt w B b D) (hD : D.Ok) : Ret Tryz.prog 30 [.pointer (some ⟨b, 0, none⟩)] w fun v w' => v = .int .i64 ((D.now.length / 512 : Nat) : Int) ∧ w = w' := by
  have h0 := h
  obtain ⟨vk, vn, vp, vq, vs, h⟩ := h
  have q1 := hD.now
  have q2 := hD.cap
  obtain ⟨A, c, rfl, hc, hsl⟩ := h.now.slice
  refine Ret.enter Tryz.func30 rfl Tryz.ntmps30 (by kernel_rfl) rfl ?_
  refine KW.seq (KW.region ?_)
  refine OW.val rfl rfl (EX.assign rfl) ?_
  refine OW.nil ?_
  refine KW.seq (KW.seq (KW.region ?_))
  refine OW.val rfl rfl (EX.move rfl) ?_
  refine OW.call rfl rfl rfl (none_d h0 hD) ?_
  rintro _ _ ⟨rfl, rfl⟩
  refine OW.nil ?_
  refine KW.condF rfl (KW.skip (KW.seq (KW.region ?_)))
  refine OW.val rfl rfl (EX.move rfl) ?_
  refine OW.val rfl rfl (EX.nilCheck rfl) ?_
  refine OW.val rfl rfl (EX.fieldAddr (off := 2) Tryz.underlying109 rfl rfl ti54 rfl rfl) ?_
  refine OW.val rfl rfl (EX.load Tryz.underlying54 rfl rfl (h.cells.cell_of rfl)) ?_
  refine OW.val rfl rfl (EX.lenA Tryz.underlying54 rfl) ?_
  refine OW.val rfl rfl (EX.quoN (b := 512) (m := 9223372036854775807) rfl rfl rfl (by omega)) ?_
  refine OW.val rfl rfl (EX.assign rfl) ?_
  refine OW.nil ?_
  refine KW.ret (ret1 rfl rfl ?_)
  exact ⟨rfl, rfl⟩
theorem capacity_d (h : DevAt w B b D) (hD : D.Ok) : Ret Tryz.prog 57 [.pointer (some ⟨b, 0, none⟩)] w fun v w' => v = .int .i64 (D.cap : Int) ∧ w = w' := by
  have h0 := h
  obtain ⟨vk, vn, vp, vq, vs, h⟩ := h
  refine Ret.enter Tryz.func57 rfl Tryz.ntmps57 (by kernel_rfl) rfl ?_
  refine KW.seq (KW.region ?_)
  refine OW.val rfl rfl (EX.assign rfl) ?_
  refine OW.nil ?_
  refine KW.seq (KW.seq (KW.region ?_))
  refine OW.val rfl rfl (EX.move rfl) ?_
  refine OW.call rfl rfl rfl (none_d h0 hD) ?_
  rintro _ _ ⟨rfl, rfl⟩
  refine OW.nil ?_
  refine KW.condF rfl (KW.skip (KW.seq (KW.region ?_)))
  refine OW.val rfl rfl (EX.move rfl) ?_
  refine OW.val rfl rfl (EX.nilCheck rfl) ?_
  refine OW.val rfl rfl (EX.fieldAddr (off := 0) Tryz.underlying109 rfl rfl ti3 rfl rfl) ?_
  refine OW.val rfl rfl (EX.load Tryz.underlying3 rfl rfl (h.cells.cell_of rfl)) ?_
  refine OW.val rfl rfl (EX.assign rfl) ?_
  refine OW.nil ?_
  refine KW.ret (ret1 rfl rfl ?_)
  exact ⟨rfl, rfl⟩
theorem dead_d (h : DevAt w B b D) (hD : D.Ok) : Ret Tryz.prog 58 [.pointer (some ⟨b, 0, none⟩)] w fun v w' => v = .bool D.dead ∧ w = w' := by
  have h0 := h
  obtain ⟨vk, vn, vp, vq, vs, h⟩ := h
  refine Ret.enter Tryz.func58 rfl Tryz.ntmps58 (by kernel_rfl) rfl ?_
  refine KW.seq (KW.region ?_)
  refine OW.val rfl rfl (EX.assign rfl) ?_
  refine OW.nil ?_
  refine KW.seq ?_
  refine KW.region ?_
  refine OW.val rfl rfl (EX.move rfl) ?_
  refine OW.call rfl rfl rfl (none_d h0 hD) ?_
  rintro _ _ ⟨rfl, rfl⟩
  refine OW.val rfl rfl (by first | exact EX.notD rfl | exact EX.notB rfl) ?_
  refine OW.val rfl rfl (EX.move rfl) ?_
  refine OW.val rfl rfl (EX.move rfl) ?_
  refine OW.val rfl rfl (EX.nilCheck rfl) ?_
  refine OW.val rfl rfl (EX.fieldAddr (off := 6) Tryz.underlying109 rfl rfl ti4 rfl rfl) ?_
  refine OW.val rfl rfl (EX.load Tryz.underlying4 rfl rfl (h.cells.cell_of rfl)) ?_
  refine OW.val rfl rfl (EX.pickT rfl rfl) ?_
  refine OW.val rfl rfl (EX.assign rfl) ?_
  refine OW.nil ?_
  refine KW.ret (ret1 rfl rfl ?_)
  exact ⟨rfl, rfl⟩
end
structure Small (D : Dv) : Prop where
  calls : D.calls ≤ 1000000
  pend : D.pend.length ≤ 1000000
  at_ : D.at_ ≤ 9223372036854775807
  keep : D.keep.length ≤ 140737488355328
section
variable {w : World} {B b : Nat} {D : Dv}
theorem sync_d (h : DevAt w B b D) (hD : D.Ok) (hs : Small D) : Ret Tryz.prog 60 [.pointer (some ⟨b, 0, none⟩)] w fun v w' => v = .int .i64 ((D.sync.2 : Nat) : Int) ∧ DevAt w' B b D.sync.1 ∧ Tm w w' B dty := by
  refine Ret.enter Tryz.func60 rfl Tryz.ntmps60 (by kernel_rfl) rfl ?_
  refine KW.seq (KW.region ?_)
  refine OW.val rfl rfl (EX.assign rfl) ?_
  refine OW.nil ?_
  refine KW.seq (KW.seq (KW.region ?_))
  refine OW.val rfl rfl (EX.move rfl) ?_
  refine OW.call rfl rfl rfl (alive_d h hD) ?_
  rintro _ _ ⟨rfl, rfl⟩
  refine OW.val rfl rfl (EX.assign rfl) ?_
  refine OW.nil ?_
  refine KW.seq (KW.region ?_)
  refine OW.val rfl rfl (EX.move rfl) ?_
  refine OW.val rfl rfl (by first | exact EX.neqN (b := 0) rfl rfl | exact EX.neqZ rfl rfl) ?_
  refine OW.nil ?_
  rcases hd : D.dead with _ | _
  · have e : D.sync = D.does none := by unfold Dv.sync; rw [hd]; rfl
    rw [if_neg (by simp)]
    refine KW.as 7 (.bool false) rfl (congrArg Value.bool (decide_eq_false (by decide))) ?_
    refine KW.condF rfl (KW.skip (KW.seq (KW.region ?_)))
    refine OW.val rfl rfl (EX.move rfl) ?_
    refine OW.call rfl rfl rfl (does_c h hD .nilFunc none (fun _ => rfl) (fun d q => by cases q) hs.calls hs.pend hs.at_ hs.keep) ?_
    rintro _ w' ⟨rfl, h1, h2⟩
    refine OW.val rfl rfl (EX.assign rfl) ?_
    refine OW.nil ?_
    refine KW.ret (ret1 rfl rfl ?_)
    rw [e]
    exact ⟨rfl, h1, h2⟩
  · have e : D.sync = (D, 190) := by unfold Dv.sync; rw [hd]; rfl
    rw [if_pos rfl]
    refine KW.as 7 (.bool true) rfl (congrArg Value.bool (decide_eq_true (by decide))) ?_
    refine KW.condT rfl (KW.seq (KW.region ?_))
    refine OW.val rfl rfl (EX.move rfl) ?_
    refine OW.val rfl rfl (EX.assign rfl) ?_
    refine OW.nil ?_
    refine KW.ret (ret1 rfl rfl ?_)
    rw [e]
    exact ⟨rfl, h, Tm.refl _ _ _⟩
theorem write_x {vk vn vp vq : Value} {vs : List Value} (hv0 : Dev w B b D vk vn vp vq vs) (hD : D.Ok) (hs : Small D) (i : Int) (i0 : -9223372036854775808 ≤ i) (i1 : i ≤ 9223372036854775807) (s : List UInt8) (hsl : s.length ≤ 140737488355328) :
    Ret Tryz.prog 19 [.pointer (some ⟨b, 0, none⟩), .int .i64 i, str s] w fun v w' => v = .int .i64 (((D.write i s).2 : Nat) : Int) ∧ DevAt w' B b (D.write i s).1 ∧ Tm w w' B dty ∧ Kp w w' b vk vn vp := by
  have h := hv0.at_
  refine Ret.enter Tryz.func19 rfl Tryz.ntmps19 (by kernel_rfl) rfl ?_
  refine KW.seq (KW.region ?_)
  refine OW.boxB rfl rfl rfl rfl ?_
  rintro bi w1 hge1 hi1 hx1
  refine OW.boxB rfl rfl rfl rfl ?_
  rintro bs w2 hge2 hs2 hx2
  refine OW.val rfl rfl (EX.assign rfl) ?_
  refine OW.nil ?_
  refine KW.seq (KW.seq (KW.region ?_))
  refine OW.val rfl rfl (EX.move rfl) ?_
  have hi2 := hi1.ext hx2
  have h2 := h.ext (hx1.trans hx2)
  have t2 : Tm w w2 B dty := Tm.of_ext (hx1.trans hx2) B dty
  refine OW.call rfl rfl rfl (alive_d h2 hD) ?_
  rintro _ _ ⟨rfl, rfl⟩
  refine OW.val rfl rfl (EX.assign rfl) ?_
  refine OW.nil ?_
  refine KW.seq (KW.region ?_)
  refine OW.val rfl rfl (EX.move rfl) ?_
  refine OW.val rfl rfl (by first | exact EX.neqN (b := 0) rfl rfl | exact EX.neqZ rfl rfl) ?_
  refine OW.nil ?_
  rcases hd : D.dead with _ | _
  · rw [if_neg (by simp)]
    refine KW.as 11 (.bool false) rfl (congrArg Value.bool (decide_eq_false (by decide))) ?_
    refine KW.condF rfl (KW.skip (KW.seq (KW.seq ?_)))
    have hv := hv0.ext (hx1.trans hx2)
    have kp2 := (Kp.refl w b vk vn vp).ext (hx1.trans hx2)
    refine KW.regionQ (by kernel_rfl) (by kernel_rfl) ?_
    refine QW.val rfl rfl (fun _ => EX.load Tryz.underlying3 rfl rfl ((hi2.drewN _).cell_of rfl)) ?_
    refine QW.val rfl rfl (fun _ => by first | exact EX.lssN (b := 0) rfl rfl | exact EX.lssZ rfl rfl) ?_
    refine QW.val rfl rfl (fun _ => EX.move rfl) ?_
    refine QW.splitD 15 rfl (fun a1 => ?_) (fun a1 => ?_)
    · have e : D.write i s = (D, 191) := by unfold Dv.write; rw [hd, if_neg (by simp), if_pos (.inl a1)]
      refine QW.pass rfl rfl ?_
      refine QW.pass rfl rfl ?_
      refine QW.pass rfl rfl ?_
      refine QW.pass rfl rfl ?_
      refine QW.pass rfl rfl ?_
      refine QW.pass rfl rfl ?_
      refine QW.val rfl rfl (fun _ => EX.pickT rfl rfl) ?_
      refine QW.nil (fun nq => ?_)
      refine KW.condT rfl (KW.seq (KW.region ?_))
      refine OW.val rfl rfl (EX.assign rfl) ?_
      refine OW.nil ?_
      refine KW.ret (ret1 rfl rfl ?_)
      rw [e]
      exact ⟨rfl, h2.ext (Ext.drewN _ _), t2.trans (Tm.of_ext (Ext.drewN _ _) _ _), kp2.ext (Ext.drewN _ _)⟩
    · skip
      refine QW.val rfl rfl (fun _ => EX.load Tryz.underlying3 rfl rfl ((hi2.drewN _).cell_of rfl)) ?_
      refine QW.val rfl rfl (fun _ => EX.move rfl) ?_
      refine QW.val rfl rfl (fun _ => EX.nilCheck rfl) ?_
      refine QW.val rfl rfl (fun _ => EX.fieldAddr (off := 0) Tryz.underlying109 rfl rfl ti3 rfl rfl) ?_
      refine QW.val rfl rfl (fun _ => EX.load Tryz.underlying3 rfl rfl ((hv.cells.drewN _).cell_of rfl)) ?_
      refine QW.val rfl rfl (fun _ => by first | exact EX.geqN rfl rfl | exact EX.geqZ rfl rfl) ?_
      refine QW.val rfl rfl (fun _ => EX.pickF rfl rfl) ?_
      refine QW.nil (fun nq => ?_)
      refine KW.condD rfl (fun a2 => ?_) (fun a2 => ?_)
      · have e : D.write i s = (D, 191) := by unfold Dv.write; rw [hd, if_neg (by simp), if_pos (.inr a2)]
        refine KW.seq (KW.region ?_)
        refine OW.val rfl rfl (EX.assign rfl) ?_
        refine OW.nil ?_
        refine KW.ret (ret1 rfl rfl ?_)
        rw [e]
        exact ⟨rfl, h2.ext (Ext.drewN _ _), t2.trans (Tm.of_ext (Ext.drewN _ _) _ _), kp2.ext (Ext.drewN _ _)⟩
      · have hr : ¬ (i < 0 ∨ (D.cap : Int) ≤ i) := by omega
        have h3 := h2.ext (Ext.drewN w2 nq)
        have t3 : Tm w (w2.drewN nq) B dty := t2.trans (Tm.of_ext (Ext.drewN _ _) _ _)
        obtain ⟨j, rfl⟩ := Int.eq_ofNat_of_zero_le (show 0 ≤ i by omega)
        refine KW.skip (KW.seq (KW.seq (KW.region ?_)))
        refine OW.val rfl rfl (EX.load Tryz.underlying9 rfl rfl ((hs2.drewN _).cell_of rfl)) ?_
        refine OW.val rfl rfl (EX.lenS Tryz.underlying9 rfl) ?_
        refine OW.val rfl rfl (by first | exact EX.neqN (b := 512) rfl rfl | exact EX.neqZ rfl rfl) ?_
        refine OW.nil ?_
        refine KW.condD rfl (fun a3 => ?_) (fun a3 => ?_)
        · have e : D.write (j : Int) s = (D, 2) := by unfold Dv.write; rw [hd, if_neg (by simp), if_neg hr, if_pos a3]
          refine KW.seq (KW.region ?_)
          refine OW.val rfl rfl (EX.assign rfl) ?_
          refine OW.nil ?_
          refine KW.ret (ret1 rfl rfl ?_)
          rw [e]
          exact ⟨rfl, h3, t3, kp2.ext (Ext.drewN _ _)⟩
        · have e : D.write (j : Int) s = D.does (some (.write j s)) := by unfold Dv.write; rw [hd, if_neg (by simp), if_neg hr, if_neg a3]; rfl
          refine KW.skip (KW.seq (KW.region ?_))
          refine OW.val rfl rfl (EX.move rfl) ?_
          refine OW.val rfl rfl (EX.makeFunc rfl rfl) ?_
          refine OW.call rfl rfl rfl (does_x (hv.ext (Ext.drewN w2 nq)) hD _ (some (.write j s)) (fun q => by cases q) (fun d q => by cases q; exact ⟨⟨bi, bs, rfl, hi2.drewN _, hs2.drewN _⟩, by omega, by omega⟩) hs.calls hs.pend hs.at_ hs.keep) ?_
          rintro _ w4 ⟨rfl, h4, t4, k4⟩
          refine OW.val rfl rfl (EX.assign rfl) ?_
          refine OW.nil ?_
          refine KW.ret (ret1 rfl rfl ?_)
          rw [e]
          exact ⟨rfl, h4, t3.trans t4, fun g T l a1 a2 a3 a4 hb => k4 g T l a1 a2 a3 a4 ((kp2.ext (Ext.drewN _ _)) g T l a1 a2 a3 a4 hb)⟩
  · have e : D.write i s = (D, 190) := by unfold Dv.write; rw [hd]; rfl
    rw [if_pos rfl]
    refine KW.as 11 (.bool true) rfl (congrArg Value.bool (decide_eq_true (by decide))) ?_
    refine KW.condT rfl (KW.seq (KW.region ?_))
    refine OW.val rfl rfl (EX.move rfl) ?_
    refine OW.val rfl rfl (EX.assign rfl) ?_
    refine OW.nil ?_
    refine KW.ret (ret1 rfl rfl ?_)
    rw [e]
    exact ⟨rfl, h2, t2, (Kp.refl w b vk vn vp).ext (hx1.trans hx2)⟩
theorem write_d (h : DevAt w B b D) (hD : D.Ok) (hs : Small D) (i : Int) (i0 : -9223372036854775808 ≤ i) (i1 : i ≤ 9223372036854775807) (s : List UInt8) (hsl : s.length ≤ 140737488355328) :
    Ret Tryz.prog 19 [.pointer (some ⟨b, 0, none⟩), .int .i64 i, str s] w fun v w' => v = .int .i64 (((D.write i s).2 : Nat) : Int) ∧ DevAt w' B b (D.write i s).1 ∧ Tm w w' B dty := by
  obtain ⟨vk, vn, vp, vq, vs, hv⟩ := h
  exact (write_x hv hD hs i i0 i1 s hsl).mono fun _ _ q => ⟨q.1, q.2.1, q.2.2.1⟩
end
end Go.Proofs.YthgfdpcpbghkpaaGreatDoor
namespace Go.Proofs.YthgfdpcpbghkpaaGreatDoor.Wal
open Go.RowKit Rec Pth Dsk
abbrev By := List UInt8
structure Nt where
  kind : Int
  mem : M
  deriving DecidableEq
def bare (p : By) : M := ⟨p, 0, 0, 0, 0⟩
def noteD (n : Nt) : Option By :=
  if n.kind = 1 then (if mayM n.mem then some (memberT n.mem) else none)
  else if n.kind = 2 then (if checkP n.mem.path = 0 ∧ n.mem = bare n.mem.path then some n.mem.path else none)
  else none
def mayN (n : Nt) : Prop := noteD n ≠ none
instance (n : Nt) : Decidable (mayN n) := by unfold mayN; infer_instance
def writes : Dv → Nat → List By → Dv × Nat
  | D, _, [] => (D, 0)
  | D, i, s :: l => if (D.write i s).2 = 0 then writes (D.write i s).1 (i + 1) l else D.write i s
def badW (gen at_ : Int) (n : Nat) : Prop := gen < 0 ∨ 4611686018427387904 < gen ∨ at_ < 0 ∨ 20 < at_ ∨ n = 0 ∨ 20 - at_ ≤ n
instance (gen at_ : Int) (n : Nat) : Decidable (badW gen at_ n) := by unfold badW; infer_instance
def sec (s : By) (i : Nat) : By := (s.drop (i * 512)).take 512
def badG (gen : Int) : Prop := gen < 0 ∨ 4611686018427387904 < gen
instance (gen : Int) : Decidable (badG gen) := by unfold badG; infer_instance
theorem blk_put {s t : By} {a b n : Nat} (ht : t.length = n) (ha : a + n ≤ s.length) (h : b + n ≤ a ∨ b = a ∨ a + n ≤ b) : ((s.take a ++ t ++ s.drop (a + n)).drop b).take n = if b = a then t else (s.drop b).take n := by
  have l1 : (s.take a).length = a := by rw [List.length_take]; omega
  rcases h with h1 | h1 | h1
  · by_cases h2 : b = a
    · have : n = 0 := by omega
      subst this
      rw [if_pos h2, List.take_zero, List.eq_nil_of_length_eq_zero ht]
    · rw [if_neg h2, List.append_assoc, List.drop_append_of_le_length (by omega), List.take_append_of_le_length (by rw [List.length_drop]; omega), List.drop_take, List.take_take, Nat.min_eq_left (by omega)]
  · subst h1
    rw [if_pos rfl, List.append_assoc, List.drop_left' l1, List.take_left' ht]
  · have l2 : (s.take a ++ t).length = a + n := by rw [List.length_append, l1, ht]
    have e : (s.take a ++ t ++ s.drop (a + n)).drop b = s.drop b := by
      rw [List.drop_append, List.drop_eq_nil_of_le (by omega), List.nil_append, List.drop_drop, l2, show a + n + (b - (a + n)) = b by omega]
    rw [e]
    by_cases h2 : b = a
    · have : n = 0 := by omega
      subst this
      rw [if_pos h2, List.take_zero, List.eq_nil_of_length_eq_zero ht]
    · rw [if_neg h2]
theorem sec_put {s t : By} {i j : Nat} (h : (i + 1) * 512 ≤ s.length) (ht : t.length = 512) : sec (s.take (i * 512) ++ t ++ s.drop (i * 512 + 512)) j = if j = i then t else sec s j := by
  have e := blk_put (s := s) (a := i * 512) (b := j * 512) ht (by omega) (by omega)
  unfold sec
  rw [e]
  by_cases h1 : j = i
  · rw [if_pos h1, if_pos (by rw [h1])]
  · rw [if_neg h1, if_neg (by omega)]
theorem ap_write (i : Nat) (t s : By) : (Ch.write i t).ap s = (s ++ zeros ((i + 1) * 512 - s.length)).take (i * 512) ++ t ++ (s ++ zeros ((i + 1) * 512 - s.length)).drop (i * 512 + t.length) := rfl
theorem sec_write {s t : By} {i j : Nat} (hm : s.length % 512 = 0) (ht : t.length = 512) (hj : j = i ∨ j < s.length / 512) : sec ((Ch.write i t).ap s) j = if j = i then t else sec s j := by
  have hz : ∀ z : By, sec s j = sec (s ++ z) j ∨ ¬ j < s.length / 512 := fun z => by
    by_cases h : j < s.length / 512
    · left
      unfold sec
      rw [List.drop_append_of_le_length (by omega), List.take_append_of_le_length (by rw [List.length_drop]; omega)]
    · exact .inr h
  have e := sec_put (s := s ++ zeros ((i + 1) * 512 - s.length)) (i := i) (j := j) (by rw [List.length_append, zeros_length]; omega) ht
  rw [ap_write, ht, e]
  split
  · rfl
  · rename_i h
    rcases hz (zeros ((i + 1) * 512 - s.length)) with h1 | h1
    · exact h1.symm
    · exact absurd (hj.resolve_left h) h1
theorem len_write {s t : By} {i : Nat} (ht : t.length = 512) (hm : s.length % 512 = 0) : ((Ch.write i t).ap s).length = max s.length ((i + 1) * 512) := by
  rw [ap_write]
  simp only [List.length_append, List.length_take, List.length_drop, zeros_length, ht]
  omega
structure Rd (s : By) (k : Nat) (g i : Nat) (d : By) : Prop where
  eq : decodeR s = (⟨k, g, i, d⟩, 0)
end Go.Proofs.YthgfdpcpbghkpaaGreatDoor.Wal
namespace Go.Proofs.YthgfdpcpbghkpaaGreatDoor
open Go.RowKit Dsk
def _root_.Go.Proofs.YthgfdpcpbghkpaaGreatDoor.Dsk.fresh (cap : Nat) (s : List UInt8) : Dv := { cap := cap, kept := s, now := s, pend := [], at_ := 0, keep := [], dead := false, calls := 0 }
theorem fresh_ok {cap : Nat} {s : List UInt8} (h : 1 ≤ cap ∧ cap ≤ 4096) (h1 : s.length % 512 = 0) (h2 : s.length / 512 ≤ cap) : (fresh cap s).Ok :=
  ⟨h, by show s.length ≤ 512 * cap; omega, by show s.length ≤ 512 * cap; omega, h1, h1, fun c hc => by simp [fresh] at hc⟩
def _root_.Go.Proofs.YthgfdpcpbghkpaaGreatDoor.Dsk.may (c : Int) (s : List UInt8) : Prop := 1 ≤ c ∧ c ≤ 4096 ∧ s.length % 512 = 0 ∧ ((s.length / 512 : Nat) : Int) ≤ c
theorem Own.ofBytes {w : World} {B g cap : Nat} {s : List UInt8} {rs : List Value} (hb : Bk w g 5 (bytesV s ++ rs)) (hB : B ≤ g) (hc : s.length ≤ cap) (hm : cap ≤ maxLen) (hl : s.length + rs.length = cap) : Own w B 5 1 (.slice (some ⟨g, 0, none⟩) s.length cap) s.length (bytesV s) :=
  ⟨by simp [bytesV], .inr ⟨g, cap, rs, rfl, hB, hb, by rw [bytesV_length]; omega, hc, hm⟩⟩
theorem load_s (c : Int) (c0 : -9223372036854775808 ≤ c) (c1 : c ≤ 9223372036854775807) (s : List UInt8) (hs : s.length ≤ 140737488355328) (w : World) :
    Ret Tryz.prog 48 [.int .i64 c, str s] w fun v w' => ∃ (p : Value) (e : Nat), v = .tuple #[p, .int .i64 (e : Int)] ∧ Ext w w' ∧ ((¬ may c s ∧ p = .pointer none ∧ e = 2) ∨ (may c s ∧ ∃ b, p = .pointer (some ⟨b, 0, none⟩) ∧ e = 0 ∧ DevAt w' w.heap.size b (fresh c.toNat s))) := by
  refine Ret.enter Tryz.func48 rfl Tryz.ntmps48 (by kernel_rfl) rfl ?_
  refine KW.seq (KW.region ?_)
  refine OW.val rfl rfl (EX.assign rfl) ?_
  refine OW.val rfl rfl (EX.assign rfl) ?_
  refine OW.nil ?_
  refine KW.seq (KW.seq ?_)
  refine KW.cut1 (fun (_u : Unit) => True) (fun (_u : Unit) => [(0, .int .i64 (c : Int)), (1, str (s)), (24, .bool (decide (¬ (1 ≤ c ∧ c ≤ 4096 ∧ s.length % 512 = 0 ∧ ((s.length / 512 : Nat) : Int) ≤ c))))]) (fun (_u : Unit) => w) ?_ ?_
  · refine KW.region ?_
    refine OW.val rfl rfl (EX.move rfl) ?_
    refine OW.val rfl rfl (by first | exact EX.lssN (b := 1) rfl rfl | exact EX.lssZ rfl rfl) ?_
    refine OW.val rfl rfl (EX.move rfl) ?_
    refine OW.splitD 8 rfl (fun a1 => ?_) (fun a1 => ?_)
    · refine OW.pass rfl rfl ?_
      refine OW.pass rfl rfl ?_
      refine OW.val rfl rfl (EX.pickT rfl rfl) ?_
      refine OW.val rfl rfl (EX.move rfl) ?_
      refine OW.pass rfl rfl ?_
      refine OW.pass rfl rfl ?_
      refine OW.pass rfl rfl ?_
      refine OW.pass rfl rfl ?_
      refine OW.val rfl rfl (EX.pickT rfl rfl) ?_
      refine OW.val rfl rfl (EX.move rfl) ?_
      refine OW.pass rfl rfl ?_
      refine OW.pass rfl rfl ?_
      refine OW.pass rfl rfl ?_
      refine OW.pass rfl rfl ?_
      refine OW.pass rfl rfl ?_
      refine OW.val rfl rfl (EX.pickT rfl rfl) ?_
      refine OW.nil ?_
      refine KW.as 24 (.bool (decide (¬ (1 ≤ c ∧ c ≤ 4096 ∧ s.length % 512 = 0 ∧ ((s.length / 512 : Nat) : Int) ≤ c)))) rfl (by rw [decide_eq_true]; omega) ?_
      refine KW.meet1 (()) ⟨rfl, rfl, rfl, trivial⟩ rfl ?_
      trivial
    · refine OW.val rfl rfl (EX.move rfl) ?_
      refine OW.val rfl rfl (by first | exact EX.gtrN (b := 4096) rfl rfl | exact EX.gtrZ rfl rfl) ?_
      refine OW.val rfl rfl (EX.pickF rfl rfl) ?_
      refine OW.val rfl rfl (EX.move rfl) ?_
      refine OW.splitD 12 rfl (fun a2 => ?_) (fun a2 => ?_)
      · refine OW.pass rfl rfl ?_
        refine OW.pass rfl rfl ?_
        refine OW.pass rfl rfl ?_
        refine OW.pass rfl rfl ?_
        refine OW.val rfl rfl (EX.pickT rfl rfl) ?_
        refine OW.val rfl rfl (EX.move rfl) ?_
        refine OW.pass rfl rfl ?_
        refine OW.pass rfl rfl ?_
        refine OW.pass rfl rfl ?_
        refine OW.pass rfl rfl ?_
        refine OW.pass rfl rfl ?_
        refine OW.val rfl rfl (EX.pickT rfl rfl) ?_
        refine OW.nil ?_
        refine KW.as 24 (.bool (decide (¬ (1 ≤ c ∧ c ≤ 4096 ∧ s.length % 512 = 0 ∧ ((s.length / 512 : Nat) : Int) ≤ c)))) rfl (by rw [decide_eq_true]; omega) ?_
        refine KW.meet1 (()) ⟨rfl, rfl, rfl, trivial⟩ rfl ?_
        trivial
      · refine OW.val rfl rfl (EX.move rfl) ?_
        refine OW.val rfl rfl (EX.lenS Tryz.underlying9 rfl) ?_
        refine OW.val rfl rfl (by first | exact EX.remN (b := 512) rfl rfl (by omega) | exact EX.remZ rfl rfl (by decide)) ?_
        refine OW.val rfl rfl (by first | exact EX.neqN (b := 0) rfl rfl | exact EX.neqZ rfl rfl) ?_
        refine OW.val rfl rfl (EX.pickF rfl rfl) ?_
        refine OW.val rfl rfl (EX.move rfl) ?_
        refine OW.splitD 18 rfl (fun a3 => ?_) (fun a3 => ?_)
        · refine OW.pass rfl rfl ?_
          refine OW.pass rfl rfl ?_
          refine OW.pass rfl rfl ?_
          refine OW.pass rfl rfl ?_
          refine OW.pass rfl rfl ?_
          refine OW.val rfl rfl (EX.pickT rfl rfl) ?_
          refine OW.nil ?_
          refine KW.as 24 (.bool (decide (¬ (1 ≤ c ∧ c ≤ 4096 ∧ s.length % 512 = 0 ∧ ((s.length / 512 : Nat) : Int) ≤ c)))) rfl (by rw [decide_eq_true]; omega) ?_
          refine KW.meet1 (()) ⟨rfl, rfl, rfl, trivial⟩ rfl ?_
          trivial
        · refine OW.val rfl rfl (EX.move rfl) ?_
          refine OW.val rfl rfl (EX.lenS Tryz.underlying9 rfl) ?_
          refine OW.val rfl rfl (EX.quoN (b := 512) (m := 9223372036854775807) rfl rfl rfl (by omega)) ?_
          refine OW.val rfl rfl (EX.move rfl) ?_
          refine OW.val rfl rfl (by first | exact EX.gtrN rfl rfl | exact EX.gtrZ rfl rfl) ?_
          refine OW.val rfl rfl (EX.pickF rfl rfl) ?_
          refine OW.nil ?_
          refine KW.as 24 (.bool (decide (¬ (1 ≤ c ∧ c ≤ 4096 ∧ s.length % 512 = 0 ∧ ((s.length / 512 : Nat) : Int) ≤ c)))) rfl (congrArg Value.bool (decide_eq_decide.2 (by omega))) ?_
          refine KW.meet1 (()) ⟨rfl, rfl, rfl, trivial⟩ rfl ?_
          trivial
  · rintro _ _
    refine KW.condD rfl (fun hm => ?_) (fun hm => ?_)
    · refine KW.seq (KW.region ?_)
      refine OW.val rfl rfl (EX.assign rfl) ?_
      refine OW.val rfl rfl (EX.assign rfl) ?_
      refine OW.nil ?_
      refine KW.ret (ret2 rfl rfl rfl ?_)
      exact ⟨_, 2, rfl, Ext.refl _, .inl ⟨hm, rfl, rfl⟩⟩
    · have hmay : may c s := Classical.not_not.1 hm
      obtain ⟨m1, m2, m3, m4⟩ := id hmay
      obtain ⟨j, rfl⟩ := Int.eq_ofNat_of_zero_le (show 0 ≤ c by omega)
      refine KW.skip (KW.seq (KW.region ?_))
      refine OW.val rfl rfl (EX.move rfl) ?_
      refine OW.val rfl rfl (EX.move rfl) ?_
      refine OW.bytesOf rfl rfl Tryz.underlying9 Tryz.underlying54 Tryz.underlying5 rfl (by omega) ?_
      rintro cp rs w1 hb1 hc1 hm1 hl1 hx1
      refine OW.val rfl rfl (EX.move rfl) ?_
      refine OW.bytesOf rfl rfl Tryz.underlying9 Tryz.underlying54 Tryz.underlying5 rfl (by omega) ?_
      rintro cp2 rs2 w2 hb2 hc2 hm2 hl2 hx2
      refine OW.val rfl rfl (EX.buildS (pl := [(0, 1), (1, 1), (2, 1), (3, 1), (4, 2), (6, 1), (7, 1)]) (ks := [0, 1, 2]) (is := [0, 1, 2]) (zs := [.int .i64 0, .slice none 0 0, .slice none 0 0, .slice none 0 0, .int .i64 0, .slice none 0 0, .bool false, .int .i64 0]) Tryz.underlying109 ti109 (by kernel_rfl) rfl rfl rfl (by first | rfl | (simp only [List.all_cons, List.all_nil, Bool.and_true, Bool.true_and, Bool.and_eq_true, Value.oneCell']; repeat (first | assumption | exact Own.one (by assumption) | constructor))) (by simp only [setAll, List.set_cons_zero, List.set_cons_succ]; rfl)) ?_
      refine OW.boxS rfl rfl rfl ?_
      rintro b w3 hge hb3 hx3
      refine OW.val rfl rfl (EX.assign rfl) ?_
      refine OW.val rfl rfl (EX.assign rfl) ?_
      refine OW.nil ?_
      refine KW.ret (ret2 rfl rfl rfl ?_)
      have e1 := Own.ofBytes hb1 (Nat.le_refl _) hc1 hm1 hl1
      have z1 := hx1.size
      have z2 := hx2.size
      have e2 : Own w2 w.heap.size 5 1 _ _ _ := Own.ofBytes hb2 z1 hc2 hm2 hl2
      have l1 := hb1.lt
      refine ⟨_, 0, rfl, (hx1.trans hx2).trans hx3, .inr ⟨hmay, b, rfl, rfl, _, _, _, _, [], ⟨by omega, hb3, (e1.ext hx2).ext hx3, e2.ext hx3, ?_, Own.nil _ _ _ _, trivial, Own.nil _ _ _ _⟩⟩⟩
      intro k hk hk'
      simp [Value.ownBlock] at hk hk'
      omega
theorem new_s (c : Int) (c0 : -9223372036854775808 ≤ c) (c1 : c ≤ 9223372036854775807) (w : World) :
    Ret Tryz.prog 15 [.int .i64 c] w fun v w' => ∃ (p : Value) (e : Nat), v = .tuple #[p, .int .i64 (e : Int)] ∧ Ext w w' ∧ ((¬ may c [] ∧ p = .pointer none ∧ e = 2) ∨ (may c [] ∧ ∃ b, p = .pointer (some ⟨b, 0, none⟩) ∧ e = 0 ∧ DevAt w' w.heap.size b (fresh c.toNat []))) := by
  refine Ret.enter Tryz.func15 rfl Tryz.ntmps15 (by kernel_rfl) rfl ?_
  refine KW.seq (KW.region ?_)
  refine OW.val rfl rfl (EX.assign rfl) ?_
  refine OW.val rfl rfl (EX.assign rfl) ?_
  refine OW.nil ?_
  refine KW.seq (KW.region ?_)
  refine OW.val rfl rfl (EX.move rfl) ?_
  refine OW.call rfl rfl rfl (load_s c c0 c1 [] (by simp) w) ?_
  rintro _ w1 ⟨p, e, rfl, hx, hor⟩
  refine OW.val rfl rfl (EX.extract rfl rfl) ?_
  refine OW.val rfl rfl (EX.extract rfl rfl) ?_
  refine OW.val rfl rfl (EX.assign rfl) ?_
  refine OW.val rfl rfl (EX.assign rfl) ?_
  refine OW.nil ?_
  refine KW.ret (ret2 rfl rfl rfl ?_)
  exact ⟨p, e, rfl, hx, hor⟩
section
variable {D : Dv}
theorem write_ok (h : D.Ok) (i : Int) (s : List UInt8) : (D.write i s).1.Ok := by
  unfold Dv.write
  split
  · exact h
  · split
    · exact h
    · split
      · exact h
      · rename_i h1 h2
        refine does_ok h fun d hd => ?_
        cases hd
        exact ⟨by omega, by simpa using h2⟩
end
def A0 : Dv := fresh 4 []
def A1 : Dv := (A0.write 2 (sector 120 false)).1
def A2 : Dv := A1.sync.1
def A3 : Dv := (A2.write 4 (sector 120 false)).1
def A4 : Dv := (A3.plan 2 [false, true]).1
def A5 : Dv := (A4.write 2 (sector 121 false)).1
def A6 : Dv := (A5.write 0 (sector 121 false)).1
def A7 : Dv := { A6 with dead := false }
theorem e1 : (A0.write 2 (sector 120 false)).1 = A1 := rfl
theorem e2 : A1.sync.1 = A2 := rfl
theorem e3 : (A2.write 4 (sector 120 false)).1 = A3 := rfl
theorem e4 : (A3.plan 2 [false, true]).1 = A4 := rfl
end Go.Proofs.YthgfdpcpbghkpaaGreatDoor
namespace Go.Proofs.YthgfdpcpbghkpaaGreatDoor.Wal
open Go.RowKit Rec Pth Dsk
structure Sm (D : Dv) (k : Nat) : Prop where
  calls : D.calls ≤ k
  pend : D.pend.length ≤ k
  at_ : D.at_ ≤ 9223372036854775807
  keep : D.keep.length ≤ 140737488355328
theorem Sm.small {D : Dv} {k : Nat} (h : Sm D k) (hk : k ≤ 1000000) : Small D := ⟨by have := h.calls; omega, by have := h.pend; omega, h.at_, h.keep⟩
theorem Sm.more {D : Dv} {k k' : Nat} (h : Sm D k) (hk : k ≤ k') : Sm D k' := ⟨by have := h.calls; omega, by have := h.pend; omega, h.at_, h.keep⟩
theorem does_sm {D : Dv} {k : Nat} (h : Sm D k) (c : Option Ch) : Sm (D.does c).1 (k + 1) := by
  obtain ⟨h1, h2, h3, h4⟩ := h
  by_cases h5 : (D.pushed c).at_ = 1
  · rw [does_fall h5]
    refine ⟨?_, by simp, by simp, by simp⟩
    cases c <;> simp only [Dv.pushed] <;> omega
  · rw [does_go h5]
    cases c with
    | none => exact ⟨by simp only [Dv.done, Dv.pushed]; omega, by simp [Dv.done], by simp only [Dv.done, Dv.pushed]; omega, h4⟩
    | some c => exact ⟨by simp only [Dv.done, Dv.pushed]; omega, by simp only [Dv.done, Dv.pushed, List.length_append, List.length_singleton]; omega, by simp only [Dv.done, Dv.pushed]; omega, h4⟩
theorem write_sm {D : Dv} {k : Nat} (h : Sm D k) (i : Int) (s : List UInt8) : Sm (D.write i s).1 (k + 1) := by
  unfold Dv.write
  split
  · exact h.more (by omega)
  · split
    · exact h.more (by omega)
    · split
      · exact h.more (by omega)
      · exact does_sm h _
theorem sync_sm {D : Dv} {k : Nat} (h : Sm D k) : Sm D.sync.1 (k + 1) := by
  unfold Dv.sync
  split
  · exact h.more (by omega)
  · exact does_sm h _
theorem writes_cons (D : Dv) (i : Nat) (s : By) (l : List By) : writes D i (s :: l) = if (D.write i s).2 = 0 then writes (D.write i s).1 (i + 1) l else D.write i s := rfl
theorem writes_sm : ∀ (l : List By) (D : Dv) (i k : Nat), Sm D k → Sm (writes D i l).1 (k + l.length)
  | [], D, i, k, h => h
  | s :: l, D, i, k, h => by
    rw [writes_cons]
    split
    · have := writes_sm l _ (i + 1) (k + 1) (write_sm h i s)
      rw [List.length_cons]
      exact this.more (by omega)
    · exact (write_sm h i s).more (by rw [List.length_cons]; omega)
end Go.Proofs.YthgfdpcpbghkpaaGreatDoor.Wal
namespace Go.Proofs.YthgfdpcpbghkpaaGreatDoor
open Go.RowKit Dsk
theorem bytesV_drop_take (l : List UInt8) (i j : Nat) : ((bytesV l).drop i).take j = bytesV ((l.drop i).take j) := by simp [bytesV, List.map_take, List.map_drop]
end Go.Proofs.YthgfdpcpbghkpaaGreatDoor
namespace Go.Proofs.YthgfdpcpbghkpaaGreatDoor.Cat
open Pth Rec Srt Dsk Wal
noncomputable def saveC (D : Dv) (gen : Int) (l : List M) : Dv × Nat := open Classical in
  if OkE gen l ∧ OkC l D.cap then (let r := writes D (gen.toNat % 2 * 5) (sect5 gen (allT l)); if r.2 = 0 then r.1.sync else r) else (D, 230)
theorem saveC_no {D : Dv} {gen : Int} {l : List M} (h : ¬ (OkE gen l ∧ OkC l D.cap)) : saveC D gen l = (D, 230) := by unfold saveC; rw [if_neg h]
theorem saveC_go {D : Dv} {gen : Int} {l : List M} (h : OkE gen l ∧ OkC l D.cap) : saveC D gen l = (let r := writes D (gen.toNat % 2 * 5) (sect5 gen (allT l)); if r.2 = 0 then r.1.sync else r) := by unfold saveC; rw [if_pos h]
theorem sect5_all {gen : Int} (s : List UInt8) : ∀ t ∈ sect5 gen s, t.length = 512 := by
  intro t ht
  obtain ⟨i, _, rfl⟩ := List.mem_map.1 ht
  exact text_length _ _ _ _ (piece_len s i)
theorem save_sm {D : Dv} {k : Nat} (h : Sm D k) (gen : Int) (l : List M) : Sm (saveC D gen l).1 (k + 6) := by
  unfold saveC
  split
  · have h1 := writes_sm (sect5 gen (allT l)) D (gen.toNat % 2 * 5) k h
    rw [sect5_len] at h1
    simp only
    split
    · exact (sync_sm h1).more (by omega)
    · exact h1.more (by omega)
  · exact h.more (by omega)
def secAt (s : List UInt8) (j : Nat) : List UInt8 := (s.drop (j * 512)).take 512
def slotSs (D : Dv) (k : Nat) : Txts := (List.range 5).map fun i => secAt D.now (k * 5 + i)
theorem slotSs_len (D : Dv) (k : Nat) : (slotSs D k).length = 5 := by simp [slotSs]
def hasS (D : Dv) (k : Nat) : Prop := (k + 1) * 5 ≤ D.now.length / 512
instance (D : Dv) (k : Nat) : Decidable (hasS D k) := by unfold hasS; infer_instance
structure Right (D : Dv) (k : Nat) : Prop where
  has : hasS D k
  dec : (decC (slotSs D k)).2.2 = 0
  par : (decC (slotSs D k)).1 % 2 = (k : Int)
  chk : OkC (decC (slotSs D k)).2.1 D.cap
noncomputable def slotC (D : Dv) (k : Nat) : Option (Int × List M) := open Classical in
  if Right D k then some ((decC (slotSs D k)).1, (decC (slotSs D k)).2.1) else none
noncomputable def bestC : Option (Int × List M) → Option (Int × List M) → Int × List M × Nat
  | some a, some b => if b.1 < a.1 then (a.1, a.2, 0) else (b.1, b.2, 0)
  | some a, none => (a.1, a.2, 0)
  | none, some b => (b.1, b.2, 0)
  | none, none => (0, [], 230)
noncomputable def loadC (D : Dv) : Int × List M × Nat := if D.dead then (0, [], 190) else bestC (slotC D 0) (slotC D 1)
def readsC (D : Dv) (n : Nat) : Dv := { D with calls := D.calls + n }
def nreads (D : Dv) : Nat := (if hasS D 0 then 5 else 0) + (if hasS D 1 then 5 else 0)
def loadedC (D : Dv) : Dv := if D.dead then D else readsC D (nreads D)
theorem reads_ok {D : Dv} (h : D.Ok) (n : Nat) : (readsC D n).Ok := ⟨h.cap, h.kept, h.now, h.keptM, h.nowM, h.pend⟩
theorem reads_sm {D : Dv} {k : Nat} (h : Sm D k) (n : Nat) : Sm (readsC D n) (k + n) := ⟨by show D.calls + n ≤ _; have := h.calls; omega, by show D.pend.length ≤ _; have := h.pend; omega, h.at_, h.keep⟩
theorem reads_reads (D : Dv) (a b : Nat) : readsC (readsC D a) b = readsC D (a + b) := by unfold readsC; simp [Nat.add_assoc]
theorem loaded_ok {D : Dv} (h : D.Ok) : (loadedC D).Ok := by unfold loadedC; split; (· exact h); (· exact reads_ok h _)
end Go.Proofs.YthgfdpcpbghkpaaGreatDoor.Cat
namespace Go.Proofs.YthgfdpcpbghkpaaGreatDoor
open Go.RowKit Pth Rec Srt Cat Dsk Wal
set_option maxRecDepth 20000 in
theorem save_s {D : Dv} (hD : D.Ok) {k : Nat} (hsm : Sm D k) (hk : k ≤ 900000) (B b : Nat) (gen : Int) (g0 : -9223372036854775808 ≤ gen) (g1 : gen ≤ 9223372036854775807) (l : List M) (hl : l.length ≤ 140737488355328) (hok : ∀ m ∈ l, m.Ok) (A : Option Addr) (c C : Nat) (w : World) (hG : MLen w) (h : DevAt w B b D) (hs : Sl w C A (memsV l)) :
    Ret Tryz.prog 25 [.pointer (some ⟨b, 0, none⟩), .int .i64 gen, .slice A l.length c] w fun v w' => v = .int .i64 (((saveC D gen l).2 : Nat) : Int) ∧ DevAt w' B b (saveC D gen l).1 ∧ Tm w w' B dty := by
  have hcap := hD.cap
  have bye : ∀ w', Ext w w' → ¬ (OkE gen l ∧ OkC l D.cap) → (Value.int .i64 230 = .int .i64 (((saveC D gen l).2 : Nat) : Int) ∧ DevAt w' B b (saveC D gen l).1 ∧ Tm w w' B dty) := fun w' hx q => by
    rw [saveC_no q]
    exact ⟨rfl, h.ext hx, Tm.of_ext hx _ _⟩
  refine Ret.enter Tryz.func25 rfl Tryz.ntmps25 (by kernel_rfl) rfl ?_
  refine KW.seq (KW.region ?_)
  refine OW.val rfl rfl (EX.assign rfl) ?_
  refine OW.nil ?_
  refine KW.seq (KW.seq (KW.region ?_))
  refine OW.val rfl rfl (EX.move rfl) ?_
  refine OW.call rfl rfl rfl (capacity_d h hD) ?_
  rintro _ _ ⟨rfl, rfl⟩
  refine OW.val rfl rfl (by first | exact EX.eqlN (b := 0) rfl rfl | exact EX.eqlZ rfl rfl) ?_
  refine OW.nil ?_
  refine KW.condD rfl (fun h0 => ?_) (fun h0 => ?_)
  · omega
  · refine KW.skip (KW.seq (KW.region ?_))
    refine OW.val rfl rfl (EX.move rfl) ?_
    refine OW.val rfl rfl (EX.move rfl) ?_
    refine OW.call rfl rfl rfl (encode23_s gen l hok hl A c C w hG hs) ?_
    rintro _ w1 ⟨⟨u, rfl, hown⟩, hx1⟩
    refine OW.val rfl rfl (EX.move rfl) ?_
    refine OW.val rfl rfl (EX.extract rfl rfl) ?_
    refine OW.val rfl rfl (EX.extract rfl rfl) ?_
    refine OW.val rfl rfl (EX.assign rfl) ?_
    refine OW.val rfl rfl (EX.assign rfl) ?_
    refine OW.nil ?_
    refine KW.seq (KW.seq (KW.region ?_))
    refine OW.val rfl rfl (EX.move rfl) ?_
    refine OW.val rfl rfl (by first | exact EX.neqN (b := 0) rfl rfl | exact EX.neqZ rfl rfl) ?_
    refine OW.nil ?_
    refine KW.condD rfl (fun he => ?_) (fun he => ?_)
    · have hno : ¬ OkE gen l := fun q => by rw [encC_ok q] at he; exact he rfl
      have h230 : (encC gen l).2 = 230 := by rw [encC_no hno]
      refine KW.seq (KW.region ?_)
      refine OW.val rfl rfl (EX.move rfl) ?_
      refine OW.val rfl rfl (EX.assign rfl) ?_
      refine OW.nil ?_
      rw [h230]
      refine KW.ret (ret1 rfl rfl ?_)
      exact bye w1 hx1 (fun q => hno q.1)
    · have hE : OkE gen l := by
        rcases encC_or gen l with ⟨q, _⟩ | q
        · exact q
        · rw [q] at he; exact absurd (show (230 : Nat) ≠ 0 by decide) (fun z => he (by simp))
      rw [encC_ok hE] at hown
      simp only [sect5_len] at hown
      have hdev1 := h.ext hx1
      refine KW.skip (KW.seq (KW.seq (KW.region ?_)))
      refine OW.val rfl rfl (EX.move rfl) ?_
      refine OW.val rfl rfl (EX.move rfl) ?_
      refine OW.call rfl rfl rfl (capacity_d hdev1 hD) ?_
      rintro _ _ ⟨rfl, rfl⟩
      refine OW.call rfl rfl rfl (chk_s l hok hl D.cap A c C w1 (hG.ext hx1) (hs.ext hx1)) ?_
      rintro _ w2 ⟨rfl, hx2⟩
      refine OW.val rfl rfl (EX.assign rfl) ?_
      refine OW.nil ?_
      refine KW.seq (KW.region ?_)
      refine OW.val rfl rfl (EX.move rfl) ?_
      refine OW.val rfl rfl (by first | exact EX.neqN (b := 0) rfl rfl | exact EX.neqZ rfl rfl) ?_
      refine OW.nil ?_
      have x2 := hx1.trans hx2
      refine KW.condD rfl (fun hc => ?_) (fun hc => ?_)
      · have hno : ¬ OkC l D.cap := fun q => by rw [chkC_ok q] at hc; exact hc rfl
        have h230 : chkC l D.cap = 230 := chkC_no hno
        refine KW.seq (KW.region ?_)
        refine OW.val rfl rfl (EX.move rfl) ?_
        refine OW.val rfl rfl (EX.assign rfl) ?_
        refine OW.nil ?_
        rw [h230]
        refine KW.ret (ret1 rfl rfl ?_)
        exact bye w2 x2 (fun q => hno q.2)
      · have hC : OkC l D.cap := Classical.byContradiction fun q => hc (by rw [chkC_no q]; decide)
        obtain ⟨g, rfl⟩ := Int.eq_ofNat_of_zero_le hE.low
        have hgb := hE.high
        have el := saveC_go (D := D) (gen := (g : Int)) ⟨hE, hC⟩
        have hlen := sect5_all (gen := (g : Int)) (allT l)
        have hnt := sect5_len (g : Int) (allT l)
        have hown2 := hown.ext hx2
        generalize sect5 (g : Int) (allT l) = T at el hlen hnt hown2
        simp only [Int.toNat_natCast] at el
        obtain ⟨A3, c3, rfl, hc3, _⟩ := hown2.slice
        have h1 := hdev1.ext hx2
        refine KW.skip (KW.seq (KW.seq (KW.region ?_)))
        refine OW.val rfl rfl (EX.move rfl) ?_
        refine OW.val rfl rfl (EX.lenA Tryz.underlying24 rfl) ?_
        refine OW.val rfl rfl (EX.move rfl) ?_
        refine OW.nil ?_
        refine KW.block ?_
        refine KW.loop3 (fun (i : Nat) (E : Dv) (wr : World) => i ≤ 5 ∧ E.Ok ∧ Sm E (k + i) ∧ writes E (g % 2 * 5 + i) (T.drop i) = writes D (g % 2 * 5) T ∧ DevAt wr B b E ∧ Tm w wr B dty ∧ Own wr w.heap.size 9 1 (.slice A3 5 c3) 5 (T.map str)) (fun (i : Nat) (E : Dv) (wr : World) => [(0, .pointer (some ⟨b, 0, none⟩)), (1, .int .i64 ((g : Nat) : Int)), (32, .slice A3 5 c3), (33, .int .i64 ((5 : Nat) : Int)), (34, .int .i64 ((i : Nat) : Int))]) (fun (i : Nat) (E : Dv) (wr : World) => wr) (fun (i : Nat) (E : Dv) (wr : World) => 5 - i) (0) (D) (w2) ⟨rfl, rfl, rfl, rfl, rfl, trivial⟩ rfl ?_ ?_
        · exact ⟨Nat.zero_le _, hD, hsm, rfl, h1, Tm.of_ext x2 _ _, hown2⟩
        · rintro i E wr ⟨hi, hE', hsE, hw, hdev, htm, hownr⟩
          refine KW.seq (KW.region ?_)
          refine OW.val rfl rfl (by first | exact EX.lssN rfl rfl | exact EX.lssZ rfl rfl) ?_
          refine OW.nil ?_
          refine KW.seq ?_
          refine KW.condD rfl (fun hlt => ?_) (fun hlt => ?_)
          · have hltT : i < T.length := by omega
            have hdr : T.drop i = T[i] :: T.drop (i + 1) := List.drop_eq_getElem_cons hltT
            have hT5 := hlen T[i] (List.getElem_mem hltT)
            have hTi : (T.map str)[i]? = some (str T[i]) := by rw [List.getElem?_map, List.getElem?_eq_getElem hltT]; rfl
            rw [hdr, writes_cons] at hw
            generalize T[i] = s at hw hT5 hTi
            obtain ⟨A4, c4, e4, _, hsl4⟩ := hownr.slice
            cases e4
            obtain ⟨bb, o, rfl, _, hcell⟩ := hsl4.at_ (by rw [List.length_map]; omega)
            refine KW.skip (KW.seq (KW.block (KW.seq (KW.region ?_))))
            refine OW.val rfl rfl (EX.move rfl) ?_
            refine OW.val rfl rfl (by first | exact EX.indexAddrS0 Tryz.underlying24 ti9 rfl rfl (by omega) | exact EX.indexAddrS1 Tryz.underlying24 ti9 rfl rfl (by omega)) ?_
            refine OW.val rfl rfl (EX.load Tryz.underlying9 rfl rfl (hcell i _ hTi)) ?_
            refine OW.val rfl rfl (EX.assign rfl) ?_
            refine OW.val rfl rfl (EX.assign rfl) ?_
            refine OW.nil ?_
            refine KW.seq (KW.region ?_)
            refine OW.val rfl rfl (EX.move rfl) ?_
            refine OW.val rfl rfl (EX.move rfl) ?_
            refine OW.val rfl rfl (by first | exact EX.remN (b := 2) rfl rfl (by omega) | exact EX.remZ rfl rfl (by decide)) ?_
            refine OW.val rfl rfl (by first | exact EX.mulN (b := 5) (m := 9223372036854775807) rfl rfl rfl (by omega) | exact EX.mulZ (m := 9223372036854775807) rfl rfl rfl rfl (by omega)) ?_
            refine OW.val rfl rfl (EX.move rfl) ?_
            refine OW.val rfl rfl (by first | exact EX.addN (m := 9223372036854775807) rfl rfl rfl (by omega) | exact EX.addZ (m := 9223372036854775807) rfl rfl rfl rfl (by omega)) ?_
            refine OW.val rfl rfl (EX.move rfl) ?_
            have cw := write_d hdev hE' (hsE.small (by omega)) ((g % 2 * 5 + i : Nat) : Int) (by omega) (by omega) s (by omega)
            refine OW.call rfl rfl rfl (cw) ?_
            rintro _ w5 ⟨rfl, hdev5, htm5⟩
            refine OW.val rfl rfl (EX.assign rfl) ?_
            refine OW.nil ?_
            refine KW.seq (KW.region ?_)
            refine OW.val rfl rfl (EX.move rfl) ?_
            refine OW.val rfl rfl (by first | exact EX.neqN (b := 0) rfl rfl | exact EX.neqZ rfl rfl) ?_
            refine OW.nil ?_
            refine KW.condD rfl (fun hee => ?_) (fun hee => ?_)
            · rw [if_neg (by omega)] at hw
              refine KW.seq (KW.region ?_)
              refine OW.val rfl rfl (EX.move rfl) ?_
              refine OW.val rfl rfl (EX.assign rfl) ?_
              refine OW.nil ?_
              refine KW.ret (ret1 rfl rfl ?_)
              rw [el, ← hw]
              rw [if_neg (by omega)]
              exact ⟨rfl, hdev5, htm.trans htm5⟩
            · rw [if_pos (by omega)] at hw
              refine KW.skip (KW.leave (KW.region ?_))
              refine OW.val rfl rfl (by first | exact EX.addN (b := 1) (m := 9223372036854775807) rfl rfl rfl (by omega) | exact EX.addZ (m := 9223372036854775807) rfl rfl rfl rfl (by omega)) ?_
              refine OW.val rfl rfl (EX.move rfl) ?_
              refine OW.nil ?_
              refine KW.back3 (i + 1) ((E.write ((g % 2 * 5 + i : Nat) : Int) s).1) (w5) ⟨rfl, rfl, rfl, rfl, rfl, trivial⟩ rfl ?_ (by omega)
              exact ⟨by omega, write_ok hE' _ _, write_sm hsE _ _, hw, hdev5, htm.trans htm5, htm5.own hownr (by decide)⟩
          · obtain rfl : i = 5 := by omega
            rw [List.drop_eq_nil_of_le (by omega)] at hw
            have hw' : writes D (g % 2 * 5) T = (E, 0) := hw.symm
            rw [hw'] at el
            simp only [if_true] at el
            refine KW.exit rfl (KW.seq (KW.region ?_))
            refine OW.val rfl rfl (EX.move rfl) ?_
            refine OW.call rfl rfl rfl (sync_d hdev hE' (hsE.small (by omega))) ?_
            rintro _ w5 ⟨rfl, hdev5, htm5⟩
            refine OW.val rfl rfl (EX.assign rfl) ?_
            refine OW.nil ?_
            refine KW.ret (ret1 rfl rfl ?_)
            rw [el]
            exact ⟨rfl, hdev5, htm.trans htm5⟩
end Go.Proofs.YthgfdpcpbghkpaaGreatDoor
namespace Go.Proofs.YthgfdpcpbghkpaaGreatDoor
open Go.RowKit Pth Rec Srt Cat Dsk Wal
section
variable {w w' : World} {B b : Nat} {D : Dv} {vk vn vp vq : Value} {vs : List Value}
theorem Dev.mo {S : List Nat} (h : Dev w B b D vk vn vp vq vs) (hm : Mo w w' S) (hS : ∀ k ∈ S, ∃ T l, Bk w k T l ∧ T ≠ 109 ∧ T ≠ 5 ∧ T ≠ 139 ∧ T ≠ 4) (hch : ChVs w' D.pend vs) : Dev w' B b D vk vn vp vq vs := by
  have nb : ∀ {k T l}, Bk w k T l → (T = 109 ∨ T = 5 ∨ T = 139 ∨ T = 4) → k ∉ S := fun {k T l} hb hT hk => by
    obtain ⟨T', l', hb', h1, h2, h3, h4⟩ := hS k hk
    obtain ⟨rfl, _⟩ := hb.det hb'
    rcases hT with q | q | q | q
    · exact h1 q
    · exact h2 q
    · exact h3 q
    · exact h4 q
  have no : ∀ {T v n xs}, Own w B T 1 v n xs → (T = 109 ∨ T = 5 ∨ T = 139 ∨ T = 4) → ∀ k, v.ownBlock = some k → k ∉ S := fun {T v n xs} ho hT k hk => by
    obtain ⟨_, l, hb⟩ := ho.blkT k hk
    exact nb hb hT
  exact ⟨h.lo, h.cells.mo hm (nb h.cells (.inl rfl)), h.kept.mo hm (no h.kept (.inr (.inl rfl))), h.now.mo hm (no h.now (.inr (.inl rfl))), h.apart, h.pend.mo hm (no h.pend (.inr (.inr (.inl rfl)))), hch, h.keep.mo hm (no h.keep (.inr (.inr (.inr rfl))))⟩
set_option maxRecDepth 20000 in
theorem readv_d (hv : Dev w B b D vk vn vp vq vs) (hD : D.Ok) (hs : Small D) (hd : D.dead = false) {j : Nat} (hj : j < D.now.length / 512) :
    Ret Tryz.prog 59 [.pointer (some ⟨b, 0, none⟩), .int .i64 (j : Int)] w fun v w' => v = .tuple #[str (secAt D.now j), .int .i64 ((0 : Nat) : Int)] ∧ Dev w' B b (readsC D 1) vk vn vp vq vs ∧ Mo w w' [b] := by
  have q1 := hD.now
  have q2 := hD.cap
  have q3 := hs.calls
  have h := hv.at_
  have ca := alive_d h hD
  rw [hd] at ca
  refine Ret.enter Tryz.func59 rfl Tryz.ntmps59 (by kernel_rfl) rfl ?_
  refine KW.seq (KW.region ?_)
  refine OW.val rfl rfl (EX.assign rfl) ?_
  refine OW.val rfl rfl (EX.assign rfl) ?_
  refine OW.nil ?_
  refine KW.seq (KW.seq (KW.region ?_))
  refine OW.val rfl rfl (EX.move rfl) ?_
  refine OW.call rfl rfl rfl (ca) ?_
  rintro _ _ ⟨rfl, rfl⟩
  refine OW.val rfl rfl (EX.assign rfl) ?_
  refine OW.nil ?_
  refine KW.seq (KW.region ?_)
  refine OW.val rfl rfl (EX.move rfl) ?_
  refine OW.val rfl rfl (by first | exact EX.neqN (b := 0) rfl rfl | exact EX.neqZ rfl rfl) ?_
  refine OW.nil ?_
  refine KW.as 10 (.bool false) rfl (congrArg Value.bool (decide_eq_false (by decide))) ?_
  refine KW.condF rfl (KW.skip (KW.seq (KW.seq ?_)))
  refine KW.region ?_
  refine OW.val rfl rfl (EX.move rfl) ?_
  refine OW.val rfl rfl (by first | exact EX.lssN (b := 0) rfl rfl | exact EX.lssZ rfl rfl) ?_
  refine OW.val rfl rfl (EX.move rfl) ?_
  refine OW.as 14 (.bool false) rfl (congrArg Value.bool (decide_eq_false ((by omega)))) ?_
  refine OW.val rfl rfl (EX.move rfl) ?_
  refine OW.val rfl rfl (EX.move rfl) ?_
  refine OW.call rfl rfl rfl (len_d h hD) ?_
  rintro _ _ ⟨rfl, rfl⟩
  refine OW.val rfl rfl (by first | exact EX.geqN rfl rfl | exact EX.geqZ rfl rfl) ?_
  refine OW.val rfl rfl (EX.pickF rfl rfl) ?_
  refine OW.nil ?_
  refine KW.as 19 (.bool false) rfl (congrArg Value.bool (decide_eq_false ((by omega)))) ?_
  refine KW.condF rfl (KW.skip (KW.seq (KW.region ?_)))
  refine OW.val rfl rfl (EX.move rfl) ?_
  refine OW.val rfl rfl (EX.nilCheck rfl) ?_
  refine OW.val rfl rfl (EX.fieldAddr (off := 7) Tryz.underlying109 rfl rfl ti3 rfl rfl) ?_
  have hj2 : (j + 1) * 512 ≤ D.now.length := by omega
  obtain ⟨An, cn, rfl, hcn, hsln⟩ := hv.now.slice
  refine OW.val rfl rfl (EX.load Tryz.underlying3 rfl rfl (hv.cells.cell_of rfl)) ?_
  refine OW.val rfl rfl (by first | exact EX.addN (b := 1) (m := 9223372036854775807) rfl rfl rfl (by omega) | exact EX.addZ (m := 9223372036854775807) rfl rfl rfl rfl (by omega)) ?_
  refine OW.val rfl rfl (EX.nilCheck rfl) ?_
  refine OW.val rfl rfl (EX.fieldAddr (off := 7) Tryz.underlying109 rfl rfl ti3 rfl rfl) ?_
  refine OW.storeB rfl ti3 rfl rfl (by first | rfl | assumption | exact Own.one (by assumption)) (hv.cells) (by simp) ?_
  rintro w2 hb2 hm2
  refine OW.nil ?_
  refine KW.seq (KW.region ?_)
  refine OW.val rfl rfl (EX.move rfl) ?_
  refine OW.val rfl rfl (EX.nilCheck rfl) ?_
  refine OW.val rfl rfl (EX.fieldAddr (off := 2) Tryz.underlying109 rfl rfl ti54 rfl rfl) ?_
  have hv2 := Dev.after (D' := readsC D 1) hv.lo hv.cells hm2 hb2 hv.kept hv.now hv.apart hv.pend hv.chs hv.keep
  obtain ⟨A2, c2, e2, hc2, hsl2⟩ := hv2.now.slice
  simp only [readsC, Value.slice.injEq, true_and] at e2
  obtain ⟨rfl, rfl⟩ := e2
  dsimp only [readsC] at hc2 hsl2
  refine OW.val rfl rfl (EX.load Tryz.underlying54 rfl rfl (hv2.cells.cell_of rfl)) ?_
  refine OW.val rfl rfl (EX.move rfl) ?_
  refine OW.val rfl rfl (by first | exact EX.mulN (b := 512) (m := 9223372036854775807) rfl rfl rfl (by omega) | exact EX.mulZ (m := 9223372036854775807) rfl rfl rfl rfl (by omega)) ?_
  refine OW.val rfl rfl (EX.move rfl) ?_
  refine OW.val rfl rfl (by first | exact EX.addN (b := 1) (m := 9223372036854775807) rfl rfl rfl (by omega) | exact EX.addZ (m := 9223372036854775807) rfl rfl rfl rfl (by omega)) ?_
  refine OW.val rfl rfl (by first | exact EX.mulN (b := 512) (m := 9223372036854775807) rfl rfl rfl (by omega) | exact EX.mulZ (m := 9223372036854775807) rfl rfl rfl rfl (by omega)) ?_
  refine OW.sliceALH rfl rfl Tryz.underlying54 ti5 rfl rfl rfl (by omega) (hsl2) (bytesV_length _) ?_
  rintro A3 hsl3
  rw [bytesV_drop_take] at hsl3
  have hsub : (j + 1) * 512 - j * 512 = 512 := by omega
  have hlen : ((D.now.drop (j * 512)).take ((j + 1) * 512 - j * 512)).length = (j + 1) * 512 - j * 512 := by rw [List.length_take, List.length_drop]; omega
  refine OW.val rfl rfl (EX.strOf Tryz.underlying54 Tryz.underlying5 Tryz.underlying9 rfl (hsl3) (hlen)) ?_
  refine OW.val rfl rfl (EX.assign rfl) ?_
  refine OW.val rfl rfl (EX.assign rfl) ?_
  refine OW.nil ?_
  refine KW.ret (ret2 rfl rfl rfl ?_)
  refine ⟨?_, hv2, hm2⟩
  rw [hsub]
  rfl
end
end Go.Proofs.YthgfdpcpbghkpaaGreatDoor
namespace Go.Proofs.YthgfdpcpbghkpaaGreatDoor
open Go.RowKit Pth Rec Srt Cat Dsk Wal
structure SlI (w : World) (B0 : Nat) (D : Dv) (j : Nat) (g : Int) (v : Value) (r : Bool) : Prop where
  right : r = true ↔ Right D j
  gen : r = true → g = (decC (slotSs D j)).1
  own : r = true → Own w B0 70 5 v (decC (slotSs D j)).2.1.length (memsV (decC (slotSs D j)).2.1)
def One (w : World) (B0 : Nat) (D : Dv) (j k : Nat) (g : Int) (v : Value) (r : Bool) : Prop := v.oneCell' = true ∧ (j < k → SlI w B0 D j g v r) ∧ (k ≤ j → r = false)
def SixI (w : World) (B0 sb : Nat) (D : Dv) (k : Nat) : Prop := ∃ g0 v0 r0 g1 v1 r1, Bk w sb 119 [.int .i64 g0, v0, .bool r0, .int .i64 g1, v1, .bool r1] ∧ One w B0 D 0 k g0 v0 r0 ∧ One w B0 D 1 k g1 v1 r1
theorem One.keep {w w' : World} {B0 : Nat} {D : Dv} {j k : Nat} {g : Int} {v : Value} {r : Bool} (h : One w B0 D j k g v r) (ho : ∀ {v n xs}, Own w B0 70 5 v n xs → Own w' B0 70 5 v n xs) : One w' B0 D j k g v r :=
  ⟨h.1, fun q => ⟨(h.2.1 q).right, (h.2.1 q).gen, fun z => ho ((h.2.1 q).own z)⟩, h.2.2⟩
theorem SixI.keep {w w' : World} {B0 sb : Nat} {D : Dv} {k : Nat} (h : SixI w B0 sb D k) (ho : ∀ {v n xs}, Own w B0 70 5 v n xs → Own w' B0 70 5 v n xs) (hb : ∀ {l}, Bk w sb 119 l → Bk w' sb 119 l) : SixI w' B0 sb D k := by
  obtain ⟨g0, v0, r0, g1, v1, r1, h1, h2, h3⟩ := h
  exact ⟨g0, v0, r0, g1, v1, r1, hb h1, h2.keep ho, h3.keep ho⟩
theorem One.skip {w : World} {B0 : Nat} {D : Dv} {j k : Nat} {g : Int} {v : Value} {r : Bool} (h : One w B0 D j k g v r) (hn : ¬ hasS D k) : One w B0 D j (k + 1) g v r := by
  refine ⟨h.1, fun q => ?_, fun q => h.2.2 (by omega)⟩
  rcases Nat.lt_or_ge j k with z | z
  · exact h.2.1 z
  · obtain rfl : j = k := by omega
    have hr := h.2.2 z
    subst hr
    exact ⟨⟨(fun q => by cases q), fun q => absurd q.has hn⟩, fun q => (by cases q), fun q => (by cases q)⟩
theorem SixI.skip {w : World} {B0 sb : Nat} {D : Dv} {k : Nat} (h : SixI w B0 sb D k) (hn : ¬ hasS D k) : SixI w B0 sb D (k + 1) := by
  obtain ⟨g0, v0, r0, g1, v1, r1, h1, h2, h3⟩ := h
  exact ⟨g0, v0, r0, g1, v1, r1, h1, h2.skip hn, h3.skip hn⟩
theorem One.next {w : World} {B0 : Nat} {D : Dv} {j k : Nat} {g : Int} {v : Value} {r : Bool} (h : One w B0 D j k g v r) (hn : j ≠ k) : One w B0 D j (k + 1) g v r :=
  ⟨h.1, fun q => h.2.1 (by omega), fun q => h.2.2 (by omega)⟩
theorem slot_put {w w' : World} {B0 sb : Nat} {D : Dv} {k : Nat} {g g0 g1 : Int} {v v0 v1 : Value} {r r0 r1 : Bool} (hk : k < 2) (hb : Bk w sb 119 [.int .i64 g0, v0, .bool r0, .int .i64 g1, v1, .bool r1]) (h0 : One w B0 D 0 k g0 v0 r0) (h1 : One w B0 D 1 k g1 v1 r1) (hn : One w B0 D k (k + 1) g v r) (hm : Mo w w' [sb])
    (hb' : Bk w' sb 119 ([.int .i64 g0, v0, .bool r0, .int .i64 g1, v1, .bool r1].take (0 + k * 3) ++ [.int .i64 g, v, .bool r] ++ [.int .i64 g0, v0, .bool r0, .int .i64 g1, v1, .bool r1].drop (0 + k * 3 + 3))) : SixI w' B0 sb D (k + 1) := by
  have ko : ∀ {v n xs}, Own w B0 70 5 v n xs → Own w' B0 70 5 v n xs := fun {v n xs} ho => ho.mo hm (fun q hq => by simp; exact fun z => ho.ne hb (by decide) q hq z.symm)
  rcases (show k = 0 ∨ k = 1 by omega) with rfl | rfl
  · exact ⟨_, _, _, _, _, _, hb', hn.keep ko, (h1.next (by decide)).keep ko⟩
  · exact ⟨_, _, _, _, _, _, hb', (h0.next (by decide)).keep ko, hn.keep ko⟩
theorem bk_part {w : World} {b : Nat} {T : TypeId} {l l2 : List Value} {o : Nat} (h : Bk w b T l) (e : (l.drop o).take l2.length = l2) : ∀ j u, l2[j]? = some u → w.cell? ⟨b, o + j, none⟩ = some u := by
  intro j u hj
  have hl := (List.getElem?_eq_some_iff.1 hj).1
  refine h.cell_of ?_
  rw [← e, List.getElem?_take, if_pos hl, List.getElem?_drop] at hj
  exact hj
theorem mlen_tm {w w' : World} {B : Nat} {p : TypeId → Bool} (h : MLen w) (ht : Tm w w' B p) (hg : 0 < B) : MLen w' := by
  obtain ⟨m, hm⟩ := h
  obtain ⟨S, hmo, hS⟩ := ht
  have hlt := World.block_lt_of_cell? w _ hm
  refine ⟨m, ?_⟩
  have h1 := hmo.block 0 hlt (fun q => by have := (hS _ q).1; omega)
  unfold World.cell? at hm ⊢
  rw [h1]
  exact hm
section
variable {w w' : World} {B b : Nat} {D : Dv} {vk vn vp vq : Value} {vs : List Value}
theorem Dev.tmB (h : Dev w B b D vk vn vp vq vs) (hm : Mo w w' [b]) : Tm w w' B dty := ⟨[b], hm, fun k hk => by
  simp only [List.mem_singleton] at hk
  subst hk
  exact ⟨h.lo, _, _, h.cells, rfl⟩⟩
end
theorem dec_low {ss : Txts} (h : (decC ss).2.2 = 0) : 0 ≤ (decC ss).1 := by
  rcases Classical.em (OkD ss) with q | q
  · rw [decC_ok q]
    exact (enc_parts q.enc).1.low
  · rw [decC_no q] at h
    cases h
theorem dec_fine (ss : Txts) : (∀ m ∈ (decC ss).2.1, m.Ok) ∧ (decC ss).2.1.length ≤ 1000000000 ∨ 1000000 < ss.length := by
  rcases Nat.lt_or_ge 1000000 ss.length with hl | hl
  · exact .inr hl
  · left
    rcases Classical.em (OkD ss) with q | q
    · rw [decC_ok q]
      refine ⟨memsOf_ok ss, ?_⟩
      have h1 := memL_lenC ((datas ss).length + 1) (datas ss) []
      have h2 := datas_most ss
      have hmd : memL ((datas ss).length + 1) (datas ss) [] = memsOf ss := rfl
      rw [hmd] at h1
      simp only [List.length_nil, Nat.zero_add] at h1
      show (memsOf ss).1.length ≤ _
      omega
    · rw [decC_no q]
      simp
theorem slotSs_take {D : Dv} {k i : Nat} (h : i < 5) : txtsV ((slotSs D k).take (i + 1)) = txtsV ((slotSs D k).take i) ++ [str (secAt D.now (k * 5 + i))] := by
  have hl : i < (slotSs D k).length := by rw [slotSs_len]; exact h
  rw [← List.take_append_getElem hl]
  simp [txtsV, slotSs]
set_option maxRecDepth 20000 in
theorem cload_s {D : Dv} (hD : D.Ok) {k0 : Nat} (hsm : Sm D k0) (hk0 : k0 ≤ 900000) (B b : Nat) (w : World) (hG : MLen w) (hgl : 0 < B) (h : DevAt w B b D) :
    Ret Tryz.prog 24 [.pointer (some ⟨b, 0, none⟩)] w fun v w' => (∃ u, v = .tuple #[.int .i64 (loadC D).1, u, .int .i64 (((loadC D).2.2 : Nat) : Int)] ∧ Own w' w.heap.size 70 5 u (loadC D).2.1.length (memsV (loadC D).2.1)) ∧ DevAt w' B b (loadedC D) ∧ Tm w w' B dty := by
  have hcap := hD.cap
  have hnow := hD.now
  refine Ret.enter Tryz.func24 rfl Tryz.ntmps24 (by kernel_rfl) rfl ?_
  refine KW.seq (KW.region ?_)
  refine OW.val rfl rfl (EX.assign rfl) ?_
  refine OW.val rfl rfl (EX.assign rfl) ?_
  refine OW.val rfl rfl (EX.assign rfl) ?_
  refine OW.nil ?_
  refine KW.seq (KW.seq (KW.region ?_))
  refine OW.val rfl rfl (EX.move rfl) ?_
  refine OW.call rfl rfl rfl (capacity_d h hD) ?_
  rintro _ _ ⟨rfl, rfl⟩
  refine OW.val rfl rfl (by first | exact EX.eqlN (b := 0) rfl rfl | exact EX.eqlZ rfl rfl) ?_
  refine OW.nil ?_
  refine KW.condD rfl (fun h0 => ?_) (fun h0 => ?_)
  · omega
  · refine KW.skip (KW.seq (KW.seq (KW.region ?_)))
    refine OW.val rfl rfl (EX.move rfl) ?_
    refine OW.call rfl rfl rfl (dead_d h hD) ?_
    rintro _ _ ⟨rfl, rfl⟩
    refine OW.nil ?_
    refine KW.cond rfl (fun hd => ?_) (fun hd => ?_)
    · have e1 : loadC D = (0, [], 190) := by unfold loadC; rw [if_pos hd]
      have e2 : loadedC D = D := by unfold loadedC; rw [if_pos hd]
      refine KW.seq (KW.region ?_)
      refine OW.val rfl rfl (EX.assign rfl) ?_
      refine OW.val rfl rfl (EX.assign rfl) ?_
      refine OW.val rfl rfl (EX.assign rfl) ?_
      refine OW.nil ?_
      refine KW.ret (ret3 rfl rfl rfl rfl ?_)
      rw [e1, e2]
      exact ⟨⟨_, rfl, Own.nil _ _ _ _⟩, h, Tm.refl _ _ _⟩
    · have e1 : loadC D = bestC (slotC D 0) (slotC D 1) := by unfold loadC; rw [if_neg (by rw [hd]; decide)]
      have e2 : loadedC D = readsC D (nreads D) := by unfold loadedC; rw [if_neg (by rw [hd]; decide)]
      rw [e1, e2]
      obtain ⟨vk, vn, vp, vq, vs, hv⟩ := id h
      refine KW.skip (KW.seq (KW.region ?_))
      refine OW.allocB (l := [.int .i64 0, .slice none 0 0, .bool false, .int .i64 0, .slice none 0 0, .bool false]) rfl rfl ti119 rfl ?_
      rintro sb w1 hge1 hb1 hx1
      refine OW.nil ?_
      refine KW.seq (KW.seq (KW.region ?_))
      refine OW.val rfl rfl (EX.move rfl) ?_
      refine OW.nil ?_
      have hsix : SixI w1 w.heap.size sb D 0 := ⟨_, _, _, _, _, _, hb1, ⟨rfl, fun q => by omega, fun _ => rfl⟩, ⟨rfl, fun q => by omega, fun _ => rfl⟩⟩
      refine KW.cut1 (fun (wr : World) => Dev wr B b (readsC D (nreads D)) vk vn vp vq vs ∧ Tm w wr B dty ∧ SixI wr w.heap.size sb D 2) (fun (wr : World) => [(5, .pointer (some ⟨sb, 0, none⟩))]) (fun (wr : World) => wr) ?_ ?_
      · refine KW.block ?_
        refine KW.loop3 (fun (k : Nat) (n : Nat) (wr : World) => k ≤ 2 ∧ n = (if 0 < k ∧ hasS D 0 then 5 else 0) + (if 1 < k ∧ hasS D 1 then 5 else 0) ∧ Dev wr B b (readsC D n) vk vn vp vq vs ∧ Tm w wr B dty ∧ SixI wr w.heap.size sb D k) (fun (k : Nat) (n : Nat) (wr : World) => [(0, .pointer (some ⟨b, 0, none⟩)), (5, .pointer (some ⟨sb, 0, none⟩)), (21, .int .i64 ((k : Nat) : Int))]) (fun (k : Nat) (n : Nat) (wr : World) => wr) (fun (k : Nat) (n : Nat) (wr : World) => 2 - k) (0) (0) (w1) ⟨rfl, rfl, rfl, trivial⟩ rfl ?_ ?_
        · exact ⟨Nat.zero_le _, by simp, hv.ext hx1, Tm.of_ext hx1 _ _, hsix⟩
        · rintro k n wr ⟨hk2, hn, hvr, htr, hsix⟩
          have hn10 : n ≤ 10 := by rw [hn]; split <;> split <;> omega
          have hrd : (readsC D n).dead = false := hd
          have hro : (readsC D n).Ok := reads_ok hD n
          have hBs : B ≤ sb := by have := hvr.lo; have := hv.lo; have := hv.cells.lt; omega
          have hnw : (readsC D n).now.length = D.now.length := rfl
          refine KW.seq (KW.region ?_)
          refine OW.val rfl rfl (by first | exact EX.lssN (b := 2) rfl rfl | exact EX.lssZ rfl rfl) ?_
          refine OW.nil ?_
          refine KW.seq ?_
          refine KW.condD rfl (fun hlt => ?_) (fun hlt => ?_)
          · have hnk : (if 0 < k + 1 ∧ hasS D 0 then 5 else 0) + (if 1 < k + 1 ∧ hasS D 1 then 5 else 0) = n + (if hasS D k then 5 else 0) := by
              rcases (show k = 0 ∨ k = 1 by omega) with rfl | rfl
              · rw [hn]; simp
              · rw [hn]; simp
            refine KW.skip (KW.seq (KW.block (KW.seq (KW.region ?_))))
            refine OW.val rfl rfl (EX.move rfl) ?_
            refine OW.val rfl rfl (EX.assign rfl) ?_
            refine OW.nil ?_
            refine KW.seq (KW.seq (KW.region ?_))
            refine OW.val rfl rfl (EX.move rfl) ?_
            refine OW.call rfl rfl rfl (len_d hvr.at_ hro) ?_
            rintro _ _ ⟨rfl, rfl⟩
            refine OW.val rfl rfl (EX.move rfl) ?_
            refine OW.val rfl rfl (by first | exact EX.addN (b := 1) (m := 9223372036854775807) rfl rfl rfl (by omega) | exact EX.addZ (m := 9223372036854775807) rfl rfl rfl rfl (by omega)) ?_
            refine OW.val rfl rfl (by first | exact EX.mulN (b := 5) (m := 9223372036854775807) rfl rfl rfl (by omega) | exact EX.mulZ (m := 9223372036854775807) rfl rfl rfl rfl (by omega)) ?_
            refine OW.val rfl rfl (by first | exact EX.lssN rfl rfl | exact EX.lssZ rfl rfl) ?_
            refine OW.nil ?_
            refine KW.condD rfl (fun hfew => ?_) (fun hfew => ?_)
            · have hno : ¬ hasS D k := fun q => by unfold hasS at q; rw [hnw] at hfew; omega
              refine KW.exit rfl (KW.region ?_)
              refine OW.val rfl rfl (by first | exact EX.addN (b := 1) (m := 9223372036854775807) rfl rfl rfl (by omega) | exact EX.addZ (m := 9223372036854775807) rfl rfl rfl rfl (by omega)) ?_
              refine OW.val rfl rfl (EX.move rfl) ?_
              refine OW.nil ?_
              refine KW.back3 (k + 1) (n) (wr) ⟨rfl, rfl, rfl, trivial⟩ rfl ?_ (by omega)
              refine ⟨by omega, ?_, hvr, htr, hsix.skip hno⟩
              rw [hnk, if_neg hno, Nat.add_zero]
            · have hyes : hasS D k := by rw [hnw] at hfew; unfold hasS; omega
              have hyes2 := hyes
              unfold hasS at hyes2
              refine KW.skip (KW.seq (KW.region ?_))
              refine OW.val rfl rfl (EX.assign rfl) ?_
              refine OW.nil ?_
              refine KW.seq (KW.seq (KW.region ?_))
              refine OW.val rfl rfl (EX.move rfl) ?_
              refine OW.nil ?_
              refine KW.cut2 (fun (v : Value) (wq : World) => Own wq wr.heap.size 9 1 v 5 (txtsV (slotSs D k)) ∧ Dev wq B b (readsC D (n + 5)) vk vn vp vq vs ∧ Mo wr wq [b]) (fun (v : Value) (wq : World) => [(0, .pointer (some ⟨b, 0, none⟩)), (5, .pointer (some ⟨sb, 0, none⟩)), (6, .int .i64 ((k : Nat) : Int)), (7, v), (21, .int .i64 ((k : Nat) : Int))]) (fun (v : Value) (wq : World) => wq) ?_ ?_
              · refine KW.block ?_
                refine KW.loop3 (fun (i : Nat) (v : Value) (wq : World) => i ≤ 5 ∧ Own wq wr.heap.size 9 1 v i (txtsV ((slotSs D k).take i)) ∧ Dev wq B b (readsC D (n + i)) vk vn vp vq vs ∧ Mo wr wq [b]) (fun (i : Nat) (v : Value) (wq : World) => [(0, .pointer (some ⟨b, 0, none⟩)), (5, .pointer (some ⟨sb, 0, none⟩)), (6, .int .i64 ((k : Nat) : Int)), (7, v), (21, .int .i64 ((k : Nat) : Int)), (30, .int .i64 ((i : Nat) : Int))]) (fun (i : Nat) (v : Value) (wq : World) => wq) (fun (i : Nat) (v : Value) (wq : World) => 5 - i) (0) (.slice none 0 0) (wr) ⟨rfl, rfl, rfl, rfl, rfl, rfl, trivial⟩ rfl ?_ ?_
                · exact ⟨Nat.zero_le _, Own.nil _ _ _ _, hvr, Mo.refl _ _⟩
                · rintro i v wq ⟨hi, hown, hvq, hmq⟩
                  refine KW.seq (KW.region ?_)
                  refine OW.val rfl rfl (by first | exact EX.lssN (b := 5) rfl rfl | exact EX.lssZ rfl rfl) ?_
                  refine OW.nil ?_
                  refine KW.seq ?_
                  refine KW.condD rfl (fun hli => ?_) (fun hli => ?_)
                  · have cr := readv_d hvq (reads_ok hD _) ((reads_sm hsm (n + i)).small (by omega)) hd (j := k * 5 + i) (by show _ < D.now.length / 512; omega)
                    refine KW.skip (KW.seq (KW.block (KW.seq (KW.region ?_))))
                    refine OW.val rfl rfl (EX.move rfl) ?_
                    refine OW.val rfl rfl (EX.assign rfl) ?_
                    refine OW.nil ?_
                    refine KW.seq (KW.region ?_)
                    refine OW.val rfl rfl (EX.move rfl) ?_
                    refine OW.val rfl rfl (EX.move rfl) ?_
                    refine OW.val rfl rfl (by first | exact EX.mulN (b := 5) (m := 9223372036854775807) rfl rfl rfl (by omega) | exact EX.mulZ (m := 9223372036854775807) rfl rfl rfl rfl (by omega)) ?_
                    refine OW.val rfl rfl (EX.move rfl) ?_
                    refine OW.val rfl rfl (by first | exact EX.addN (m := 9223372036854775807) rfl rfl rfl (by omega) | exact EX.addZ (m := 9223372036854775807) rfl rfl rfl rfl (by omega)) ?_
                    refine OW.call rfl rfl rfl (cr) ?_
                    rintro _ w5 ⟨rfl, hv5, hm5⟩
                    refine OW.val rfl rfl (EX.move rfl) ?_
                    refine OW.val rfl rfl (EX.extract rfl rfl) ?_
                    refine OW.val rfl rfl (EX.extract rfl rfl) ?_
                    refine OW.val rfl rfl (EX.assign rfl) ?_
                    refine OW.val rfl rfl (EX.assign rfl) ?_
                    refine OW.nil ?_
                    refine KW.region ?_
                    refine OW.val rfl rfl (EX.move rfl) ?_
                    refine OW.val rfl rfl (EX.move rfl) ?_
                    have hown5 := hown.mo hm5 (fun q hq => by simp; exact fun z => hown.ne hvq.cells (by decide) q hq z.symm)
                    have hm5r := hmq.trans hm5
                    refine OW.pushB (wr.heap.size) rfl rfl (fun _ => rfl) rfl Tryz.underlying24 ti9 rfl rfl (fun _ => rfl) (by first | rfl | assumption | exact Own.one (by assumption)) (hm5r.size) (hown5) (by simp only [maxLen]; omega) (by omega) ?_
                    rintro _ v6 w6 hown6 hmo6 hblk6
                    refine OW.val rfl rfl (EX.assign rfl) ?_
                    refine OW.nil ?_
                    refine KW.leave (KW.region ?_)
                    refine OW.val rfl rfl (by first | exact EX.addN (b := 1) (m := 9223372036854775807) rfl rfl rfl (by omega) | exact EX.addZ (m := 9223372036854775807) rfl rfl rfl rfl (by omega)) ?_
                    refine OW.val rfl rfl (EX.move rfl) ?_
                    refine OW.nil ?_
                    refine KW.back3 (i + 1) (v6) (w6) ⟨rfl, rfl, rfl, rfl, rfl, rfl, trivial⟩ rfl ?_ (by omega)
                    have hm6 : Mo wr w6 [b] := Mo.fresh (S := [b] ++ v.ownBlock.toList) ((hm5r.mono (by simp)).trans (hmo6.mono (by simp; exact fun q hq => .inr hq))) (fun q hq hlt => by
                      rcases List.mem_append.1 hq with z | z
                      · exact z
                      · have := (hown5.lt q (Option.mem_toList.1 z)).1
                        omega)
                    refine ⟨by omega, by rw [slotSs_take (by omega)]; exact hown6, ?_, hm6⟩
                    have hv6 := hv5.mo hmo6 (fun q hq => by
                      obtain ⟨_, l, hbq⟩ := hown5.blkT q (Option.mem_toList.1 hq)
                      exact ⟨_, l, hbq, by decide, by decide, by decide, by decide⟩) (hvr.chs.tm (hvr.tmB hm6) rfl rfl)
                    rw [reads_reads] at hv6
                    exact hv6
                  · obtain rfl : i = 5 := by omega
                    rw [List.take_of_length_le (by rw [slotSs_len]; exact Nat.le_refl _)] at hown
                    refine KW.exit rfl ?_
                    refine KW.meet2 (v) (wq) ⟨rfl, rfl, rfl, rfl, rfl, trivial⟩ rfl ?_
                    exact ⟨hown, hvq, hmq⟩
              · rintro v wq ⟨hown, hvq, hmq⟩
                obtain ⟨A5, c5, rfl, _, hsl5⟩ := hown.slice
                have htq : Tm w wq B dty := htr.trans (hvr.tmB hmq)
                have hGq := mlen_tm hG htq hgl
                have hl5 := slotSs_len D k
                have cd := decode23_s (slotSs D k) (by omega) A5 c5 _ wq hGq hsl5
                rw [hl5] at cd
                have hdl := dec_low (ss := slotSs D k)
                have hdf := (dec_fine (slotSs D k)).resolve_right (by omega)
                have hright : ∀ r : Bool, (r = true ↔ ((decC (slotSs D k)).2.2 = 0 ∧ (decC (slotSs D k)).1 % 2 = (k : Int) ∧ OkC (decC (slotSs D k)).2.1 D.cap)) → (r = true ↔ Right D k) := fun r q => q.trans ⟨fun z => ⟨hyes, z.1, z.2.1, z.2.2⟩, fun z => ⟨z.dec, z.par, z.chk⟩⟩
                have hsixq : SixI wq w.heap.size sb D k := hsix.keep (fun ho => (hvr.tmB hmq).own ho (by decide)) (fun hb => (hvr.tmB hmq).bk hb (by decide))
                have hSl : ∀ (w' : World) (v : Value) (r : Bool), (r = true ↔ Right D k) → Own w' w.heap.size 70 5 v (decC (slotSs D k)).2.1.length (memsV (decC (slotSs D k)).2.1) → One w' w.heap.size D k (k + 1) (decC (slotSs D k)).1 v r := fun w' v r h1 h2 => ⟨Own.one h2, fun _ => ⟨h1, fun _ => rfl, fun _ => h2⟩, fun q => by omega⟩
                generalize hgen : (decC (slotSs D k)).1 = gg at cd hdl hright hSl
                generalize hmem : (decC (slotSs D k)).2.1 = ll at cd hdf hright hSl
                generalize (decC (slotSs D k)).2.2 = ee at cd hdl hright
                refine KW.seq (KW.region ?_)
                refine OW.val rfl rfl (EX.move rfl) ?_
                refine OW.call rfl rfl rfl (cd) ?_
                rintro _ w7 ⟨⟨u7, rfl, hown7⟩, hx7⟩
                refine OW.val rfl rfl (EX.move rfl) ?_
                refine OW.val rfl rfl (EX.extract rfl rfl) ?_
                refine OW.val rfl rfl (EX.extract rfl rfl) ?_
                refine OW.val rfl rfl (EX.extract rfl rfl) ?_
                refine OW.val rfl rfl (EX.assign rfl) ?_
                refine OW.val rfl rfl (EX.assign rfl) ?_
                refine OW.val rfl rfl (EX.assign rfl) ?_
                refine OW.nil ?_
                have hsix7 : SixI w7 w.heap.size sb D k := hsixq.keep (fun ho => ho.ext hx7) (fun hb => hb.ext hx7)
                have hv7 := hvq.ext hx7
                have ht7 : Tm w w7 B dty := htq.trans (Tm.of_ext hx7 _ _)
                have hwq := htq.size
                have hown7' : Own w7 w.heap.size 70 5 u7 ll.length (memsV ll) := hown7.more hwq
                obtain ⟨A7, c7, rfl, _, hsl7⟩ := hown7.slice
                obtain ⟨g0, v0, r0, g1, v1, r1, hb6, ho0, ho1⟩ := hsix7
                have fin : ∀ (r : Bool) (wx wz : World), (r = true ↔ Right D k) → Ext w7 wx → Bk wz sb 119 ([.int .i64 g0, v0, .bool r0, .int .i64 g1, v1, .bool r1].take (0 + k * 3) ++ [.int .i64 gg, .slice A7 ll.length c7, .bool r] ++ [.int .i64 g0, v0, .bool r0, .int .i64 g1, v1, .bool r1].drop (0 + k * 3 + 3)) → Mo wx wz [sb] → (k + 1 ≤ 2 ∧ n + 5 = (if 0 < k + 1 ∧ hasS D 0 then 5 else 0) + (if 1 < k + 1 ∧ hasS D 1 then 5 else 0) ∧ Dev wz B b (readsC D (n + 5)) vk vn vp vq vs ∧ Tm w wz B dty ∧ SixI wz w.heap.size sb D (k + 1)) := fun r wx wz q hx hb hm => by
                  have hvx := hv7.ext hx
                  have hbx := hb6.ext hx
                  refine ⟨by omega, by rw [hnk, if_pos hyes], hvx.mo hm (fun z hz => ?_) (hvx.chs.tm (Tm.set hbx hm hBs) rfl rfl), (ht7.trans (Tm.of_ext hx _ _)).fresh hm (fun z hz => ?_), slot_put (by omega) hbx (ho0.keep (fun ho => ho.ext hx)) (ho1.keep (fun ho => ho.ext hx)) (hSl wx _ r q (hown7'.ext hx)) hm hb⟩
                  · simp only [List.mem_singleton] at hz
                    subst hz
                    exact ⟨_, _, hbx, by decide, by decide, by decide, by decide⟩
                  · simp only [List.mem_singleton] at hz
                    omega
                refine KW.region ?_
                refine OW.val rfl rfl (EX.move rfl) ?_
                refine OW.val rfl rfl (EX.move rfl) ?_
                refine OW.val rfl rfl (EX.move rfl) ?_
                refine OW.val rfl rfl (EX.move rfl) ?_
                refine OW.val rfl rfl (by first | exact EX.eqlN (b := 0) rfl rfl | exact EX.eqlZ rfl rfl) ?_
                refine OW.val rfl rfl (EX.move rfl) ?_
                refine OW.splitD 58 rfl (fun he => ?_) (fun he => ?_)
                · obtain rfl : ee = 0 := by omega
                  obtain ⟨gN, rfl⟩ := Int.eq_ofNat_of_zero_le (hdl rfl)
                  refine OW.val rfl rfl (EX.move rfl) ?_
                  refine OW.val rfl rfl (by first | exact EX.remN (b := 2) rfl rfl (by omega) | exact EX.remZ rfl rfl (by decide)) ?_
                  refine OW.val rfl rfl (EX.move rfl) ?_
                  refine OW.val rfl rfl (by first | exact EX.eqlN rfl rfl | exact EX.eqlZ rfl rfl) ?_
                  refine OW.val rfl rfl (EX.pickT rfl rfl) ?_
                  refine OW.val rfl rfl (EX.move rfl) ?_
                  refine OW.splitD 64 rfl (fun hp => ?_) (fun hp => ?_)
                  · refine OW.val rfl rfl (EX.move rfl) ?_
                    refine OW.val rfl rfl (EX.move rfl) ?_
                    refine OW.call rfl rfl rfl (capacity_d hv7.at_ (reads_ok hD _)) ?_
                    rintro _ _ ⟨rfl, rfl⟩
                    refine OW.call rfl rfl rfl (chk_s ll hdf.1 (by omega) D.cap A7 c7 _ w7 (mlen_tm hG ht7 hgl) hsl7) ?_
                    rintro _ w8 ⟨rfl, hx8⟩
                    refine OW.val rfl rfl (by first | exact EX.eqlN (b := 0) rfl rfl | exact EX.eqlZ rfl rfl) ?_
                    refine OW.val rfl rfl (EX.pickT rfl rfl) ?_
                    refine OW.val rfl rfl (EX.buildS (pl := [(0, 1), (1, 1), (2, 1)]) (ks := [0, 1, 2]) (is := [0, 1, 2]) (zs := [.int .i64 0, .slice none 0 0, .bool false]) Tryz.underlying118 ti118 (by kernel_rfl) rfl rfl rfl (by first | rfl | (simp only [List.all_cons, List.all_nil, Bool.and_true, Bool.true_and, Bool.and_eq_true, Value.oneCell']; repeat (first | assumption | exact Own.one (by assumption) | constructor))) (by simp only [setAll, List.set_cons_zero, List.set_cons_succ]; rfl)) ?_
                    refine OW.val rfl rfl (EX.indexAddrA Tryz.underlying119 ti118 rfl rfl (by omega)) ?_
                    refine OW.storeS rfl ti118 rfl rfl rfl (by first | rfl | (simp only [List.all_cons, List.all_nil, Bool.and_true, Bool.true_and, Bool.and_eq_true, Value.oneCell']; repeat (first | assumption | exact Own.one (by assumption) | constructor))) ((hb6.ext hx8)) (by simp; omega) ?_
                    rintro w9 hb9 hm9
                    refine OW.nil ?_
                    refine KW.leave (KW.region ?_)
                    refine OW.val rfl rfl (by first | exact EX.addN (b := 1) (m := 9223372036854775807) rfl rfl rfl (by omega) | exact EX.addZ (m := 9223372036854775807) rfl rfl rfl rfl (by omega)) ?_
                    refine OW.val rfl rfl (EX.move rfl) ?_
                    refine OW.nil ?_
                    refine KW.back3 (k + 1) (n + 5) (w9) ⟨rfl, rfl, rfl, trivial⟩ rfl ?_ (by omega)
                    refine fin _ w8 w9 ?_ hx8 hb9 hm9
                    apply hright
                    have e9 : (chkC ll (D.cap : Int) = 0) ↔ OkC ll (D.cap : Int) := ⟨fun z => Classical.byContradiction fun y => (by rw [chkC_no y] at z; cases z), fun z => chkC_ok z⟩
                    simp only [decide_eq_true_eq]
                    refine Iff.intro (fun z => And.intro ?_ (And.intro ?_ (e9.1 z))) (fun z => e9.2 z.2.2)
                    · first | trivial | rfl
                    · omega
                  · refine OW.pass rfl rfl ?_
                    refine OW.pass rfl rfl ?_
                    refine OW.pass rfl rfl ?_
                    refine OW.pass rfl rfl ?_
                    refine OW.pass rfl rfl ?_
                    refine OW.val rfl rfl (EX.pickF rfl rfl) ?_
                    refine OW.val rfl rfl (EX.buildS (pl := [(0, 1), (1, 1), (2, 1)]) (ks := [0, 1, 2]) (is := [0, 1, 2]) (zs := [.int .i64 0, .slice none 0 0, .bool false]) Tryz.underlying118 ti118 (by kernel_rfl) rfl rfl rfl (by first | rfl | (simp only [List.all_cons, List.all_nil, Bool.and_true, Bool.true_and, Bool.and_eq_true, Value.oneCell']; repeat (first | assumption | exact Own.one (by assumption) | constructor))) (by simp only [setAll, List.set_cons_zero, List.set_cons_succ]; rfl)) ?_
                    refine OW.val rfl rfl (EX.indexAddrA Tryz.underlying119 ti118 rfl rfl (by omega)) ?_
                    refine OW.storeS rfl ti118 rfl rfl rfl (by first | rfl | (simp only [List.all_cons, List.all_nil, Bool.and_true, Bool.true_and, Bool.and_eq_true, Value.oneCell']; repeat (first | assumption | exact Own.one (by assumption) | constructor))) (hb6) (by simp; omega) ?_
                    rintro w9 hb9 hm9
                    refine OW.nil ?_
                    refine KW.leave (KW.region ?_)
                    refine OW.val rfl rfl (by first | exact EX.addN (b := 1) (m := 9223372036854775807) rfl rfl rfl (by omega) | exact EX.addZ (m := 9223372036854775807) rfl rfl rfl rfl (by omega)) ?_
                    refine OW.val rfl rfl (EX.move rfl) ?_
                    refine OW.nil ?_
                    refine KW.back3 (k + 1) (n + 5) (w9) ⟨rfl, rfl, rfl, trivial⟩ rfl ?_ (by omega)
                    refine fin _ w7 w9 ?_ (Ext.refl _) hb9 hm9
                    apply hright
                    simp only [Bool.false_eq_true, false_iff]
                    exact fun z => absurd z.2.1 (by omega)
                · refine OW.pass rfl rfl ?_
                  refine OW.pass rfl rfl ?_
                  refine OW.pass rfl rfl ?_
                  refine OW.pass rfl rfl ?_
                  refine OW.val rfl rfl (EX.pickF rfl rfl) ?_
                  refine OW.val rfl rfl (EX.move rfl) ?_
                  refine OW.pass rfl rfl ?_
                  refine OW.pass rfl rfl ?_
                  refine OW.pass rfl rfl ?_
                  refine OW.pass rfl rfl ?_
                  refine OW.pass rfl rfl ?_
                  refine OW.val rfl rfl (EX.pickF rfl rfl) ?_
                  refine OW.val rfl rfl (EX.buildS (pl := [(0, 1), (1, 1), (2, 1)]) (ks := [0, 1, 2]) (is := [0, 1, 2]) (zs := [.int .i64 0, .slice none 0 0, .bool false]) Tryz.underlying118 ti118 (by kernel_rfl) rfl rfl rfl (by first | rfl | (simp only [List.all_cons, List.all_nil, Bool.and_true, Bool.true_and, Bool.and_eq_true, Value.oneCell']; repeat (first | assumption | exact Own.one (by assumption) | constructor))) (by simp only [setAll, List.set_cons_zero, List.set_cons_succ]; rfl)) ?_
                  refine OW.val rfl rfl (EX.indexAddrA Tryz.underlying119 ti118 rfl rfl (by omega)) ?_
                  refine OW.storeS rfl ti118 rfl rfl rfl (by first | rfl | (simp only [List.all_cons, List.all_nil, Bool.and_true, Bool.true_and, Bool.and_eq_true, Value.oneCell']; repeat (first | assumption | exact Own.one (by assumption) | constructor))) (hb6) (by simp; omega) ?_
                  rintro w9 hb9 hm9
                  refine OW.nil ?_
                  refine KW.leave (KW.region ?_)
                  refine OW.val rfl rfl (by first | exact EX.addN (b := 1) (m := 9223372036854775807) rfl rfl rfl (by omega) | exact EX.addZ (m := 9223372036854775807) rfl rfl rfl rfl (by omega)) ?_
                  refine OW.val rfl rfl (EX.move rfl) ?_
                  refine OW.nil ?_
                  refine KW.back3 (k + 1) (n + 5) (w9) ⟨rfl, rfl, rfl, trivial⟩ rfl ?_ (by omega)
                  refine fin _ w7 w9 ?_ (Ext.refl _) hb9 hm9
                  apply hright
                  simp only [Bool.false_eq_true, false_iff]
                  exact fun z => absurd z.1 (by omega)
          · obtain rfl : k = 2 := by omega
            refine KW.exit rfl ?_
            refine KW.meet1 (wr) ⟨rfl, trivial⟩ rfl ?_
            refine ⟨?_, htr, hsix⟩
            have : n = nreads D := by rw [hn]; unfold nreads; simp
            rw [← this]
            exact hvr
      · rintro wr ⟨hvr, htr, hsix⟩
        obtain ⟨g0, v0, r0, g1, v1, r1, hb6, ho0, ho1⟩ := hsix
        have hs0 := ho0.2.1 (by decide)
        have hs1 := ho1.2.1 (by decide)
        have hc0 := ho0.1
        have hc1 := ho1.1
        refine KW.seq ?_
        refine KW.cut3 (fun (wz : World) (a : Nat) (c : Nat) => Ext wr wz ∧ Bk wz a 118 [.int .i64 g0, v0, .bool r0] ∧ Bk wz c 118 [.int .i64 g1, v1, .bool r1]) (fun (wz : World) (a : Nat) (c : Nat) => [(14, .pointer (some ⟨a, 0, none⟩)), (15, .pointer (some ⟨c, 0, none⟩))]) (fun (wz : World) (a : Nat) (c : Nat) => wz) ?_ ?_
        · have hdr : wr.drew.heap.size = wr.heap.size := rfl
          have hb6d : Bk wr.drew sb 119 [.int .i64 g0, v0, .bool r0, .int .i64 g1, v1, .bool r1] := hb6.ext (Ext.drew wr)
          refine KW.regionG (N := 8) (fun w' => Bk w' sb 119 [.int .i64 g0, v0, .bool r0, .int .i64 g1, v1, .bool r1]) (by kernel_rfl) rfl ?_
          have hS := hb6d
          refine GW.val 0 rfl (by kernel_rfl) (by kernel_rfl) (by kernel_rfl) rfl rfl hS (fun w' hS' => EX.indexAddrA (i := 0) Tryz.underlying119 ti118 rfl rfl (by omega)) ?_
          refine GW.val 1 rfl (by kernel_rfl) (by kernel_rfl) (by kernel_rfl) rfl rfl hS (fun w' hS' => EX.loadA (l := [.int .i64 g0, v0, .bool r0]) Tryz.underlying118 rfl ti118 rfl rfl (bk_part hS' (o := 0) (l2 := [.int .i64 g0, v0, .bool r0]) rfl)) ?_
          refine GW.val 2 rfl (by kernel_rfl) (by kernel_rfl) (by kernel_rfl) rfl rfl hS (fun w' hS' => EX.indexAddrA (i := 1) Tryz.underlying119 ti118 rfl rfl (by omega)) ?_
          refine GW.val 3 rfl (by kernel_rfl) (by kernel_rfl) (by kernel_rfl) rfl rfl hS (fun w' hS' => EX.loadA (l := [.int .i64 g1, v1, .bool r1]) Tryz.underlying118 rfl ti118 rfl rfl (bk_part hS' (o := 3) (l2 := [.int .i64 g1, v1, .bool r1]) rfl)) ?_
          refine GW.two 4 5 (by kernel_rfl) ?_ ?_
          · refine GO.allocB (l := [.int .i64 0, .slice none 0 0, .bool false]) 4 rfl rfl rfl ti118 rfl ?_
            rintro ba x1 hg1 hn1 hx1
            refine ⟨hS.ext hx1, fun hS => ?_⟩
            refine GW.allocB (l := [.int .i64 0, .slice none 0 0, .bool false]) 5 rfl (by kernel_rfl) rfl rfl ti118 rfl ?_
            rintro bc x2 hg2 hn2 hx2
            refine ⟨hS.ext hx2, fun hS => ?_⟩
            have hne2 : ba ≠ bc := by have := hn1.lt; omega
            have ha2 := hn1.ext hx2
            have hz1 := hx1.size
            have hz2 := hx2.size
            refine GW.storeS 6 rfl (by kernel_rfl) rfl ti118 rfl rfl rfl (by first | rfl | (simp only [List.all_cons, List.all_nil, Bool.and_true, Bool.true_and, Bool.and_eq_true, Value.oneCell']; repeat (first | assumption | exact Own.one (by assumption) | constructor))) (ha2) (by simp) ?_
            rintro x3 hn3 hm3
            refine ⟨hS.mo hm3 (by simp; exact hS.ne ha2 (by decide)), fun hS => ?_⟩
            have hc3 := hn2.mo hm3 (by simp; exact fun z => hne2 z.symm)
            have hz3 := hm3.size
            refine GW.storeS 7 rfl (by kernel_rfl) rfl ti118 rfl rfl rfl (by first | rfl | (simp only [List.all_cons, List.all_nil, Bool.and_true, Bool.true_and, Bool.and_eq_true, Value.oneCell']; repeat (first | assumption | exact Own.one (by assumption) | constructor))) (hc3) (by simp) ?_
            rintro x4 hn4 hm4
            refine ⟨hS.mo hm4 (by simp; exact hS.ne hc3 (by decide)), fun hS => ?_⟩
            refine GW.done (by kernel_rfl) ?_
            have hz4 := hm4.size
            refine KW.meet3 (x4) (ba) (bc) ⟨rfl, rfl, trivial⟩ rfl ?_
            have hmo : Mo wr x4 [ba, bc] := (((((Mo.of_ext (Ext.drew wr) _).trans (Mo.of_ext hx1 _)).trans (Mo.of_ext hx2 _)).trans (hm3.mono (by simp))).trans (hm4.mono (by simp)))
            exact ⟨(Mo.fresh (S' := []) hmo (fun q hq hlt => by simp at hq; rcases hq with rfl | rfl <;> omega)).ext, hn3.mo hm4 (by simp; exact hne2), hn4⟩
          · refine GO.allocB (l := [.int .i64 0, .slice none 0 0, .bool false]) 5 rfl rfl rfl ti118 rfl ?_
            rintro bc x1 hg1 hn1 hx1
            refine ⟨hS.ext hx1, fun hS => ?_⟩
            refine GW.allocB (l := [.int .i64 0, .slice none 0 0, .bool false]) 4 rfl (by kernel_rfl) rfl rfl ti118 rfl ?_
            rintro ba x2 hg2 hn2 hx2
            refine ⟨hS.ext hx2, fun hS => ?_⟩
            have hne2 : ba ≠ bc := by have := hn1.lt; omega
            have hc2 := hn1.ext hx2
            have hz1 := hx1.size
            have hz2 := hx2.size
            refine GW.storeS 6 rfl (by kernel_rfl) rfl ti118 rfl rfl rfl (by first | rfl | (simp only [List.all_cons, List.all_nil, Bool.and_true, Bool.true_and, Bool.and_eq_true, Value.oneCell']; repeat (first | assumption | exact Own.one (by assumption) | constructor))) (hn2) (by simp) ?_
            rintro x3 hn3 hm3
            refine ⟨hS.mo hm3 (by simp; exact hS.ne hn2 (by decide)), fun hS => ?_⟩
            have hc3 := hc2.mo hm3 (by simp; exact fun z => hne2 z.symm)
            have hz3 := hm3.size
            refine GW.storeS 7 rfl (by kernel_rfl) rfl ti118 rfl rfl rfl (by first | rfl | (simp only [List.all_cons, List.all_nil, Bool.and_true, Bool.true_and, Bool.and_eq_true, Value.oneCell']; repeat (first | assumption | exact Own.one (by assumption) | constructor))) (hc3) (by simp) ?_
            rintro x4 hn4 hm4
            refine ⟨hS.mo hm4 (by simp; exact hS.ne hc3 (by decide)), fun hS => ?_⟩
            refine GW.done (by kernel_rfl) ?_
            have hz4 := hm4.size
            refine KW.meet3 (x4) (ba) (bc) ⟨rfl, rfl, trivial⟩ rfl ?_
            have hmo : Mo wr x4 [ba, bc] := (((((Mo.of_ext (Ext.drew wr) _).trans (Mo.of_ext hx1 _)).trans (Mo.of_ext hx2 _)).trans (hm3.mono (by simp))).trans (hm4.mono (by simp)))
            exact ⟨(Mo.fresh (S' := []) hmo (fun q hq hlt => by simp at hq; rcases hq with rfl | rfl <;> omega)).ext, hn3.mo hm4 (by simp; exact hne2), hn4⟩
        · rintro wz a c ⟨hx, ha, hc⟩
          have fin : ∀ w', Ext wr w' → DevAt w' B b (readsC D (nreads D)) ∧ Tm w w' B dty := fun w' q => ⟨hvr.at_.ext q, htr.trans (Tm.of_ext q _ _)⟩
          have s0 : r0 = true → slotC D 0 = some (g0, (decC (slotSs D 0)).2.1) := fun q => by unfold slotC; rw [if_pos (hs0.right.1 q), hs0.gen q]
          have s1 : r1 = true → slotC D 1 = some (g1, (decC (slotSs D 1)).2.1) := fun q => by unfold slotC; rw [if_pos (hs1.right.1 q), hs1.gen q]
          have n0 : r0 = false → slotC D 0 = none := fun q => by unfold slotC; rw [if_neg (fun z => by have := hs0.right.2 z; rw [q] at this; cases this)]
          have n1 : r1 = false → slotC D 1 = none := fun q => by unfold slotC; rw [if_neg (fun z => by have := hs1.right.2 z; rw [q] at this; cases this)]
          have o0 := hs0.own
          have o1 := hs1.own
          rcases Bool.eq_false_or_eq_true r0 with rfl | rfl <;> rcases Bool.eq_false_or_eq_true r1 with rfl | rfl
          · rw [s0 rfl, s1 rfl]
            refine KW.seq (KW.block (KW.seq (KW.region ?_)))
            refine OW.val rfl rfl (EX.fieldAddr (off := 2) Tryz.underlying118 rfl rfl ti4 rfl rfl) ?_
            refine OW.val rfl rfl (EX.load Tryz.underlying4 rfl rfl (ha.cell_of rfl)) ?_
            refine OW.val rfl rfl (EX.move rfl) ?_
            refine OW.val rfl rfl (EX.fieldAddr (off := 2) Tryz.underlying118 rfl rfl ti4 rfl rfl) ?_
            refine OW.val rfl rfl (EX.load Tryz.underlying4 rfl rfl (hc.cell_of rfl)) ?_
            refine OW.val rfl rfl (by first | exact EX.notD rfl | exact EX.notB rfl) ?_
            refine OW.val rfl rfl (EX.move rfl) ?_
            refine OW.val rfl rfl (EX.fieldAddr (off := 0) Tryz.underlying118 rfl rfl ti3 rfl rfl) ?_
            refine OW.val rfl rfl (EX.load Tryz.underlying3 rfl rfl (ha.cell_of rfl)) ?_
            refine OW.val rfl rfl (EX.fieldAddr (off := 0) Tryz.underlying118 rfl rfl ti3 rfl rfl) ?_
            refine OW.val rfl rfl (EX.load Tryz.underlying3 rfl rfl (hc.cell_of rfl)) ?_
            refine OW.val rfl rfl (by first | exact EX.gtrN rfl rfl | exact EX.gtrZ rfl rfl) ?_
            refine OW.val rfl rfl (EX.pickF rfl rfl) ?_
            refine OW.val rfl rfl (EX.pickT rfl rfl) ?_
            refine OW.val rfl rfl (EX.assign rfl) ?_
            refine OW.nil ?_
            refine KW.condD rfl (fun hgt => ?_) (fun hgt => ?_)
            · have e : bestC (some (g0, (decC (slotSs D 0)).2.1)) (some (g1, (decC (slotSs D 1)).2.1)) = (g0, (decC (slotSs D 0)).2.1, 0) := if_pos (show g1 < g0 by omega)
              rw [e]
              refine KW.seq ?_
              refine KW.regionQ (by kernel_rfl) (by kernel_rfl) ?_
              refine QW.val rfl rfl (fun _ => EX.fieldAddr (off := 0) Tryz.underlying118 rfl rfl ti3 rfl rfl) ?_
              refine QW.val rfl rfl (fun _ => EX.load Tryz.underlying3 rfl rfl ((ha.drewN _).cell_of rfl)) ?_
              refine QW.val rfl rfl (fun _ => EX.fieldAddr (off := 1) Tryz.underlying118 rfl rfl ti22 rfl rfl) ?_
              refine QW.val rfl rfl (fun _ => EX.load Tryz.underlying22 rfl rfl ((ha.drewN _).cell_of rfl)) ?_
              refine QW.val rfl rfl (fun _ => EX.assign rfl) ?_
              refine QW.val rfl rfl (fun _ => EX.assign rfl) ?_
              refine QW.val rfl rfl (fun _ => EX.assign rfl) ?_
              refine QW.nil (fun nq => ?_)
              refine KW.ret (ret3 rfl rfl rfl rfl ?_)
              exact ⟨⟨_, rfl, ((o0 rfl).ext hx).ext (Ext.drewN _ _)⟩, fin _ (hx.trans (Ext.drewN _ _))⟩
            · have e : bestC (some (g0, (decC (slotSs D 0)).2.1)) (some (g1, (decC (slotSs D 1)).2.1)) = (g1, (decC (slotSs D 1)).2.1, 0) := if_neg (show ¬ g1 < g0 by omega)
              rw [e]
              refine KW.seq (KW.region ?_)
              refine OW.val rfl rfl (EX.fieldAddr (off := 2) Tryz.underlying118 rfl rfl ti4 rfl rfl) ?_
              refine OW.val rfl rfl (EX.load Tryz.underlying4 rfl rfl (hc.cell_of rfl)) ?_
              refine OW.val rfl rfl (EX.assign rfl) ?_
              refine OW.nil ?_
              refine KW.condT rfl (KW.seq ?_)
              refine KW.regionQ (by kernel_rfl) (by kernel_rfl) ?_
              refine QW.val rfl rfl (fun _ => EX.fieldAddr (off := 0) Tryz.underlying118 rfl rfl ti3 rfl rfl) ?_
              refine QW.val rfl rfl (fun _ => EX.load Tryz.underlying3 rfl rfl ((hc.drewN _).cell_of rfl)) ?_
              refine QW.val rfl rfl (fun _ => EX.fieldAddr (off := 1) Tryz.underlying118 rfl rfl ti22 rfl rfl) ?_
              refine QW.val rfl rfl (fun _ => EX.load Tryz.underlying22 rfl rfl ((hc.drewN _).cell_of rfl)) ?_
              refine QW.val rfl rfl (fun _ => EX.assign rfl) ?_
              refine QW.val rfl rfl (fun _ => EX.assign rfl) ?_
              refine QW.val rfl rfl (fun _ => EX.assign rfl) ?_
              refine QW.nil (fun nq => ?_)
              refine KW.ret (ret3 rfl rfl rfl rfl ?_)
              exact ⟨⟨_, rfl, ((o1 rfl).ext hx).ext (Ext.drewN _ _)⟩, fin _ (hx.trans (Ext.drewN _ _))⟩
          · rw [s0 rfl, n1 rfl]
            refine KW.seq (KW.block (KW.seq (KW.region ?_)))
            refine OW.val rfl rfl (EX.fieldAddr (off := 2) Tryz.underlying118 rfl rfl ti4 rfl rfl) ?_
            refine OW.val rfl rfl (EX.load Tryz.underlying4 rfl rfl (ha.cell_of rfl)) ?_
            refine OW.val rfl rfl (EX.move rfl) ?_
            refine OW.val rfl rfl (EX.fieldAddr (off := 2) Tryz.underlying118 rfl rfl ti4 rfl rfl) ?_
            refine OW.val rfl rfl (EX.load Tryz.underlying4 rfl rfl (hc.cell_of rfl)) ?_
            refine OW.val rfl rfl (by first | exact EX.notD rfl | exact EX.notB rfl) ?_
            refine OW.val rfl rfl (EX.move rfl) ?_
            refine OW.pass rfl rfl ?_
            refine OW.pass rfl rfl ?_
            refine OW.pass rfl rfl ?_
            refine OW.pass rfl rfl ?_
            refine OW.pass rfl rfl ?_
            refine OW.val rfl rfl (EX.pickT rfl rfl) ?_
            refine OW.val rfl rfl (EX.pickT rfl rfl) ?_
            refine OW.val rfl rfl (EX.assign rfl) ?_
            refine OW.nil ?_
            refine KW.condT rfl (KW.seq ?_)
            refine KW.regionQ (by kernel_rfl) (by kernel_rfl) ?_
            refine QW.val rfl rfl (fun _ => EX.fieldAddr (off := 0) Tryz.underlying118 rfl rfl ti3 rfl rfl) ?_
            refine QW.val rfl rfl (fun _ => EX.load Tryz.underlying3 rfl rfl ((ha.drewN _).cell_of rfl)) ?_
            refine QW.val rfl rfl (fun _ => EX.fieldAddr (off := 1) Tryz.underlying118 rfl rfl ti22 rfl rfl) ?_
            refine QW.val rfl rfl (fun _ => EX.load Tryz.underlying22 rfl rfl ((ha.drewN _).cell_of rfl)) ?_
            refine QW.val rfl rfl (fun _ => EX.assign rfl) ?_
            refine QW.val rfl rfl (fun _ => EX.assign rfl) ?_
            refine QW.val rfl rfl (fun _ => EX.assign rfl) ?_
            refine QW.nil (fun nq => ?_)
            refine KW.ret (ret3 rfl rfl rfl rfl ?_)
            exact ⟨⟨_, rfl, ((o0 rfl).ext hx).ext (Ext.drewN _ _)⟩, fin _ (hx.trans (Ext.drewN _ _))⟩
          · rw [n0 rfl, s1 rfl]
            refine KW.seq (KW.block (KW.seq (KW.region ?_)))
            refine OW.val rfl rfl (EX.fieldAddr (off := 2) Tryz.underlying118 rfl rfl ti4 rfl rfl) ?_
            refine OW.val rfl rfl (EX.load Tryz.underlying4 rfl rfl (ha.cell_of rfl)) ?_
            refine OW.val rfl rfl (EX.move rfl) ?_
            refine OW.pass rfl rfl ?_
            refine OW.pass rfl rfl ?_
            refine OW.pass rfl rfl ?_
            refine OW.pass rfl rfl ?_
            refine OW.pass rfl rfl ?_
            refine OW.pass rfl rfl ?_
            refine OW.pass rfl rfl ?_
            refine OW.pass rfl rfl ?_
            refine OW.pass rfl rfl ?_
            refine OW.pass rfl rfl ?_
            refine OW.val rfl rfl (EX.pickF rfl rfl) ?_
            refine OW.val rfl rfl (EX.assign rfl) ?_
            refine OW.nil ?_
            refine KW.condF rfl (KW.seq (KW.region ?_))
            refine OW.val rfl rfl (EX.fieldAddr (off := 2) Tryz.underlying118 rfl rfl ti4 rfl rfl) ?_
            refine OW.val rfl rfl (EX.load Tryz.underlying4 rfl rfl (hc.cell_of rfl)) ?_
            refine OW.val rfl rfl (EX.assign rfl) ?_
            refine OW.nil ?_
            refine KW.condT rfl (KW.seq ?_)
            refine KW.regionQ (by kernel_rfl) (by kernel_rfl) ?_
            refine QW.val rfl rfl (fun _ => EX.fieldAddr (off := 0) Tryz.underlying118 rfl rfl ti3 rfl rfl) ?_
            refine QW.val rfl rfl (fun _ => EX.load Tryz.underlying3 rfl rfl ((hc.drewN _).cell_of rfl)) ?_
            refine QW.val rfl rfl (fun _ => EX.fieldAddr (off := 1) Tryz.underlying118 rfl rfl ti22 rfl rfl) ?_
            refine QW.val rfl rfl (fun _ => EX.load Tryz.underlying22 rfl rfl ((hc.drewN _).cell_of rfl)) ?_
            refine QW.val rfl rfl (fun _ => EX.assign rfl) ?_
            refine QW.val rfl rfl (fun _ => EX.assign rfl) ?_
            refine QW.val rfl rfl (fun _ => EX.assign rfl) ?_
            refine QW.nil (fun nq => ?_)
            refine KW.ret (ret3 rfl rfl rfl rfl ?_)
            exact ⟨⟨_, rfl, ((o1 rfl).ext hx).ext (Ext.drewN _ _)⟩, fin _ (hx.trans (Ext.drewN _ _))⟩
          · rw [n0 rfl, n1 rfl]
            refine KW.seq (KW.block (KW.seq (KW.region ?_)))
            refine OW.val rfl rfl (EX.fieldAddr (off := 2) Tryz.underlying118 rfl rfl ti4 rfl rfl) ?_
            refine OW.val rfl rfl (EX.load Tryz.underlying4 rfl rfl (ha.cell_of rfl)) ?_
            refine OW.val rfl rfl (EX.move rfl) ?_
            refine OW.pass rfl rfl ?_
            refine OW.pass rfl rfl ?_
            refine OW.pass rfl rfl ?_
            refine OW.pass rfl rfl ?_
            refine OW.pass rfl rfl ?_
            refine OW.pass rfl rfl ?_
            refine OW.pass rfl rfl ?_
            refine OW.pass rfl rfl ?_
            refine OW.pass rfl rfl ?_
            refine OW.pass rfl rfl ?_
            refine OW.val rfl rfl (EX.pickF rfl rfl) ?_
            refine OW.val rfl rfl (EX.assign rfl) ?_
            refine OW.nil ?_
            refine KW.condF rfl (KW.seq (KW.region ?_))
            refine OW.val rfl rfl (EX.fieldAddr (off := 2) Tryz.underlying118 rfl rfl ti4 rfl rfl) ?_
            refine OW.val rfl rfl (EX.load Tryz.underlying4 rfl rfl (hc.cell_of rfl)) ?_
            refine OW.val rfl rfl (EX.assign rfl) ?_
            refine OW.nil ?_
            refine KW.condF rfl (KW.skip (KW.leave (KW.seq (KW.region ?_))))
            refine OW.val rfl rfl (EX.assign rfl) ?_
            refine OW.val rfl rfl (EX.assign rfl) ?_
            refine OW.val rfl rfl (EX.assign rfl) ?_
            refine OW.nil ?_
            refine KW.ret (ret3 rfl rfl rfl rfl ?_)
            exact ⟨⟨_, rfl, Own.nil _ _ _ _⟩, fin _ hx⟩
end Go.Proofs.YthgfdpcpbghkpaaGreatDoor
namespace Go.Proofs.YthgfdpcpbghkpaaGreatDoor.Wal
open Go.RowKit Rec Pth Dsk
def chs : Nat → List By → List Ch
  | _, [] => []
  | i, t :: T => .write i t :: chs (i + 1) T
def apAll : Nat → List By → By → By
  | _, [], s => s
  | i, t :: T, s => apAll (i + 1) T ((Ch.write i t).ap s)
theorem mod_write {s t : By} {i : Nat} (ht : t.length = 512) (hm : s.length % 512 = 0) : ((Ch.write i t).ap s).length % 512 = 0 := by
  rw [len_write ht hm]
  omega
theorem apAll_len : ∀ (T : List By) (i : Nat) (s : By), (∀ t ∈ T, t.length = 512) → s.length % 512 = 0 → (apAll i T s).length = if T = [] then s.length else max s.length ((i + T.length) * 512)
  | [], i, s, _, _ => rfl
  | t :: T, i, s, hT, hm => by
    have ht := hT t (by simp)
    rw [apAll, apAll_len T (i + 1) _ (fun x hx => hT x (by simp [hx])) (mod_write ht hm), len_write ht hm, if_neg (List.cons_ne_nil _ _), List.length_cons]
    split
    · rename_i e
      subst e
      rfl
    · omega
theorem apAll_sec : ∀ (T : List By) (i : Nat) (s : By), (∀ t ∈ T, t.length = 512) → s.length % 512 = 0 → ∀ j, (i ≤ j ∧ j < i + T.length) ∨ j < s.length / 512 → sec (apAll i T s) j = if i ≤ j ∧ j < i + T.length then T.getD (j - i) [] else sec s j
  | [], i, s, _, _, j, _ => by
    rw [apAll, if_neg (by simp only [List.length_nil]; omega)]
  | t :: T, i, s, hT, hm, j, hj => by
    have ht := hT t (by simp)
    have hlen := len_write (i := i) ht hm
    simp only [List.length_cons] at hj ⊢
    rw [apAll, apAll_sec T (i + 1) _ (fun x hx => hT x (by simp [hx])) (mod_write ht hm) j (by rw [hlen]; omega)]
    by_cases h1 : i + 1 ≤ j ∧ j < i + 1 + T.length
    · rw [if_pos h1, if_pos (by omega), show j - i = (j - (i + 1)) + 1 by omega]
      rfl
    · rw [if_neg h1, sec_write hm ht (by omega)]
      by_cases h2 : j = i
      · subst h2
        rw [if_pos rfl, if_pos (by omega), Nat.sub_self]
        rfl
      · rw [if_neg h2, if_neg (by omega)]
theorem write_live {D : Dv} (h1 : D.dead = false) (h2 : D.at_ ≠ 1) {i : Nat} (hi : i < D.cap) {t : By} (ht : t.length = 512) :
    D.write (i : Int) t = ({ D with pend := D.pend ++ [.write i t], now := (Ch.write i t).ap D.now, at_ := D.at_ - 1, calls := D.calls + 1 }, 0) := by
  unfold Dv.write
  rw [if_neg (by rw [h1]; decide), if_neg (by omega), if_neg (by omega), does_go (by exact h2)]
  rfl
theorem writes_live : ∀ (T : List By) (D : Dv) (i : Nat), D.dead = false → (D.at_ = 0 ∨ T.length < D.at_) → (∀ t ∈ T, t.length = 512) → i + T.length ≤ D.cap →
    writes D i T = ({ D with pend := D.pend ++ chs i T, now := apAll i T D.now, at_ := D.at_ - T.length, calls := D.calls + T.length }, 0)
  | [], D, i, _, _, _, _ => by
    obtain ⟨a, b, c, d, e, f, g, h⟩ := D
    simp [writes, chs, apAll]
  | t :: T, D, i, h1, h2, hT, hi => by
    simp only [List.length_cons] at hi h2
    have ih := writes_live T { D with pend := D.pend ++ [.write i t], now := (Ch.write i t).ap D.now, at_ := D.at_ - 1, calls := D.calls + 1 } (i + 1) h1 (by simp only; omega) (fun x hx => hT x (by simp [hx])) (by simp only; omega)
    rw [writes_cons, write_live h1 (by omega) (by omega) (hT t (by simp)), if_pos rfl]
    simp only
    rw [ih]
    simp only [chs, apAll, List.append_assoc, List.cons_append, List.nil_append, List.length_cons]
    congr 2
    · omega
    · omega
structure Quiet (D : Dv) (rd : Nat → By) (n : Nat) : Prop where
  ok : D.Ok
  cap : D.cap = 40
  dead : D.dead = false
  at_ : D.at_ = 0
  pend : D.pend = []
  kept : D.kept = D.now
  len : D.now.length = if n = 0 then 0 else (10 + n) * 512
  rd : ∀ k, k < n → sec D.now (10 + k) = rd k
  le : n ≤ 20
theorem Quiet.fresh (rd : Nat → By) : Quiet (fresh 40 []) rd 0 := ⟨fresh_ok (by decide) (by decide) (by decide), rfl, rfl, rfl, rfl, rfl, rfl, fun k hk => by omega, by omega⟩
theorem Quiet.as {D : Dv} {rd rd' : Nat → By} {n : Nat} (h : Quiet D rd n) (e : ∀ k, k < n → rd k = rd' k) : Quiet D rd' n := ⟨h.ok, h.cap, h.dead, h.at_, h.pend, h.kept, h.len, fun k hk => (h.rd k hk).trans (e k hk), h.le⟩
def okT (a : Nat) (l : List Nt) : Prop := 0 < l.length ∧ l.length + a < 20 ∧ ∀ n ∈ l, n.kind = 1 ∧ mayM n.mem
instance (a : Nat) (l : List Nt) : Decidable (okT a l) := by unfold okT; infer_instance
def pick (r : List (List Nt) × Nat) (l : List Nt) : List (List Nt) × Nat := if okT r.2 l then (r.1 ++ [l], r.2 + l.length + 1) else r
end Go.Proofs.YthgfdpcpbghkpaaGreatDoor.Wal
namespace Go.Proofs.YthgfdpcpbghkpaaGreatDoor.Cat
open Pth Rec Srt Dsk Wal
structure Rest (D : Dv) : Prop where
  ok : D.Ok
  dead : D.dead = false
  pend : D.pend = []
  kept : D.kept = D.now
def Sums (l : List M) : Prop := ∀ m ∈ l, m.sum ≤ 4294967295
structure Saved (D D' : Dv) (gen : Nat) (l : List M) : Prop where
  rest : Rest D'
  now : D'.now = apAll (gen % 2 * 5) (sect5 gen (allT l)) D.now
  cap : D'.cap = D.cap
  at_ : D'.at_ = D.at_ - 6
theorem save_live {D : Dv} (h : Rest D) (ha : D.at_ = 0 ∨ 6 < D.at_) {gen : Nat} {l : List M} (hE : OkE gen l) (hC : OkC l D.cap) (hcap : 10 ≤ D.cap) : (saveC D gen l).2 = 0 ∧ Saved D (saveC D gen l).1 gen l := by
  rw [saveC_go ⟨hE, hC⟩]
  simp only [Int.toNat_natCast]
  have hT := sect5_all (gen := (gen : Int)) (allT l)
  have hl := sect5_len (gen : Int) (allT l)
  have hmod := h.ok.nowM
  have hnow := h.ok.now
  have hlen := apAll_len (sect5 (gen : Int) (allT l)) (gen % 2 * 5) D.now hT hmod
  rw [writes_live _ D (gen % 2 * 5) h.dead (by omega) hT (by omega)]
  simp only [if_true]
  have hne : sect5 (gen : Int) (allT l) ≠ [] := fun e => by rw [e] at hl; cases hl
  rw [if_neg hne, hl] at hlen
  have hs : Dv.sync { D with pend := D.pend ++ chs (gen % 2 * 5) (sect5 (gen : Int) (allT l)), now := apAll (gen % 2 * 5) (sect5 (gen : Int) (allT l)) D.now, at_ := D.at_ - (sect5 (gen : Int) (allT l)).length, calls := D.calls + (sect5 (gen : Int) (allT l)).length } = ({ D with pend := [], kept := apAll (gen % 2 * 5) (sect5 (gen : Int) (allT l)) D.now, now := apAll (gen % 2 * 5) (sect5 (gen : Int) (allT l)) D.now, at_ := D.at_ - 6, calls := D.calls + 5 + 1 }, 0) := by
    unfold Dv.sync
    rw [if_neg (by show ¬ D.dead = true; rw [h.dead]; decide), does_go (by show D.at_ - _ ≠ 1; rw [hl]; omega)]
    simp only [Dv.done, Dv.pushed, hl]
    congr 2
  rw [hs]
  refine ⟨rfl, ⟨⟨h.ok.cap, ?_, ?_, ?_, ?_, fun c hc => by simp at hc⟩, h.dead, rfl, rfl⟩, rfl, rfl, rfl⟩
  all_goals simp only [hlen]; omega
theorem Saved.len {D D' : Dv} {gen : Nat} {l : List M} (s : Saved D D' gen l) (h : Rest D) : D'.now.length = max D.now.length ((gen % 2 * 5 + 5) * 512) := by
  have hlen := apAll_len (sect5 (gen : Int) (allT l)) (gen % 2 * 5) D.now (sect5_all _) h.ok.nowM
  have hl := sect5_len (gen : Int) (allT l)
  have hne : sect5 (gen : Int) (allT l) ≠ [] := fun e => by rw [e] at hl; cases hl
  rw [if_neg hne, hl] at hlen
  rw [s.now, hlen]
theorem Saved.sec {D D' : Dv} {gen : Nat} {l : List M} (s : Saved D D' gen l) (h : Rest D) {j : Nat} (hj : (gen % 2 * 5 ≤ j ∧ j < gen % 2 * 5 + 5) ∨ j < D.now.length / 512) : secAt D'.now j = if gen % 2 * 5 ≤ j ∧ j < gen % 2 * 5 + 5 then (sect5 gen (allT l)).getD (j - gen % 2 * 5) [] else secAt D.now j := by
  have := apAll_sec (sect5 (gen : Int) (allT l)) (gen % 2 * 5) D.now (sect5_all _) h.ok.nowM j (by rw [sect5_len]; exact hj)
  rw [sect5_len] at this
  rw [s.now]
  exact this
theorem slotSs_ext {D D' : Dv} {k : Nat} (h : ∀ i, i < 5 → secAt D'.now (k * 5 + i) = secAt D.now (k * 5 + i)) : slotSs D' k = slotSs D k := by
  unfold slotSs
  apply List.map_congr_left
  intro i hi
  exact h i (List.mem_range.1 hi)
theorem slotC_ext {D D' : Dv} {k : Nat} (h : hasS D k ↔ hasS D' k) (hs : slotSs D' k = slotSs D k) (hc : D'.cap = D.cap) : slotC D' k = slotC D k := by
  have e : Right D' k ↔ Right D k := ⟨fun q => ⟨h.2 q.has, by rw [← hs]; exact q.dec, by rw [← hs]; exact q.par, by rw [← hs, ← hc]; exact q.chk⟩, fun q => ⟨h.1 q.has, by rw [hs]; exact q.dec, by rw [hs]; exact q.par, by rw [hs, hc]; exact q.chk⟩⟩
  unfold slotC
  rw [hs]
  rcases Classical.em (Right D k) with q | q
  · rw [if_pos q, if_pos (e.2 q)]
  · rw [if_neg q, if_neg (fun z => q (e.1 z))]
theorem Saved.slot {D D' : Dv} {gen : Nat} {l : List M} (s : Saved D D' gen l) (h : Rest D) (hE : OkE gen l) (hC : OkC l D.cap) (hsum : Sums l) : slotC D' (gen % 2) = some ((gen : Int), l) := by
  have hl := s.len h
  have hss : slotSs D' (gen % 2) = sect5 gen (allT l) := by
    apply List.ext_getElem?
    intro i
    rcases Nat.lt_or_ge i 5 with hi | hi
    · rw [List.getElem?_eq_getElem (by rw [slotSs_len]; exact hi)]
      have e : (slotSs D' (gen % 2))[i]'(by rw [slotSs_len]; exact hi) = secAt D'.now (gen % 2 * 5 + i) := by simp [slotSs]
      rw [e, s.sec h (.inl (by omega)), if_pos (by omega), Nat.add_sub_cancel_left, List.getD_eq_getElem?_getD, sect5_get _ _ hi]
      rfl
    · rw [List.getElem?_eq_none (by rw [slotSs_len]; exact hi), List.getElem?_eq_none (by rw [sect5_len]; exact hi)]
  have hd := dec_back hsum (encC_ok hE)
  have hr : Right D' (gen % 2) := ⟨by unfold hasS; omega, by rw [hss, hd], by rw [hss, hd]; show (gen : Int) % 2 = _; omega, by rw [hss, hd, s.cap]; exact hC⟩
  unfold slotC
  rw [if_pos hr, hss, hd]
theorem Saved.other {D D' : Dv} {gen k : Nat} {l : List M} (s : Saved D D' gen l) (h : Rest D) (hk : k < 2) (hn : k ≠ gen % 2) (hh : hasS D k) : slotC D' k = slotC D k := by
  have hl := s.len h
  have hh2 := hh
  unfold hasS at hh2
  refine slotC_ext ⟨fun _ => ?_, fun _ => hh⟩ (slotSs_ext fun i hi => ?_) s.cap
  · unfold hasS
    omega
  · rw [s.sec h (.inr (by omega)), if_neg (by omega)]
theorem sec_zeros0 (t : List UInt8) {i j : Nat} (hj : j < i) : secAt ((Ch.write i t).ap []) j = zeros 512 := by
  unfold secAt
  rw [ap_write]
  simp only [List.nil_append, List.length_nil, Nat.sub_zero, List.append_assoc]
  have e : (zeros ((i + 1) * 512)).take (i * 512) = zeros (j * 512) ++ (zeros 512 ++ zeros (i * 512 - j * 512 - 512)) := by
    unfold zeros
    rw [List.take_replicate, List.replicate_append_replicate, List.replicate_append_replicate]
    have e2 : min (i * 512) ((i + 1) * 512) = j * 512 + (512 + (i * 512 - j * 512 - 512)) := by omega
    rw [e2]
  rw [e, List.append_assoc, List.drop_append_of_le_length (by rw [zeros_length]; exact Nat.le_refl _), List.drop_of_length_le (by rw [zeros_length]; exact Nat.le_refl _), List.nil_append, List.append_assoc, List.take_append_of_le_length (by rw [zeros_length]; exact Nat.le_refl _), List.take_of_length_le (by rw [zeros_length]; exact Nat.le_refl _)]
theorem zeros_no : (decodeR (zeros 512)).2 ≠ 0 := by
  unfold decodeR
  rw [if_neg]
  · decide
  · rintro ⟨_, _, h⟩
    have hk : (decR (zeros 512)).kind = 0 := rfl
    rw [hk] at h
    unfold encodeR at h
    rw [if_pos (by unfold bad; omega)] at h
    cases h
theorem Saved.first {D D' : Dv} {gen k : Nat} {l : List M} (s : Saved D D' gen l) (h : Rest D) (he : D.now = []) (hk : k < 2) (hn : k ≠ gen % 2) : slotC D' k = none := by
  have hl := s.len h
  rw [he] at hl
  simp only [List.length_nil] at hl
  unfold slotC
  rw [if_neg]
  intro q
  have hh := q.has
  unfold hasS at hh
  obtain ⟨rfl, hg⟩ : k = 0 ∧ gen % 2 = 1 := by omega
  have hz : secAt D'.now (0 * 5 + 0) = zeros 512 := by
    rw [s.now, he, hg]
    have hT := sect5_all (gen := (gen : Int)) (allT l)
    have hl5 := sect5_len (gen : Int) (allT l)
    generalize sect5 (gen : Int) (allT l) = T at hT hl5
    match T, hT, hl5 with
    | t :: T, hT, hl5 =>
      have ht := hT t (by simp)
      rw [apAll]
      have h2 := apAll_sec T (1 * 5 + 1) ((Ch.write (1 * 5) t).ap []) (fun x hx => hT x (by simp [hx])) (mod_write ht rfl) 0 (.inr (by rw [len_write ht rfl]; show 0 < (max 0 ((1 * 5 + 1) * 512)) / 512; decide))
      rw [if_neg (by omega)] at h2
      exact h2.trans (sec_zeros0 t (by decide))
  have hd : OkD (slotSs D' 0) := Classical.byContradiction fun z => by
    have := q.dec
    rw [decC_no z] at this
    cases this
  have h0 : 0 < (slotSs D' 0).length := by rw [slotSs_len]; decide
  have h3 := (okD_at hd h0).2.1
  have e : (slotSs D' 0)[0] = secAt D'.now (0 * 5 + 0) := by simp [slotSs]
  rw [e, hz] at h3
  exact zeros_no h3
def m0 : M := ⟨[97], 30, 2, 5, 1⟩
def B0 : Dv := fresh 60 []
theorem B0_rest : Rest B0 := ⟨fresh_ok (by decide) (by decide) (by decide), rfl, rfl, rfl⟩
theorem m0_may : mayM m0 := by decide +kernel
theorem okC_nil {cap : Int} (h : 1 ≤ cap ∧ cap ≤ 4096) : OkC [] cap := ⟨by decide, by simp, List.Pairwise.nil, ⟨h, by simp [exts], List.Pairwise.nil⟩⟩
theorem okC_m0 {cap : Int} (h : 32 ≤ cap ∧ cap ≤ 4096) : OkC [m0] cap := by
  refine ⟨by decide, fun m hm => ?_, List.pairwise_singleton _ _, ⟨by omega, fun x hx => ?_, List.pairwise_singleton _ _⟩⟩
  · simp only [List.mem_singleton] at hm
    subst hm
    exact m0_may
  · simp only [exts, List.map_cons, List.map_nil, List.mem_singleton] at hx
    subst hx
    show 30 ≤ (30 : Int) ∧ 1 ≤ (2 : Int) ∧ (30 : Int) ≤ cap ∧ (2 : Int) ≤ cap - 30
    omega
theorem okE_nil {g : Int} (h : 0 ≤ g ∧ g ≤ 4611686018427387904) : OkE g [] := ⟨h.1, h.2, okC_nil (by decide)⟩
theorem okE_m0 {g : Int} (h : 0 ≤ g ∧ g ≤ 4611686018427387904) : OkE g [m0] := ⟨h.1, h.2, okC_m0 (by decide)⟩
theorem a_save4 : (saveC B0 4 []).2 = 0 ∧ Saved B0 (saveC B0 4 []).1 4 [] := save_live (gen := 4) B0_rest (.inl rfl) (okE_nil (by decide)) (okC_nil (by decide)) (by decide)
theorem a_save5 : (saveC (saveC B0 4 []).1 5 [m0]).2 = 0 ∧ Saved (saveC B0 4 []).1 (saveC (saveC B0 4 []).1 5 [m0]).1 5 [m0] := by
  have h := a_save4.2
  exact save_live (gen := 5) h.rest (.inl (by rw [h.at_]; rfl)) (okE_m0 (by decide)) (okC_m0 (by rw [h.cap]; decide)) (by rw [h.cap]; decide)
theorem cat_len : (saveC (saveC B0 4 []).1 5 [m0]).1.now.length = 5120 := by
  have h := a_save4.2
  have e1 := h.len B0_rest
  have e2 := a_save5.2.len h.rest
  rw [e2, e1]
  decide
theorem a_load : loadC (saveC (saveC B0 4 []).1 5 [m0]).1 = (5, [m0], 0) := by
  have h := a_save4.2
  have h5 := a_save5.2
  have e1 := h.len B0_rest
  have s5 : slotC (saveC (saveC B0 4 []).1 5 [m0]).1 1 = some (5, [m0]) := h5.slot h.rest (okE_m0 (by decide)) (okC_m0 (by rw [h.cap]; decide)) (fun m hm => by simp only [List.mem_singleton] at hm; subst hm; decide)
  have s4 : slotC (saveC B0 4 []).1 0 = some (4, []) := h.slot B0_rest (okE_nil (by decide)) (okC_nil (by decide)) (fun m hm => by cases hm)
  have s0 := h5.other (k := 0) h.rest (by decide) (by decide) (by unfold hasS; rw [e1]; decide)
  unfold loadC
  rw [if_neg (by rw [h5.rest.dead]; decide), s5, s0, s4]
  rfl
end Go.Proofs.YthgfdpcpbghkpaaGreatDoor.Cat
namespace Go.Proofs.YthgfdpcpbghkpaaGreatDoor
open Go.RowKit Pth Rec Srt Cat Dsk Wal
theorem memsV_get : ∀ (l : List M) (i j : Nat) (hi : i < l.length) (u : Value), (l[i]).cells[j]? = some u → (memsV l)[i * 5 + j]? = some u
  | a :: l, 0, j, hi, u, hu => by
    have hj : j < a.cells.length := (List.getElem?_eq_some_iff.1 hu).1
    rw [Nat.zero_mul, Nat.zero_add]
    simp only [memsV, List.flatMap_cons]
    rw [List.getElem?_append_left hj]
    exact hu
  | a :: l, i + 1, j, hi, u, hu => by
    have hl : a.cells.length = 5 := rfl
    simp only [memsV, List.flatMap_cons]
    rw [List.getElem?_append_right (by omega), show (i + 1) * 5 + j - a.cells.length = i * 5 + j by omega]
    exact memsV_get l i j (by simpa using hi) u hu
theorem mems_cell {w : World} {B : Nat} {A : Option Addr} {l : List M} (h : Sl w B A (memsV l)) {i : Nat} (hi : i < l.length) :
    ∃ b o, A = some ⟨b, o, none⟩ ∧ b < B ∧ ∀ j u, (l[i]).cells[j]? = some u → w.cell? ⟨b, o + i * 5 + j, none⟩ = some u := by
  have h0 := memsV_get l i 0 hi _ rfl
  have hp : 0 < (memsV l).length := by have := (List.getElem?_eq_some_iff.1 h0).1; omega
  obtain ⟨b, o, e, hb, hc⟩ := h.at_ hp
  exact ⟨b, o, e, hb, fun j u hu => by rw [Nat.add_assoc]; exact hc _ _ (memsV_get l i j hi u hu)⟩
theorem mem_eq (a b : M) : (!([decide (a.path = b.path), decide (a.start = b.start), decide (a.sectors = b.sectors), decide (a.size = b.size), decide ((a.sum : Int) = (b.sum : Int))].all id)) = decide (a ≠ b) := by
  obtain ⟨a1, a2, a3, a4, a5⟩ := a
  obtain ⟨b1, b2, b3, b4, b5⟩ := b
  have e : ((a5 : Int) = (b5 : Int)) ↔ a5 = b5 := by omega
  rw [Bool.eq_iff_iff]
  simp only [e, List.all_cons, List.all_nil, id, Bool.and_true, Bool.not_eq_true', Bool.and_eq_false_iff, decide_eq_false_iff_not, decide_eq_true_eq, M.mk.injEq, ne_eq, not_and]
  constructor
  · rintro (h | h | h | h | h) h1 h2 h3 h4 <;> simp_all
  · intro h
    by_cases c1 : a1 = b1 <;> by_cases c2 : a2 = b2 <;> by_cases c3 : a3 = b3 <;> by_cases c4 : a4 = b4 <;> simp_all
set_option maxRecDepth 20000 in
theorem same_s (l1 l2 : List M) (A1 A2 : Option Addr) (k1 k2 : Nat) (w : World) (B1 B2 : Nat) (h1 : Sl w B1 A1 (memsV l1)) (h2 : Sl w B2 A2 (memsV l2)) (hn : l1.length ≤ 1000000000000) :
    Ret Tryz.prog 14 [.slice A1 l1.length k1, .slice A2 l2.length k2] w fun v w' => v = .bool (decide (l1 = l2)) ∧ Ext w w' := by
  refine Ret.enter Tryz.func14 rfl Tryz.ntmps14 (by kernel_rfl) rfl ?_
  refine KW.seq (KW.region ?_)
  refine OW.val rfl rfl (EX.assign rfl) ?_
  refine OW.nil ?_
  refine KW.seq (KW.seq (KW.region ?_))
  refine OW.val rfl rfl (EX.move rfl) ?_
  refine OW.val rfl rfl (EX.lenA Tryz.underlying22 rfl) ?_
  refine OW.val rfl rfl (EX.move rfl) ?_
  refine OW.val rfl rfl (EX.lenA Tryz.underlying22 rfl) ?_
  refine OW.val rfl rfl (by first | exact EX.neqN rfl rfl | exact EX.neqZ rfl rfl) ?_
  refine OW.nil ?_
  refine KW.condD rfl (fun hl => ?_) (fun hl => ?_)
  · refine KW.seq (KW.region ?_)
    refine OW.val rfl rfl (EX.assign rfl) ?_
    refine OW.nil ?_
    refine KW.ret (ret1 rfl rfl ?_)
    refine ⟨congrArg Value.bool (decide_eq_false (fun e => hl (by rw [e]))).symm, Ext.refl _⟩
  · have hll : l1.length = l2.length := by omega
    refine KW.skip (KW.seq (KW.seq (KW.region ?_)))
    refine OW.val rfl rfl (EX.assign rfl) ?_
    refine OW.nil ?_
    refine KW.block ?_
    refine KW.loop2 (fun (i : Nat) (wr : World) => i ≤ l1.length ∧ (∀ j, j < i → l1[j]? = l2[j]?) ∧ Ext w wr) (fun (i : Nat) (wr : World) => [(0, .slice A1 l1.length k1), (1, .slice A2 l2.length k2), (5, .int .i64 ((i : Nat) : Int))]) (fun (i : Nat) (wr : World) => wr) (fun (i : Nat) (wr : World) => l1.length - i) (0) (w) ⟨rfl, rfl, rfl, trivial⟩ rfl ?_ ?_
    · exact ⟨by omega, fun j hj => by omega, Ext.refl _⟩
    · rintro i wr ⟨hi, he, hx⟩
      refine KW.seq (KW.seq (KW.region ?_))
      refine OW.val rfl rfl (EX.move rfl) ?_
      refine OW.val rfl rfl (EX.move rfl) ?_
      refine OW.val rfl rfl (EX.lenA Tryz.underlying22 rfl) ?_
      refine OW.val rfl rfl (by first | exact EX.lssN rfl rfl | exact EX.lssZ rfl rfl) ?_
      refine OW.nil ?_
      refine KW.condD rfl (fun hlt => ?_) (fun hlt => ?_)
      · have hlt2 : i < l2.length := by omega
        obtain ⟨b1, o1, rfl, _, hc1⟩ := mems_cell (h1.ext hx) hlt
        obtain ⟨b2, o2, rfl, _, hc2⟩ := mems_cell (h2.ext hx) hlt2
        refine KW.skip (KW.seq (KW.block (KW.seq ?_)))
        refine KW.regionQ (by kernel_rfl) (by kernel_rfl) ?_
        refine QW.val rfl rfl (fun _ => EX.move rfl) ?_
        refine QW.val rfl rfl (fun _ => EX.move rfl) ?_
        refine QW.val rfl rfl (fun _ => EX.indexAddrS Tryz.underlying22 ti70 rfl rfl (by omega)) ?_
        refine QW.val rfl rfl (fun _ => EX.loadA (w := wr.drewN _) (l := (l1[i]).cells) Tryz.underlying70 rfl ti70 rfl rfl hc1) ?_
        refine QW.val rfl rfl (fun _ => EX.move rfl) ?_
        refine QW.val rfl rfl (fun _ => EX.move rfl) ?_
        refine QW.val rfl rfl (fun _ => EX.indexAddrS Tryz.underlying22 ti70 rfl rfl (by omega)) ?_
        refine QW.val rfl rfl (fun _ => EX.loadA (w := wr.drewN _) (l := (l2[i]).cells) Tryz.underlying70 rfl ti70 rfl rfl hc2) ?_
        refine QW.val rfl rfl (fun _ => EX.neqG Tryz.underlying70 (by kernel_rfl) (by kernel_rfl) rfl rfl (.cons (by decide) Tryz.underlying9 rfl rfl rfl (eq_str Tryz.underlying9) (.cons (by decide) Tryz.underlying3 rfl rfl rfl (eq_int Tryz.underlying3) (.cons (by decide) Tryz.underlying3 rfl rfl rfl (eq_int Tryz.underlying3) (.cons (by decide) Tryz.underlying3 rfl rfl rfl (eq_int Tryz.underlying3) (.cons (by decide) Tryz.underlying68 rfl rfl rfl (eq_int Tryz.underlying68) .nil))))) rfl) ?_
        refine QW.nil (fun nq => ?_)
        refine KW.as 25 (.bool (decide (l1[i] ≠ l2[i]))) rfl (congrArg Value.bool (mem_eq _ _)) ?_
        refine KW.condD rfl (fun hne => ?_) (fun hne => ?_)
        · refine KW.seq (KW.region ?_)
          refine OW.val rfl rfl (EX.assign rfl) ?_
          refine OW.nil ?_
          refine KW.ret (ret1 rfl rfl ?_)
          refine ⟨congrArg Value.bool (decide_eq_false (fun e => hne ?_)).symm, hx.trans (Ext.drewN wr nq)⟩
          subst e
          rfl
        · refine KW.skip (KW.leave (KW.region ?_))
          refine OW.val rfl rfl (EX.move rfl) ?_
          refine OW.val rfl rfl (by first | exact EX.addN (b := 1) (m := 9223372036854775807) rfl rfl rfl (by omega) | exact EX.addZ (m := 9223372036854775807) rfl rfl rfl rfl (by omega)) ?_
          refine OW.val rfl rfl (EX.assign rfl) ?_
          refine OW.nil ?_
          refine KW.back2 (i + 1) (wr.drewN nq) ⟨rfl, rfl, rfl, trivial⟩ rfl ?_ (by omega)
          refine ⟨by omega, fun j hj => ?_, hx.trans (Ext.drewN wr nq)⟩
          by_cases e : j = i
          · subst e
            rw [List.getElem?_eq_getElem hlt, List.getElem?_eq_getElem hlt2]
            exact congrArg some (by simpa using hne)
          · exact he j (by omega)
      · obtain rfl : i = l1.length := by omega
        refine KW.exit rfl (KW.seq (KW.region ?_))
        refine OW.val rfl rfl (EX.assign rfl) ?_
        refine OW.nil ?_
        refine KW.ret (ret1 rfl rfl ?_)
        refine ⟨congrArg Value.bool (decide_eq_true ?_).symm, hx⟩
        apply List.ext_getElem?
        intro j
        by_cases hj : j < l1.length
        · exact he j hj
        · rw [List.getElem?_eq_none (by omega), List.getElem?_eq_none (by omega)]
theorem mayNil {n : Nat} (h : 1 ≤ n ∧ n ≤ 4096) : Dsk.may (n : Int) [] := by refine ⟨by omega, by omega, by decide, ?_⟩; show ((0 : Nat) : Int) ≤ _; omega
theorem newN (n : Nat) (h : 1 ≤ n ∧ n ≤ 4096) (w : World) : Ret Tryz.prog 15 [.int .i64 (n : Int)] w fun v w' => Ext w w' ∧ ∃ b, v = .tuple #[.pointer (some ⟨b, 0, none⟩), .int .i64 0] ∧ DevAt w' w.heap.size b (fresh n []) :=
  (new_s (n : Int) (by omega) (by omega) w).mono fun v w' ⟨p, e, h1, h2, h3⟩ => ⟨h2, by
    rcases h3 with ⟨q, _⟩ | ⟨_, b, h4, h5, h6⟩
    · exact absurd (mayNil h) q
    · exact ⟨b, by rw [h1, h4, h5]; rfl, h6⟩⟩
theorem fresh_smC (n : Nat) (s : List UInt8) : Sm (fresh n s) 0 := ⟨by simp [fresh], by simp [fresh], by simp [fresh], by simp [fresh]⟩
set_option maxRecDepth 20000 in
theorem cawake_s (w : World) (hG : MLen w) (hgl : 0 < w.heap.size) : Ret Tryz.prog 6 [] w fun v w' => v = .bool true ∧ Ext w w' := by
  refine Ret.enter Tryz.func6 rfl Tryz.ntmps6 (by kernel_rfl) rfl ?_
  refine KW.seq (KW.region ?_)
  refine OW.val rfl rfl (EX.assign rfl) ?_
  refine OW.nil ?_
  refine KW.seq (KW.region ?_)
  refine OW.call rfl rfl rfl (newN 60 (by decide) w) ?_
  rintro _ w1 ⟨hx1, b, rfl, h1⟩
  refine OW.val rfl rfl (EX.move rfl) ?_
  refine OW.val rfl rfl (EX.extract rfl rfl) ?_
  refine OW.val rfl rfl (EX.extract rfl rfl) ?_
  refine OW.val rfl rfl (EX.assign rfl) ?_
  refine OW.val rfl rfl (EX.assign rfl) ?_
  refine OW.nil ?_
  refine KW.seq (KW.seq ?_)
  refine KW.region ?_
  refine OW.val rfl rfl (EX.move rfl) ?_
  refine OW.val rfl rfl (by first | exact EX.neqN (b := 0) rfl rfl | exact EX.neqZ rfl rfl) ?_
  refine OW.val rfl rfl (EX.move rfl) ?_
  refine OW.val rfl rfl (EX.move rfl) ?_
  refine OW.val rfl rfl (by first | exact EX.eqlP1 Tryz.underlying41 rfl rfl | exact EX.eqlP0 Tryz.underlying41 rfl rfl) ?_
  refine OW.val rfl rfl (EX.pickF rfl rfl) ?_
  refine OW.nil ?_
  refine KW.condF rfl (KW.skip (KW.seq (KW.region ?_)))
  refine OW.val rfl rfl (EX.buildS (pl := [(0, 1), (1, 1), (2, 1), (3, 1), (4, 1)]) (ks := [0, 1, 2, 3, 4]) (is := [0, 1, 2, 3, 4]) (zs := [str [], .int .i64 0, .int .i64 0, .int .i64 0, .int .u32 0]) Tryz.underlying70 ti70 (by kernel_rfl) rfl rfl rfl (by first | rfl | (simp only [List.all_cons, List.all_nil, Bool.and_true, Bool.true_and, Bool.and_eq_true, Value.oneCell']; repeat (first | assumption | exact Own.one (by assumption) | constructor))) (by simp only [setAll, List.set_cons_zero, List.set_cons_succ]; rfl)) ?_
  refine OW.buildG 1 ([m0.cells]) rfl rfl Tryz.underlying22 ti70 rfl (by decide) rfl rfl rfl (by repeat' (first | exact List.forall_mem_nil _ | refine List.forall_mem_cons.2 ⟨by first | rfl | assumption, ?_⟩)) (by decide) ?_
  rintro mb w2 hg2 hb2 hx2
  refine OW.val rfl rfl (EX.assign rfl) ?_
  refine OW.nil ?_
  refine KW.seq (KW.region ?_)
  refine OW.val rfl rfl (EX.move rfl) ?_
  have hb2m : Bk w2 mb 70 (memsV [m0]) := hb2
  have hok0 : ∀ m ∈ [m0], m.Ok := fun m hm => by simp only [List.mem_singleton] at hm; subst hm; exact ⟨by decide, by decide⟩
  have hsz1 := hx1.size
  have hsz2 := hx2.size
  have q2 := h1.ext hx2
  have hG2 := (hG.ext hx1).ext hx2
  have c4 := save_s B0_rest.ok (fresh_smC 60 []) (by omega) w.heap.size b 4 (by decide) (by decide) [] (by decide) (by simp) none 0 w2.heap.size w2 hG2 q2 (.inl rfl)
  rw [a_save4.1] at c4
  refine OW.call rfl rfl rfl (c4) ?_
  rintro _ w3 ⟨rfl, q3, t3⟩
  refine OW.val rfl rfl (EX.assign rfl) ?_
  refine OW.nil ?_
  refine KW.seq (KW.region ?_)
  refine OW.val rfl rfl (EX.move rfl) ?_
  refine OW.val rfl rfl (EX.move rfl) ?_
  have hb3 := t3.bk hb2m (by decide)
  have hG3 := mlen_tm hG2 t3 hgl
  have c5 := save_s a_save4.2.rest.ok (save_sm (fresh_smC 60 []) 4 []) (by omega) w.heap.size b 5 (by decide) (by decide) [m0] (by decide) hok0 (some ⟨mb, 0, none⟩) 1 w3.heap.size w3 hG3 q3 (Sl.of_bk hb3 hb3.lt)
  rw [a_save5.1] at c5
  refine OW.call rfl rfl rfl (c5) ?_
  rintro _ w4 ⟨rfl, q4, t4⟩
  refine OW.val rfl rfl (EX.assign rfl) ?_
  refine OW.nil ?_
  refine KW.seq (KW.region ?_)
  refine OW.val rfl rfl (EX.move rfl) ?_
  have hG4 := mlen_tm hG3 t4 hgl
  have ld := cload_s a_save5.2.rest.ok (save_sm (save_sm (fresh_smC 60 []) 4 []) 5 [m0]) (by omega) w.heap.size b w4 hG4 hgl q4
  rw [a_load] at ld
  refine OW.call rfl rfl rfl (ld) ?_
  rintro _ w5 ⟨⟨u, rfl, hown5⟩, q5, t5⟩
  refine OW.val rfl rfl (EX.move rfl) ?_
  refine OW.val rfl rfl (EX.extract rfl rfl) ?_
  refine OW.val rfl rfl (EX.extract rfl rfl) ?_
  refine OW.val rfl rfl (EX.extract rfl rfl) ?_
  refine OW.val rfl rfl (EX.assign rfl) ?_
  refine OW.val rfl rfl (EX.assign rfl) ?_
  refine OW.val rfl rfl (EX.assign rfl) ?_
  refine OW.nil ?_
  refine KW.seq ?_
  have hb5 := t5.bk (t4.bk hb3 (by decide)) (by decide)
  have hok5 : loadedC (saveC (saveC B0 4 []).1 5 [m0]).1 = loadedC (saveC (saveC B0 4 []).1 5 [m0]).1 := rfl
  have ln := len_d q5 (loaded_ok a_save5.2.rest.ok)
  have el : (loadedC (saveC (saveC B0 4 []).1 5 [m0]).1).now.length / 512 = 10 := by
    unfold loadedC
    rw [if_neg (by rw [a_save5.2.rest.dead]; decide)]
    show (saveC (saveC B0 4 []).1 5 [m0]).1.now.length / 512 = 10
    rw [cat_len]
  rw [el] at ln
  obtain ⟨A6, c6, rfl, _, hsl6⟩ := hown5.slice
  have sm := same_s [m0] [m0] A6 (some ⟨mb, 0, none⟩) c6 1 w5 _ _ hsl6 (Sl.of_bk hb5 hb5.lt) (by decide)
  rw [decide_eq_true rfl] at sm
  refine KW.region ?_
  refine OW.val rfl rfl (EX.move rfl) ?_
  refine OW.val rfl rfl (by first | exact EX.eqlN (b := 0) rfl rfl | exact EX.eqlZ rfl rfl) ?_
  refine OW.val rfl rfl (EX.move rfl) ?_
  refine OW.val rfl rfl (EX.move rfl) ?_
  refine OW.val rfl rfl (by first | exact EX.eqlN (b := 0) rfl rfl | exact EX.eqlZ rfl rfl) ?_
  refine OW.val rfl rfl (EX.pickT rfl rfl) ?_
  refine OW.val rfl rfl (EX.move rfl) ?_
  refine OW.val rfl rfl (EX.move rfl) ?_
  refine OW.call rfl rfl rfl (ln) ?_
  rintro _ _ ⟨rfl, rfl⟩
  refine OW.val rfl rfl (by first | exact EX.eqlN (b := 10) rfl rfl | exact EX.eqlZ rfl rfl) ?_
  refine OW.val rfl rfl (EX.pickT rfl rfl) ?_
  refine OW.val rfl rfl (EX.move rfl) ?_
  refine OW.val rfl rfl (EX.move rfl) ?_
  refine OW.val rfl rfl (by first | exact EX.eqlN (b := 5) rfl rfl | exact EX.eqlZ rfl rfl) ?_
  refine OW.val rfl rfl (EX.pickT rfl rfl) ?_
  refine OW.val rfl rfl (EX.move rfl) ?_
  refine OW.val rfl rfl (EX.move rfl) ?_
  refine OW.val rfl rfl (EX.move rfl) ?_
  refine OW.call rfl rfl rfl (sm) ?_
  rintro _ w6 ⟨rfl, hx6⟩
  refine OW.val rfl rfl (EX.pickT rfl rfl) ?_
  refine OW.val rfl rfl (EX.move rfl) ?_
  refine OW.val rfl rfl (EX.move rfl) ?_
  refine OW.val rfl rfl (by first | exact EX.eqlN (b := 0) rfl rfl | exact EX.eqlZ rfl rfl) ?_
  refine OW.val rfl rfl (EX.pickT rfl rfl) ?_
  refine OW.val rfl rfl (EX.assign rfl) ?_
  refine OW.nil ?_
  refine KW.ret (ret1 rfl rfl ?_)
  have x2 := hx1.trans hx2
  have x5 : Ext w w5 := Tm.below x2 ((t3.trans t4).trans t5) x2.size (Nat.le_refl _)
  exact ⟨rfl, x5.trans hx6⟩
end Go.Proofs.YthgfdpcpbghkpaaGreatDoor
namespace Go.Proofs.YthgfdpcpbghkpaaGreatDoor
open Go.RowKit Pth Rec Srt Cat Dsk Wal
theorem txts_cell {w : World} {B : Nat} {A : Option Addr} {l : Txts} (h : Sl w B A (txtsV l)) {i : Nat} (hi : i < l.length) :
    ∃ b o, A = some ⟨b, o, none⟩ ∧ b < B ∧ w.cell? ⟨b, o + i, none⟩ = some (str l[i]) := by
  obtain ⟨b, o, e, hb, hc⟩ := h.at_ (by simp [txtsV_length]; omega)
  exact ⟨b, o, e, hb, hc _ _ (txtsV_get hi)⟩
set_option maxRecDepth 20000 in
theorem texts_s (l1 l2 : Txts) (A1 A2 : Option Addr) (k1 k2 : Nat) (w : World) (B1 B2 : Nat) (h1 : Sl w B1 A1 (txtsV l1)) (h2 : Sl w B2 A2 (txtsV l2)) (hn : l1.length ≤ 1000000000000) :
    Ret Tryz.prog 9 [.slice A1 l1.length k1, .slice A2 l2.length k2] w fun v w' => v = .bool (decide (l1 = l2)) ∧ Ext w w' := by
  refine Ret.enter Tryz.func9 rfl Tryz.ntmps9 (by kernel_rfl) rfl ?_
  refine KW.seq (KW.region ?_)
  refine OW.val rfl rfl (EX.assign rfl) ?_
  refine OW.nil ?_
  refine KW.seq (KW.seq (KW.region ?_))
  refine OW.val rfl rfl (EX.move rfl) ?_
  refine OW.val rfl rfl (EX.lenA Tryz.underlying24 rfl) ?_
  refine OW.val rfl rfl (EX.move rfl) ?_
  refine OW.val rfl rfl (EX.lenA Tryz.underlying24 rfl) ?_
  refine OW.val rfl rfl (by first | exact EX.neqN rfl rfl | exact EX.neqZ rfl rfl) ?_
  refine OW.nil ?_
  refine KW.condD rfl (fun hl => ?_) (fun hl => ?_)
  · refine KW.seq (KW.region ?_)
    refine OW.val rfl rfl (EX.assign rfl) ?_
    refine OW.nil ?_
    refine KW.ret (ret1 rfl rfl ?_)
    refine ⟨congrArg Value.bool (decide_eq_false (fun e => hl (by rw [e]))).symm, Ext.refl _⟩
  · have hll : l1.length = l2.length := by omega
    refine KW.skip (KW.seq (KW.seq (KW.region ?_)))
    refine OW.val rfl rfl (EX.assign rfl) ?_
    refine OW.nil ?_
    refine KW.block ?_
    refine KW.loop2 (fun (i : Nat) (wr : World) => i ≤ l1.length ∧ (∀ j, j < i → l1[j]? = l2[j]?) ∧ Ext w wr) (fun (i : Nat) (wr : World) => [(0, .slice A1 l1.length k1), (1, .slice A2 l2.length k2), (5, .int .i64 ((i : Nat) : Int))]) (fun (i : Nat) (wr : World) => wr) (fun (i : Nat) (wr : World) => l1.length - i) (0) (w) ⟨rfl, rfl, rfl, trivial⟩ rfl ?_ ?_
    · exact ⟨by omega, fun j hj => by omega, Ext.refl _⟩
    · rintro i wr ⟨hi, he, hx⟩
      refine KW.seq (KW.seq (KW.region ?_))
      refine OW.val rfl rfl (EX.move rfl) ?_
      refine OW.val rfl rfl (EX.move rfl) ?_
      refine OW.val rfl rfl (EX.lenA Tryz.underlying24 rfl) ?_
      refine OW.val rfl rfl (by first | exact EX.lssN rfl rfl | exact EX.lssZ rfl rfl) ?_
      refine OW.nil ?_
      refine KW.condD rfl (fun hlt => ?_) (fun hlt => ?_)
      · have hlt2 : i < l2.length := by omega
        obtain ⟨b1, o1, rfl, _, hc1⟩ := txts_cell (h1.ext hx) hlt
        obtain ⟨b2, o2, rfl, _, hc2⟩ := txts_cell (h2.ext hx) hlt2
        refine KW.skip (KW.seq (KW.block (KW.seq ?_)))
        refine KW.regionQ (by kernel_rfl) (by kernel_rfl) ?_
        refine QW.val rfl rfl (fun _ => EX.move rfl) ?_
        refine QW.val rfl rfl (fun _ => EX.move rfl) ?_
        refine QW.val rfl rfl (fun _ => by first | exact EX.indexAddrS0 Tryz.underlying24 ti9 rfl rfl (by omega) | exact EX.indexAddrS1 Tryz.underlying24 ti9 rfl rfl (by omega)) ?_
        refine QW.val rfl rfl (fun _ => EX.load Tryz.underlying9 rfl rfl (hc1)) ?_
        refine QW.val rfl rfl (fun _ => EX.move rfl) ?_
        refine QW.val rfl rfl (fun _ => EX.move rfl) ?_
        refine QW.val rfl rfl (fun _ => by first | exact EX.indexAddrS0 Tryz.underlying24 ti9 rfl rfl (by omega) | exact EX.indexAddrS1 Tryz.underlying24 ti9 rfl rfl (by omega)) ?_
        refine QW.val rfl rfl (fun _ => EX.load Tryz.underlying9 rfl rfl (hc2)) ?_
        refine QW.val rfl rfl (fun _ => EX.neqS rfl rfl) ?_
        refine QW.nil (fun nq => ?_)
        refine KW.condD rfl (fun hne => ?_) (fun hne => ?_)
        · refine KW.seq (KW.region ?_)
          refine OW.val rfl rfl (EX.assign rfl) ?_
          refine OW.nil ?_
          refine KW.ret (ret1 rfl rfl ?_)
          refine ⟨congrArg Value.bool (decide_eq_false (fun e => hne ?_)).symm, hx.trans (Ext.drewN wr nq)⟩
          subst e
          rfl
        · refine KW.skip (KW.leave (KW.region ?_))
          refine OW.val rfl rfl (EX.move rfl) ?_
          refine OW.val rfl rfl (by first | exact EX.addN (b := 1) (m := 9223372036854775807) rfl rfl rfl (by omega) | exact EX.addZ (m := 9223372036854775807) rfl rfl rfl rfl (by omega)) ?_
          refine OW.val rfl rfl (EX.assign rfl) ?_
          refine OW.nil ?_
          refine KW.back2 (i + 1) (wr.drewN nq) ⟨rfl, rfl, rfl, trivial⟩ rfl ?_ (by omega)
          refine ⟨by omega, fun j hj => ?_, hx.trans (Ext.drewN wr nq)⟩
          by_cases e : j = i
          · subst e
            rw [List.getElem?_eq_getElem hlt, List.getElem?_eq_getElem hlt2]
            exact congrArg some (by simpa using hne)
          · exact he j (by omega)
      · obtain rfl : i = l1.length := by omega
        refine KW.exit rfl (KW.seq (KW.region ?_))
        refine OW.val rfl rfl (EX.assign rfl) ?_
        refine OW.nil ?_
        refine KW.ret (ret1 rfl rfl ?_)
        refine ⟨congrArg Value.bool (decide_eq_true ?_).symm, hx⟩
        apply List.ext_getElem?
        intro j
        by_cases hj : j < l1.length
        · exact he j hj
        · rw [List.getElem?_eq_none (by omega), List.getElem?_eq_none (by omega)]
theorem enc_most (gen : Int) (l : List M) : (encC gen l).1.length ≤ 5 := by
  rcases encC_or gen l with ⟨_, q⟩ | q
  · rw [q]; show (sect5 _ _).length ≤ 5; rw [sect5_len]; exact Nat.le_refl _
  · rw [q]; simp
set_option maxRecDepth 20000 in
theorem catalogEncodes_s (gen cap : Int) (l : List M) (hok : ∀ m ∈ l, m.Ok) (A : Option Addr) (c C : Nat) (w : World) (hs : Sl w C A (memsV l)) (hG : MLen w) (hgl : 0 < w.heap.size) :
    Ret Tryz.prog 3 [.int .i64 gen, .slice A l.length c, .int .i64 cap] w fun v w' => v = .bool true ∧ Ext w w' := by
  have bye : ∀ w', Ext w w' → Ret Tryz.prog 6 [] w' fun v w'' => v = .bool true ∧ Ext w w'' := fun w' hx => (cawake_s w' (hG.ext hx) (Nat.lt_of_lt_of_le hgl hx.size)).mono fun _ _ h => ⟨h.1, Ext.trans hx h.2⟩
  refine Ret.enter Tryz.func3 rfl Tryz.ntmps3 (by kernel_rfl) rfl ?_
  refine KW.seq (KW.region ?_)
  refine OW.val rfl rfl (EX.assign rfl) ?_
  refine OW.nil ?_
  refine KW.seq (KW.seq (KW.region ?_))
  refine OW.val rfl rfl (EX.move rfl) ?_
  refine OW.val rfl rfl (EX.lenA Tryz.underlying22 rfl) ?_
  refine OW.val rfl rfl (by first | exact EX.gtrN (b := 100) rfl rfl | exact EX.gtrZ rfl rfl) ?_
  refine OW.nil ?_
  refine KW.condD rfl (fun hl => ?_) (fun hl => ?_)
  · refine KW.seq (KW.region ?_)
    refine OW.call rfl rfl rfl (bye w (Ext.refl _)) ?_
    rintro _ w1 ⟨rfl, hx1⟩
    refine OW.val rfl rfl (EX.assign rfl) ?_
    refine OW.nil ?_
    refine KW.ret (ret1 rfl rfl ?_)
    exact ⟨rfl, hx1⟩
  · have hl2 : l.length ≤ 140737488355328 := by omega
    have he := enc_most gen l
    refine KW.skip (KW.seq (KW.region ?_))
    refine OW.val rfl rfl (EX.move rfl) ?_
    refine OW.val rfl rfl (EX.move rfl) ?_
    refine OW.call rfl rfl rfl (encode23_s gen l hok hl2 A c C w hG hs) ?_
    rintro _ w1 ⟨⟨u1, rfl, own1⟩, hx1⟩
    refine OW.val rfl rfl (EX.move rfl) ?_
    refine OW.val rfl rfl (EX.extract rfl rfl) ?_
    refine OW.val rfl rfl (EX.extract rfl rfl) ?_
    refine OW.val rfl rfl (EX.assign rfl) ?_
    refine OW.val rfl rfl (EX.assign rfl) ?_
    refine OW.nil ?_
    refine KW.seq (KW.region ?_)
    refine OW.val rfl rfl (EX.move rfl) ?_
    refine OW.val rfl rfl (EX.move rfl) ?_
    refine OW.call rfl rfl rfl (rencode23_s gen l hok hl2 A c C w1 (hs.ext hx1)) ?_
    rintro _ w2 ⟨⟨u2, rfl, own2⟩, hx2⟩
    refine OW.val rfl rfl (EX.move rfl) ?_
    refine OW.val rfl rfl (EX.extract rfl rfl) ?_
    refine OW.val rfl rfl (EX.extract rfl rfl) ?_
    refine OW.val rfl rfl (EX.assign rfl) ?_
    refine OW.val rfl rfl (EX.assign rfl) ?_
    refine OW.nil ?_
    refine KW.seq ?_
    have own1' := own1.ext hx2
    have x2 := hx1.trans hx2
    obtain ⟨A1, c1, rfl, _, sl1⟩ := own1'.slice
    obtain ⟨A2, c2, rfl, _, sl2⟩ := own2.slice
    have cs := texts_s _ _ A1 A2 c1 c2 w2 _ _ sl1 sl2 (by omega)
    rw [decide_eq_true rfl] at cs
    refine KW.region ?_
    refine OW.val rfl rfl (EX.move rfl) ?_
    refine OW.val rfl rfl (EX.move rfl) ?_
    refine OW.call rfl rfl rfl (cs) ?_
    rintro _ w3 ⟨rfl, hx3⟩
    refine OW.val rfl rfl (EX.move rfl) ?_
    have x3 := x2.trans hx3
    refine OW.val rfl rfl (EX.move rfl) ?_
    refine OW.val rfl rfl (EX.move rfl) ?_
    refine OW.val rfl rfl (by first | exact EX.eqlN rfl rfl | exact EX.eqlZ rfl rfl) ?_
    refine OW.val rfl rfl (EX.pickT rfl rfl) ?_
    refine OW.val rfl rfl (EX.move rfl) ?_
    refine OW.as 35 (.bool true) rfl (congrArg Value.bool (decide_eq_true (rfl))) ?_
    refine OW.val rfl rfl (EX.move rfl) ?_
    refine OW.val rfl rfl (EX.move rfl) ?_
    refine OW.call rfl rfl rfl (chk_s l hok hl2 cap A c C w3 (hG.ext x3) (hs.ext x3)) ?_
    rintro _ w4 ⟨rfl, hx4⟩
    refine OW.val rfl rfl (EX.move rfl) ?_
    refine OW.val rfl rfl (EX.move rfl) ?_
    have x4 := x3.trans hx4
    refine OW.call rfl rfl rfl (rchk_s l hok hl2 cap A c C w4 (hs.ext x4)) ?_
    rintro _ w5 ⟨rfl, hx5⟩
    refine OW.val rfl rfl (by first | exact EX.eqlN rfl rfl | exact EX.eqlZ rfl rfl) ?_
    refine OW.val rfl rfl (EX.pickT rfl rfl) ?_
    refine OW.val rfl rfl (EX.move rfl) ?_
    have x5 := x4.trans hx5
    refine OW.as 44 (.bool true) rfl (congrArg Value.bool (decide_eq_true (rfl))) ?_
    refine OW.call rfl rfl rfl (bye w5 x5) ?_
    rintro _ w6 ⟨rfl, hx6⟩
    refine OW.val rfl rfl (EX.pickT rfl rfl) ?_
    refine OW.val rfl rfl (EX.assign rfl) ?_
    refine OW.nil ?_
    refine KW.ret (ret1 rfl rfl ?_)
    exact ⟨rfl, hx6⟩
set_option maxRecDepth 20000 in
theorem catalogDecodes_s (ss : Txts) (A : Option Addr) (c C : Nat) (w : World) (hs : Sl w C A (txtsV ss)) (hG : MLen w) (hgl : 0 < w.heap.size) :
    Ret Tryz.prog 4 [.slice A ss.length c] w fun v w' => v = .bool true ∧ Ext w w' := by
  have bye : ∀ w', Ext w w' → Ret Tryz.prog 6 [] w' fun v w'' => v = .bool true ∧ Ext w w'' := fun w' hx => (cawake_s w' (hG.ext hx) (Nat.lt_of_lt_of_le hgl hx.size)).mono fun _ _ h => ⟨h.1, Ext.trans hx h.2⟩
  refine Ret.enter Tryz.func4 rfl Tryz.ntmps4 (by kernel_rfl) rfl ?_
  refine KW.seq (KW.region ?_)
  refine OW.val rfl rfl (EX.assign rfl) ?_
  refine OW.nil ?_
  refine KW.seq (KW.seq (KW.region ?_))
  refine OW.val rfl rfl (EX.move rfl) ?_
  refine OW.val rfl rfl (EX.lenA Tryz.underlying24 rfl) ?_
  refine OW.val rfl rfl (by first | exact EX.gtrN (b := 20) rfl rfl | exact EX.gtrZ rfl rfl) ?_
  refine OW.nil ?_
  refine KW.condD rfl (fun hl => ?_) (fun hl => ?_)
  · refine KW.seq (KW.region ?_)
    refine OW.call rfl rfl rfl (bye w (Ext.refl _)) ?_
    rintro _ w1 ⟨rfl, hx1⟩
    refine OW.val rfl rfl (EX.assign rfl) ?_
    refine OW.nil ?_
    refine KW.ret (ret1 rfl rfl ?_)
    exact ⟨rfl, hx1⟩
  · have hl2 : ss.length ≤ 140737488355328 := by omega
    have hd := (dec_fine ss).resolve_right (by omega)
    refine KW.skip (KW.seq (KW.region ?_))
    refine OW.val rfl rfl (EX.move rfl) ?_
    refine OW.call rfl rfl rfl (decode23_s ss hl2 A c C w hG hs) ?_
    rintro _ w1 ⟨⟨u1, rfl, own1⟩, hx1⟩
    refine OW.val rfl rfl (EX.move rfl) ?_
    refine OW.val rfl rfl (EX.extract rfl rfl) ?_
    refine OW.val rfl rfl (EX.extract rfl rfl) ?_
    refine OW.val rfl rfl (EX.extract rfl rfl) ?_
    refine OW.val rfl rfl (EX.assign rfl) ?_
    refine OW.val rfl rfl (EX.assign rfl) ?_
    refine OW.val rfl rfl (EX.assign rfl) ?_
    refine OW.nil ?_
    refine KW.seq (KW.region ?_)
    refine OW.val rfl rfl (EX.move rfl) ?_
    refine OW.call rfl rfl rfl (rdecode23_s ss hl2 A c C w1 (hs.ext hx1)) ?_
    rintro _ w2 ⟨⟨u2, rfl, own2⟩, hx2⟩
    refine OW.val rfl rfl (EX.move rfl) ?_
    refine OW.val rfl rfl (EX.extract rfl rfl) ?_
    refine OW.val rfl rfl (EX.extract rfl rfl) ?_
    refine OW.val rfl rfl (EX.extract rfl rfl) ?_
    refine OW.val rfl rfl (EX.assign rfl) ?_
    refine OW.val rfl rfl (EX.assign rfl) ?_
    refine OW.val rfl rfl (EX.assign rfl) ?_
    refine OW.nil ?_
    refine KW.seq ?_
    have own1' := own1.ext hx2
    have x2 := hx1.trans hx2
    obtain ⟨A1, c1, rfl, _, sl1⟩ := own1'.slice
    obtain ⟨A2, c2, rfl, _, sl2⟩ := own2.slice
    have cs := same_s _ _ A1 A2 c1 c2 w2 _ _ sl1 sl2 (by omega)
    rw [decide_eq_true rfl] at cs
    refine KW.region ?_
    refine OW.val rfl rfl (EX.move rfl) ?_
    refine OW.val rfl rfl (EX.move rfl) ?_
    refine OW.val rfl rfl (by first | exact EX.eqlN rfl rfl | exact EX.eqlZ rfl rfl) ?_
    refine OW.val rfl rfl (EX.move rfl) ?_
    refine OW.as 28 (.bool true) rfl (congrArg Value.bool (decide_eq_true (rfl))) ?_
    refine OW.val rfl rfl (EX.move rfl) ?_
    refine OW.val rfl rfl (EX.move rfl) ?_
    refine OW.call rfl rfl rfl (cs) ?_
    rintro _ w3 ⟨rfl, hx3⟩
    refine OW.val rfl rfl (EX.pickT rfl rfl) ?_
    refine OW.val rfl rfl (EX.move rfl) ?_
    have x3 := x2.trans hx3
    refine OW.val rfl rfl (EX.move rfl) ?_
    refine OW.val rfl rfl (EX.move rfl) ?_
    refine OW.val rfl rfl (by first | exact EX.eqlN rfl rfl | exact EX.eqlZ rfl rfl) ?_
    refine OW.val rfl rfl (EX.pickT rfl rfl) ?_
    refine OW.val rfl rfl (EX.move rfl) ?_
    refine OW.as 38 (.bool true) rfl (congrArg Value.bool (decide_eq_true (rfl))) ?_
    refine OW.call rfl rfl rfl (bye w3 x3) ?_
    rintro _ w6 ⟨rfl, hx6⟩
    refine OW.val rfl rfl (EX.pickT rfl rfl) ?_
    refine OW.val rfl rfl (EX.assign rfl) ?_
    refine OW.nil ?_
    refine KW.ret (ret1 rfl rfl ?_)
    exact ⟨rfl, hx6⟩
end Go.Proofs.YthgfdpcpbghkpaaGreatDoor
namespace Go.Proofs.YthgfdpcpbghkpaaGreatDoor
open Go.ChangeShapes Go.WideShapes Go.ChangeAt Go.RowKit
section
variable {H : Type} {enc : TypeId × Value → H} {P : Program}
theorem trodAll_stays (hl : laidOutB P = true) {W W' : World} (hx : Ext W W') : ∀ {ts : List TypeId} {vs : List Value} {ds : List (DataW H)} {ps : List MemPlace},
    (∀ t ∈ ts, P.readableRec t = true ∧ t < P.types.size) → DataW.TrodAll enc P W 0 (fun _ => true) true ts vs ds ps → (∀ p ∈ ps, p.block < W.heap.size) →
    DataW.TrodAll enc P W' 0 (fun b => decide (b < W.heap.size)) true ts vs ds ps
  | [], vs, ds, ps, _, h, _ => by
    obtain ⟨rfl, rfl, rfl⟩ := trodAll_nil h
    exact trodAll_mk0
  | t :: ts, vs, ds, ps, hr, h, hlt => by
    obtain ⟨v, vs', d, ds', p, q, rfl, rfl, rfl, h1, h2⟩ := trodAll_cons h
    refine trodAll_cons_mk (WideElems.Trod_stays hl (hr t (by simp)).1 (hr t (by simp)).2 h1 (fun x hx' => hx.same (hlt x (by simp [hx']))) (fun x hx' => by simpa using hlt x (by simp [hx']))) ?_
    exact trodAll_stays hl hx (fun u hu => hr u (by simp [hu])) h2 (fun x hx' => hlt x (by simp [hx']))
theorem law_post {f : Func} {s : ChangeSpec} {W W' : World} {args : Array Value} {ds gs : List (DataW H)} {before : List MemPlace} {T : TypeId}
    (hW : DataW.Whole enc P f.params.toList s.vars false W args.toList ds gs before) (hv : s.vars = []) (hspec : s.fn H (ds ++ gs) = { results := [.lit (.bool true)], args := ds }) (hrt : f.resultTypes = #[T]) (hu : P.underlying T = some .bool)
    (hl : laidOutB P = true) (hr : ∀ t ∈ f.params.toList, P.readableRec t = true ∧ t < P.types.size) (hx : Ext W W') : s.post enc P f false true false false W args (.bool true) W' := by
  have hlt : ∀ p ∈ before, p.block < W.heap.size := fun p hp => hW.lt p hp
  have hW0 := hW
  obtain ⟨p, q, hA, hV, rfl, _, _⟩ := hW
  rw [hv] at hV
  refine ⟨ds, gs, _, [], p, [], hW0, ?_, ?_, ?_, hx.frame _, fun h => by cases h⟩
  · rw [hspec, hrt]
    exact trodAll_cons_mk (p := []) (p' := []) (shut_bool hu _) trodAll_mk0
  · rw [hspec]
    exact trodAll_stays hl hx hr hA (fun x hx' => hlt x (by simp [hx']))
  · rw [hspec, hv]
    exact rfl
end
end Go.Proofs.YthgfdpcpbghkpaaGreatDoor
namespace Go.Proofs.YthgfdpcpbghkpaaGreatDoor
open Go.ChangeShapes Go.WideShapes Go.ChangeAt Go.RowKit
def layCells (cs : List Value) : Obj → Obj
  | .cells _ t frozen => .cells cs.toArray t frozen
  | o => o
section
variable {H : Type} {enc : TypeId × Value → H} {P : Program} {W : World} {base : Nat} {t e : TypeId} {v : Value} {d : DataW H} {p : List MemPlace} {r : Reach} {b0 : Nat}
theorem wf_nat {k : IntKind} {n : Int} (hs : k.signed = false) (h : (Lit.int k n).wf = true) : ∃ m : Nat, n = m ∧ m ≤ maxN k := by
  cases k <;> simp [IntKind.signed] at hs <;> (simp [Lit.wf, IntKind.min, IntKind.max, IntKind.signed, IntKind.bits] at h; exact ⟨n.toNat, by omega, by simp [maxN]; omega⟩)
theorem wf_int {n : Int} (h : (Lit.int .i64 n).wf = true) : -9223372036854775808 ≤ n ∧ n ≤ 9223372036854775807 := by
  simp [Lit.wf, IntKind.min, IntKind.max, IntKind.signed, IntKind.bits] at h
  omega
theorem open_i64 (ht : P.underlying t = some (.int .i64)) (hval : Value.okWide P W r b0 t v) (hd : DataW.Trod enc P W base (fun _ => true) true t v d p) : ∃ n : Int, v = .int .i64 n ∧ -9223372036854775808 ≤ n ∧ n ≤ 9223372036854775807 := by
  obtain ⟨n, rfl, _, _, hw⟩ := open_int ht hval hd
  exact ⟨n, rfl, wf_int hw⟩
theorem sl_of_cells {a : Addr} {xs : List Value} (h : ∀ j u, xs[j]? = some u → W.cell? (a.add j) = some u) : Sl W W.heap.size (some a) xs := by
  by_cases hx : xs = []
  · exact .inl hx
  · have h0 : 0 < xs.length := List.length_pos_iff.2 hx
    have hc := h 0 xs[0] (List.getElem?_eq_getElem h0)
    have ha : a.add 0 = a := by unfold Addr.add; simp
    rw [ha] at hc
    obtain ⟨b, o, sp⟩ := a
    have hsp : sp = none := by
      unfold World.cell? at hc
      split at hc
      · cases sp with
        | none => rfl
        | some _ => simp at hc
      · simp at hc
    subst hsp
    refine .inr ⟨b, o, rfl, World.block_lt_of_cell? W _ hc, fun j u hu => ?_⟩
    have := h j u hu
    have hadd : (⟨b, o, none⟩ : Addr).add j = ⟨b, o + j, none⟩ := by unfold Addr.add; split <;> simp_all
    rwa [hadd] at this
def strsV (l : List (List UInt8)) : List Value := l.map fun s => str s
theorem strsV_length (l : List (List UInt8)) : (strsV l).length = l.length := by simp [strsV]
theorem weightsAll_mem : ∀ {l : List (DataW H)} {x : DataW H}, x ∈ l → ∀ n ∈ x.weights P e, n ∈ DataW.weightsAll P e l
  | y :: l, x, hx, n, hn => by
    simp only [DataW.weightsAll, List.mem_append]
    rcases List.mem_cons.1 hx with rfl | hx
    · exact .inl hn
    · exact .inr (weightsAll_mem hx n hn)
  | [], _, hx, _, _ => by simp at hx
theorem open_slS (ht : P.underlying t = some (.slice e)) (he : P.underlying e = some .string) (hc : P.cellsOf e = 1) (hval : Value.okWide P W r b0 t v) (hd : DataW.Trod enc P W base (fun _ => true) true t v d p)
    {ts : List TypeId} {ds : List (DataW H)} (hsz : (DataW.weightsEach P ts ds).all (· ≤ reachBytes) = true) {j : Nat} (hj : ts[j]? = some t) (hdj : ds[j]? = some d) :
    ∃ (l : List (List UInt8)) (A : Option Addr) (c : Nat), v = .slice A l.length c ∧ (∀ s ∈ l, s.length ≤ 140737488351232) ∧ l.length ≤ 9223372036854775807 ∧ Sl W W.heap.size A (strsV l) := by
  obtain ⟨A, len, cap, rfl⟩ := okWide_slice ht hval
  obtain ⟨fuel, hf⟩ := hd
  rcases open_strings ht he hc hf with ⟨hcs, _⟩ | ⟨a, len', cap', ss, hcs, _, hl, hm, hz, hx, hcell, hws⟩
  · simp [Value.cells] at hcs
    obtain ⟨rfl, rfl, rfl⟩ := hcs
    exact ⟨[], none, 0, rfl, by simp, by simp, .inl rfl⟩
  · simp [Value.cells] at hcs
    obtain ⟨rfl, rfl, rfl⟩ := hcs
    simp only [if_true] at hz
    simp only [Prod.mk.injEq] at hx
    obtain ⟨rfl, rfl⟩ := hx
    have hlen : (ss.take len).length = len := by rw [List.length_take]; omega
    refine ⟨(ss.take len).map fun s => s.data.toList, some a, cap, by simp [hlen]; omega, ?_, ?_, sl_of_cells fun i u hu => ?_⟩
    · intro s hs
      obtain ⟨s', hs', rfl⟩ := List.mem_map.1 hs
      have hmem : (DataW.lit (.string s'.data.toList) : DataW H) ∈ strs (ss.take len) := List.mem_map.2 ⟨s', hs', rfl⟩
      have h1 : s'.data.toList.length ∈ (DataW.slice (strs (ss.take len)) (strs (ss.drop len)) : DataW H).weights P t := by
        simp only [DataW.weights, ht, List.mem_cons, List.mem_append]
        exact .inr (.inl (weightsAll_mem hmem _ (by simp [DataW.weights])))
      have := List.all_eq_true.1 hsz _ (DataW.weights_mem_each hj hdj _ h1)
      simp only [decide_eq_true_eq] at this
      exact Nat.le_trans this (by decide)
    · rw [List.length_map, hlen]; simp only [maxLen] at hm; omega
    · have hjl : i < (strsV ((ss.take len).map fun s => s.data.toList)).length := (List.getElem?_eq_some_iff.1 hu).1
      rw [strsV_length, List.length_map, hlen] at hjl
      rw [hcell i (by omega), ← hu]
      simp [strsV, List.getElem?_take, hjl, show i < ss.length by omega, List.getD]
end
end Go.Proofs.YthgfdpcpbghkpaaGreatDoor
namespace Go.Proofs.YthgfdpcpbghkpaaGreatDoor
open Go.ChangeShapes Go.WideShapes Go.ChangeAt Go.RowKit Go.Deep
theorem flatMap_at {α : Type} {cells : α → List Value} {c : Nat} (hc : ∀ a, (cells a).length = c) : ∀ (l : List α) (j : Nat) (u : Value), (l.flatMap cells)[j]? = some u → ∃ i r, ∃ hi : i < l.length, r < c ∧ j = i * c + r ∧ (cells l[i])[r]? = some u
  | [], j, u, h => by simp at h
  | a :: l, j, u, h => by
    rw [List.flatMap_cons] at h
    by_cases hj : j < c
    · rw [List.getElem?_append_left (by rw [hc]; exact hj)] at h
      exact ⟨0, j, by simp, hj, by omega, h⟩
    · rw [List.getElem?_append_right (by rw [hc]; omega), hc] at h
      obtain ⟨i, r, hi, hr, he, hu⟩ := flatMap_at hc l _ u h
      exact ⟨i + 1, r, by simpa using hi, hr, by rw [Nat.succ_mul]; omega, by simpa using hu⟩
section
variable {H : Type} {enc : TypeId × Value → H} {P : Program} {W : World} {base : Nat} {t e : TypeId} {v : Value} {d : DataW H} {p : List MemPlace} {r : Reach} {b0 : Nat}
theorem open_slG {α : Type} [Inhabited α] (cells : α → List Value) (ok : α → Prop) {c : Nat} (hcl : ∀ a, (cells a).length = c) (ht : P.underlying t = some (.slice e)) (hc : P.cellsOf e = c)
    (step : ∀ n cs x, DataW.trod enc P W base (fun _ => true) true n e cs = some x → (∀ m ∈ x.1.weights P e, m ≤ reachBytes) → (∃ es sp, d = .slice es sp ∧ x.1 ∈ es) → ∃ a, cs = cells a ∧ ok a)
    (hval : Value.okWide P W r b0 t v) (hd : DataW.Trod enc P W base (fun _ => true) true t v d p)
    {ts : List TypeId} {ds : List (DataW H)} (hsz : (DataW.weightsEach P ts ds).all (· ≤ reachBytes) = true) {j : Nat} (hj : ts[j]? = some t) (hdj : ds[j]? = some d) :
    ∃ (l : List α) (A : Option Addr) (cap : Nat), v = .slice A l.length cap ∧ (∀ a ∈ l, ok a) ∧ (A = none → l = []) ∧ l.length * P.bytesOf e ≤ reachBytes ∧ l.length ≤ cap ∧ Sl W W.heap.size A (l.flatMap cells) := by
  obtain ⟨A, len, cap, rfl⟩ := okWide_slice ht hval
  obtain ⟨fuel, hf⟩ := hd
  rcases open_slice ht hf with ⟨hcs, _⟩ | ⟨a, len', cap', m, n, D, Pl, hcs, _, hl, hm, hmm, hx, hel⟩
  · simp [Value.cells] at hcs
    obtain ⟨rfl, rfl, rfl⟩ := hcs
    exact ⟨[], none, 0, rfl, by simp, fun _ => rfl, by simp, by simp, .inl rfl⟩
  · simp [Value.cells] at hcs
    obtain ⟨rfl, rfl, rfl⟩ := hcs
    simp only [if_true] at hmm
    subst hmm
    simp only [Prod.mk.injEq] at hx
    obtain ⟨rfl, rfl⟩ := hx
    obtain ⟨B, hB⟩ := choose_lt (α := α) (p := fun i b => W.cells? base (a.add (i * c)) c = some (cells b) ∧ ok b) (n := len) (fun i hi => by
      obtain ⟨cs', h1, h2⟩ := hel i (by omega)
      have hw : ∀ k ∈ (D i).weights P e, k ≤ reachBytes := fun k hk => by
        have hmem : D i ∈ (List.range len).map D := List.mem_map.2 ⟨i, List.mem_range.2 hi, rfl⟩
        have h1 : k ∈ (DataW.slice ((List.range len).map D) ((List.range (m - len)).map fun j => D (len + j)) : DataW H).weights P t := by
          simp only [DataW.weights, ht, List.mem_cons, List.mem_append]
          exact .inr (.inl (weightsAll_mem hmem _ hk))
        have := List.all_eq_true.1 hsz _ (DataW.weights_mem_each hj hdj _ h1)
        simpa using this
      obtain ⟨b, rfl, hb⟩ := step n cs' _ h2 hw ⟨_, _, rfl, List.mem_map.2 ⟨i, List.mem_range.2 hi, rfl⟩⟩
      rw [hc] at h1
      exact ⟨b, h1, hb⟩)
    have hln : ((List.range len).map B).length = len := by simp
    refine ⟨(List.range len).map B, some a, m, by rw [hln], ?_, fun q => (by cases q), ?_, by rw [hln]; exact hl, sl_of_cells fun i u hu => ?_⟩
    · intro b hb
      obtain ⟨i, hi, rfl⟩ := List.mem_map.1 hb
      exact (hB i (List.mem_range.1 hi)).2
    · rw [hln]
      have := sized_slice hsz hj hdj ht
      simp only [List.length_map, List.length_range] at this
      exact Nat.le_trans (Nat.mul_le_mul_right _ (by omega)) this
    · obtain ⟨q, s, hq, hs, rfl, hu'⟩ := flatMap_at hcl _ _ _ hu
      have hq' : q < len := by simpa using hq
      have hg : ((List.range len).map B)[q] = B q := by simp
      rw [hg] at hu'
      rw [← add_add, (World.cells?_some (hB q hq').1).2.2 s hs]
      exact hu'
end
end Go.Proofs.YthgfdpcpbghkpaaGreatDoor
namespace Go.Proofs.YthgfdpcpbghkpaaGreatDoor
open Go.ChangeShapes Go.WideShapes Go.ChangeAt Go.RowKit Go.Deep Rec
structure _root_.Go.Proofs.YthgfdpcpbghkpaaGreatDoor.Rec.R.Ok (x : R) : Prop where
  kind : x.kind ≤ 255
  data : x.data.length ≤ 140737488351232
structure _root_.Go.Proofs.YthgfdpcpbghkpaaGreatDoor.Rec.M.Wide (m : M) : Prop where
  path : m.path.length ≤ 140737488351232
  sum : m.sum ≤ 4294967295
theorem five {l : List Value} (h : l.length = 5) : ∃ a b c d e, l = [a, b, c, d, e] := by
  match l, h with
  | [a, b, c, d, e], _ => exact ⟨a, b, c, d, e, rfl⟩
end Go.Proofs.YthgfdpcpbghkpaaGreatDoor
namespace Go.Proofs.YthgfdpcpbghkpaaGreatDoor
open Go.ChangeShapes Go.WideShapes Go.ChangeAt Go.RowKit Go.Deep Rec
section
variable {H : Type} {enc : TypeId × Value → H} {W : World} {base : Nat} {v : Value} {d : DataW H} {p : List MemPlace} {r : Reach} {b0 : Nat}
set_option maxRecDepth 20000 in
theorem mem_stepU (n : Nat) (cs : List Value) (x : DataW H × List MemPlace) (h : DataW.trod enc Tryz.prog W base (fun _ => true) true n 70 cs = some x) (hw : Rows.uptoBulk x.1 ≤ 1048576) : ∃ a : M, cs = a.cells ∧ a.Ok := by
  obtain ⟨xs, m, rfl, rfl, hl, hlen, hf⟩ := DataW.trod_struct Tryz.underlying70 h
  obtain ⟨c0, c1, c2, c3, c4, rfl⟩ := five (hl.trans (by kernel_rfl))
  have g : ∀ i (hi : i < 5), ∃ y, xs[i]? = some y := fun i hi => ⟨_, List.getElem?_eq_getElem (by rw [hlen]; exact hi)⟩
  obtain ⟨y0, e0⟩ := g 0 (by omega)
  obtain ⟨y1, e1⟩ := g 1 (by omega)
  obtain ⟨y2, e2⟩ := g 2 (by omega)
  obtain ⟨y3, e3⟩ := g 3 (by omega)
  obtain ⟨y4, e4⟩ := g 4 (by omega)
  have f0 : DataW.trod enc Tryz.prog W base (fun _ => true) true m 9 ((([c0, c1, c2, c3, c4] : List Value).drop 0).take (Tryz.prog.cellsOf 9)) = some y0 := (hf 0 _ rfl).trans e0
  have f1 : DataW.trod enc Tryz.prog W base (fun _ => true) true m 3 ((([c0, c1, c2, c3, c4] : List Value).drop 1).take (Tryz.prog.cellsOf 3)) = some y1 := (hf 1 _ rfl).trans e1
  have f2 : DataW.trod enc Tryz.prog W base (fun _ => true) true m 3 ((([c0, c1, c2, c3, c4] : List Value).drop 2).take (Tryz.prog.cellsOf 3)) = some y2 := (hf 2 _ rfl).trans e2
  have f3 : DataW.trod enc Tryz.prog W base (fun _ => true) true m 3 ((([c0, c1, c2, c3, c4] : List Value).drop 3).take (Tryz.prog.cellsOf 3)) = some y3 := (hf 3 _ rfl).trans e3
  have f4 : DataW.trod enc Tryz.prog W base (fun _ => true) true m 68 ((([c0, c1, c2, c3, c4] : List Value).drop 4).take (Tryz.prog.cellsOf 68)) = some y4 := (hf 4 _ rfl).trans e4
  rw [show Tryz.prog.cellsOf 9 = 1 by kernel_rfl] at f0
  rw [show Tryz.prog.cellsOf 3 = 1 by kernel_rfl] at f1 f2 f3
  rw [show Tryz.prog.cellsOf 68 = 1 by kernel_rfl] at f4
  simp only [List.drop_zero, List.drop_succ_cons, List.take_succ_cons, List.take_zero] at f0 f1 f2 f3 f4
  obtain ⟨s0, h0, hy0, w0⟩ := DataW.trod_string Tryz.underlying9 f0
  obtain ⟨n1, h1, _, w1⟩ := DataW.trod_int Tryz.underlying3 f1
  obtain ⟨n2, h2, _, w2⟩ := DataW.trod_int Tryz.underlying3 f2
  obtain ⟨n3, h3, _, w3⟩ := DataW.trod_int Tryz.underlying3 f3
  obtain ⟨n4, h4, _, w4⟩ := DataW.trod_int Tryz.underlying68 f4
  simp only [List.cons.injEq, and_true] at h0 h1 h2 h3 h4
  obtain ⟨m4, rfl, hm4⟩ := wf_nat rfl w4
  subst h0 h1 h2 h3 h4
  refine ⟨⟨s0.data.toList, n1, n2, n3, m4⟩, rfl, ⟨?_, by simpa [maxN] using hm4⟩⟩
  match xs, e0 with
  | y :: xs, e0 =>
    simp only [List.getElem?_cons_zero, Option.some.injEq] at e0
    rw [e0, hy0] at hw
    simp only [List.map_cons, Rows.uptoBulk, Rows.uptoBulkAll] at hw
    show s0.data.toList.length ≤ 1000000000000
    omega
end
end Go.Proofs.YthgfdpcpbghkpaaGreatDoor
namespace Go.Proofs.YthgfdpcpbghkpaaGreatDoor
open Go.ChangeShapes Go.WideShapes Go.ChangeAt Go.RowKit Go.Deep Pth Rec Srt Cat Dsk Wal
section
variable {H : Type} {enc : TypeId × Value → H} {W : World} {base : Nat} {v : Value} {d : DataW H} {p : List MemPlace} {r : Reach} {b0 : Nat}
instance : Inhabited M := ⟨⟨[], 0, 0, 0, 0⟩⟩
theorem bulk_mem : ∀ {es : List (DataW H)} {x : DataW H}, x ∈ es → Rows.uptoBulk x ≤ Rows.uptoBulkAll es
  | y :: es, x, h => by
    simp only [Rows.uptoBulkAll]
    rcases List.mem_cons.1 h with rfl | h
    · omega
    · have := bulk_mem h; omega
set_option maxRecDepth 20000 in
theorem openUs_Member (hval : Value.okWide Tryz.prog W r b0 22 v) (hd : DataW.Trod enc Tryz.prog W base (fun _ => true) true 22 v d p)
    {ts : List TypeId} {ds : List (DataW H)} (hsz : (DataW.weightsEach Tryz.prog ts ds).all (· ≤ reachBytes) = true) {j : Nat} (hj : ts[j]? = some 22) (hdj : ds[j]? = some d) (hb : Rows.uptoBulk d ≤ 1048576) :
    ∃ (l : List M) (A : Option Addr) (cap : Nat), v = .slice A l.length cap ∧ (∀ m ∈ l, m.Ok) ∧ Sl W W.heap.size A (memsV l) := by
  obtain ⟨l, A, cap, h1, h2, _, _, _, h3⟩ := open_slG M.cells M.Ok (c := 5) (fun _ => rfl) Tryz.underlying22 (by kernel_rfl) (fun n cs x hx _ hm => mem_stepU n cs x hx (by
    obtain ⟨es, sp, rfl, hm⟩ := hm
    have h1 := bulk_mem hm
    simp only [Rows.uptoBulk] at hb
    omega)) hval hd hsz hj hdj
  exact ⟨l, A, cap, h1, h2, h3⟩
end
theorem mlen_of {w : World} (h : w.ShapedOpen Tryz.prog) : MLen w := Tryz.laysM219.s1_3 w h
theorem mlen_lt {w : World} (h : MLen w) : 0 < w.heap.size := by
  obtain ⟨m, hm⟩ := h
  exact World.block_lt_of_cell? w _ hm
theorem catalogEncodes_z (gen : Int) (_ : -9223372036854775808 ≤ gen) (_ : gen ≤ 9223372036854775807) (l : List M) (hok : ∀ m ∈ l, m.Ok) (A : Option Addr) (c : Nat) (cap : Int) (_ : -9223372036854775808 ≤ cap) (_ : cap ≤ 9223372036854775807) (w : World) (C : Nat) (hs : Sl w C A (memsV l)) (hG : MLen w) :
    Ret Tryz.prog 3 [.int .i64 gen, .slice A l.length c, .int .i64 cap] w fun v w' => v = .bool true ∧ Ext w w' := catalogEncodes_s gen cap l hok A c C w hs hG (mlen_lt hG)
theorem catalogDecodes_z (ss : Txts) (A : Option Addr) (c : Nat) (_ : ∀ s ∈ ss, s.length ≤ 140737488355328) (_ : ss.length ≤ 9223372036854775807) (w : World) (C : Nat) (hs : Sl w C A (txtsV ss)) (hG : MLen w) :
    Ret Tryz.prog 4 [.slice A ss.length c] w fun v w' => v = .bool true ∧ Ext w w' := catalogDecodes_s ss A c C w hs hG (mlen_lt hG)
end Go.Proofs.YthgfdpcpbghkpaaGreatDoor
