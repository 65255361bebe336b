/-
  disk: each sector is one that was written there, or was there, or is all noughts.
-/
import Derived.Test.YtdjcgffhnakeeaaDskQ
namespace Go.Proofs.Ytdjcgffhnakeeaa
open Go.RowKit Dsk
set_option linter.unusedVariables false
set_option linter.unusedSimpArgs false

abbrev By := List UInt8
abbrev Acs := List Ac
structure Fl where
  at_ : Int
  ks : List Bool
  A : Option Addr
  k : Nat
def Fl.cells (f : Fl) : List Value := [.int .i64 f.at_, .slice f.A f.ks.length f.k]
structure Fl.Ok (f : Fl) (w : World) (C : Nat) : Prop where
  at_ : -9223372036854775808 ≤ f.at_ ∧ f.at_ ≤ 9223372036854775807
  nil : f.A = none → boolsV f.ks = []
  len : f.ks.length ≤ 140737488351232
  sl : Sl w C f.A (boolsV f.ks)
/-- what holds behind i acts -/
structure Run (cap : Nat) (ks : List Bool) (i : Nat) (D : Dv) (was : By) (wn : Acs) : Prop where
  bt : Bt was wn D
  ok : D.Ok
  cap : D.cap = cap
  calls : D.calls ≤ i
  pend : D.pend.length ≤ i
  at_ : D.at_ ≤ 9223372036854775807
  keep : D.keep.length ≤ ks.length
  wl : wn.length ≤ i
  wok : ∀ a ∈ wn, a.Ok
  was : was.length % 512 = 0
theorem Run.small {cap : Nat} {ks : List Bool} {i : Nat} {D : Dv} {was : By} {wn : Acs} (h : Run cap ks i D was wn) (hi : i ≤ 60) (hk : ks.length ≤ 140737488351232) : Small D :=
  ⟨by have := h.calls; omega, by have := h.pend; omega, h.at_, by have := h.keep; omega⟩
theorem Run.more {cap : Nat} {ks : List Bool} {i : Nat} {D : Dv} {was : By} {wn : Acs} (h : Run cap ks i D was wn) : Run cap ks (i + 1) D was wn :=
  ⟨h.bt, h.ok, h.cap, by have := h.calls; omega, by have := h.pend; omega, h.at_, h.keep, by have := h.wl; omega, h.wok, h.was⟩
theorem wnAfter_len (c : Int) (wn : Acs) (a : Ac) : (wnAfter c wn a).length ≤ wn.length + 1 := by
  unfold wnAfter
  split <;> simp
theorem Run.act {cap : Nat} {ks : List Bool} {i : Nat} {D : Dv} {was : By} {wn : Acs} (h : Run cap ks i D was wn) (hd : D.dead = false) (a : Ac) (ha : a.Ok) (h3 : ¬ (a.kind = 3 ∧ (D.act a).2.2 = 0)) : Run cap ks (i + 1) (D.act a).1 was (wnAfter (cap : Int) wn a) := by
  obtain ⟨g1, g2, g3, g4, g5⟩ := act_grew D a
  have hb := bt_act h.bt h.ok hd a h3
  rw [h.cap] at hb
  have wl := wnAfter_len cap wn a
  refine ⟨hb, act_ok h.ok a, by rw [g5, h.cap], by have := h.calls; omega, by have := h.pend; omega, by have := h.at_; omega, by have := h.keep; omega, by have := h.wl; omega, ?_, h.was⟩
  intro x hx
  unfold wnAfter at hx
  split at hx
  · rcases List.mem_append.1 hx with hx | hx
    · exact h.wok x hx
    · obtain rfl := List.mem_singleton.1 hx
      exact ha
  · exact h.wok x hx
theorem Run.sync {cap : Nat} {ks : List Bool} {i : Nat} {D : Dv} {was : By} {wn : Acs} (h : Run cap ks i D was wn) (hd : D.dead = false) (a : Ac) (h3 : a.kind = 3) (h0 : (D.act a).2.2 = 0) : Run cap ks (i + 1) (D.act a).1 (D.act a).1.now [] := by
  obtain ⟨g1, g2, g3, g4, g5⟩ := act_grew D a
  have ok := act_ok h.ok a
  have e : D.act a = (D.sync.1, [], D.sync.2) := by
    unfold Dv.act
    rw [if_neg (by omega), if_neg (by omega), if_neg (by omega), if_pos h3]
  rw [e] at h0 ok g1 g2 g3 g4 g5 ⊢
  exact ⟨(bt_sync h.bt h.ok hd).1 h0, ok, by rw [g5, h.cap], by have := h.calls; omega, by have := h.pend; omega, by have := h.at_; omega, by have := h.keep; omega, by simp, fun _ hx => (List.not_mem_nil hx).elim, ok.nowM⟩
theorem DevAt.tm {w w' : World} {B b C : Nat} {D : Dv} {p : TypeId → Bool} (h : DevAt w B b D) (ht : Tm w w' C p) (h1 : p 54 = false) (h2 : p 5 = false) (h3 : p 67 = false) (h4 : p 3 = false) (h5 : p 9 = false) (h6 : p 4 = false) : DevAt w' B b D := by
  obtain ⟨vk, vn, vp, vq, vs, g1, g2, g3, g4, g5, g6, g7, g8⟩ := h
  exact ⟨vk, vn, vp, vq, vs, g1, ht.bk g2 h1, ht.own g3 h2, ht.own g4 h2, g5, ht.own g6 h3, g7.tm ht h4 h5, ht.own g8 h6⟩
theorem wnAfter_ok {c : Int} {wn : Acs} {a : Ac} (h : isW c a) : wnAfter c wn a = wn ++ [a] := if_pos h
theorem wnAfter_no {c : Int} {wn : Acs} {a : Ac} (h : ¬ isW c a) : wnAfter c wn a = wn := if_neg h
/-- the sector j of what is now is good, as far as n acts tell -/
def okN (was now : By) (wn : Acs) (j n : Nat) : Prop := (sec now j = sector 0 false ∨ (j * 512 < was.length ∧ sec now j = sec was j)) ∨ ∃ a ∈ wn.take n, a.n = (j : Int) ∧ sec now j = sector a.fill false
theorem okN_snoc {was now : By} {wn : Acs} {j n : Nat} (h : n < wn.length) : okN was now wn j (n + 1) ↔ okN was now wn j n ∨ ((wn[n]).n = (j : Int) ∧ sec now j = sector (wn[n]).fill false) := by
  unfold okN
  rw [List.take_add_one, List.getElem?_eq_getElem h]
  constructor
  · rintro (h1 | ⟨a, ha, h1⟩)
    · exact .inl (.inl h1)
    · rcases List.mem_append.1 ha with ha | ha
      · exact .inl (.inr ⟨a, ha, h1⟩)
      · simp at ha; subst ha; exact .inr h1
  · rintro ((h1 | ⟨a, ha, h1⟩) | h1)
    · exact .inl h1
    · exact .inr ⟨a, List.mem_append_left _ ha, h1⟩
    · exact .inr ⟨wn[n], List.mem_append_right _ (by simp), h1⟩
set_option maxRecDepth 20000 in
theorem diskBetween_s (c : Int) (c0 : -9223372036854775808 ≤ c) (c1 : c ≤ 9223372036854775807) (acts : List Ac) (hok : ∀ a ∈ acts, a.Ok) (A : Option Addr) (k : Nat) (f : Fl) (w : World) (C : Nat) (hsl : Sl w C A (actsV acts)) (C2 : Nat) (hf : f.Ok w C2) :
    Ret Try.prog 6 [.int .i64 c, .slice A acts.length k, .agg f.cells.toArray] w fun v w' => v = .bool true ∧ Ext w w' := by
  have f0 := hf.at_
  have fl := hf.len
  refine Ret.enter Try.func6 rfl Try.ntmps6 (by kernel_rfl) rfl ?_
  refine KW.seq (KW.region ?_)
  refine OW.boxS rfl rfl rfl ?_
  rintro fb w0 hge0 hfb0 hx0
  refine OW.val rfl rfl (EX.assign rfl) ?_
  refine OW.nil ?_
  refine KW.seq (KW.region ?_)
  refine OW.val rfl rfl (EX.move rfl) ?_
  replace hfb0 : Bk w0 fb 39 f.cells := hfb0
  refine OW.call rfl rfl rfl (new_s c c0 c1 w0) ?_
  rintro _ w1 ⟨p, e, rfl, hx1, hor⟩
  refine OW.val rfl rfl (EX.move rfl) ?_
  refine OW.val rfl rfl (EX.extract rfl rfl) ?_
  refine OW.val rfl rfl (EX.extract rfl rfl) ?_
  refine OW.val rfl rfl (EX.assign rfl) ?_
  refine OW.val rfl rfl (EX.assign rfl) ?_
  refine OW.nil ?_
  refine KW.seq (KW.seq ?_)
  have x1 := hx0.trans hx1
  rcases hor with ⟨hm, rfl, rfl⟩ | ⟨hm, b, rfl, rfl, hd1⟩
  · refine KW.region ?_
    refine OW.val rfl rfl (EX.move rfl) ?_
    refine OW.val rfl rfl (by first | exact EX.neqN (b := 0) rfl rfl | exact EX.neqZ rfl rfl) ?_
    refine OW.val rfl rfl (EX.move rfl) ?_
    refine OW.as 27 (.bool true) rfl (congrArg Value.bool (decide_eq_true (by decide))) ?_
    refine OW.pass rfl rfl ?_
    refine OW.pass rfl rfl ?_
    refine OW.val rfl rfl (EX.pickT rfl rfl) ?_
    refine OW.val rfl rfl (EX.move rfl) ?_
    refine OW.pass rfl rfl ?_
    refine OW.pass rfl rfl ?_
    refine OW.pass rfl rfl ?_
    refine OW.pass rfl rfl ?_
    refine OW.val rfl rfl (EX.pickT rfl rfl) ?_
    refine OW.val rfl rfl (EX.move rfl) ?_
    refine OW.pass rfl rfl ?_
    refine OW.pass rfl rfl ?_
    refine OW.pass rfl rfl ?_
    refine OW.val rfl rfl (EX.pickT rfl rfl) ?_
    refine OW.nil ?_
    refine KW.condT rfl (KW.seq (KW.region ?_))
    refine OW.call rfl rfl rfl (awake_s w1) ?_
    rintro _ w2 ⟨rfl, hx2⟩
    refine OW.val rfl rfl (EX.assign rfl) ?_
    refine OW.nil ?_
    refine KW.ret (ret1 rfl rfl ?_)
    exact ⟨rfl, x1.trans hx2⟩
  · have hm1 := hm.1
    have hm2 := hm.2.1
    have hfb1 := hfb0.ext hx1
    have hok0 : (fresh c.toNat []).Ok := fresh_ok (by omega) (by simp) (by simp)
    refine KW.cutd1 (fun (wr : World) => (acts.length ≤ 60 ∧ 1 ≤ f.at_) ∧ wr = w1) (fun (wr : World) => [(0, .int .i64 (c : Int)), (1, .slice A acts.length k), (5, .pointer (some ⟨fb, 0, none⟩)), (7, .pointer (some ⟨b, 0, none⟩))]) (fun (wr : World) => wr) ?_ ?_
    · refine KW.region ?_
      refine OW.val rfl rfl (EX.move rfl) ?_
      refine OW.val rfl rfl (by first | exact EX.neqN (b := 0) rfl rfl | exact EX.neqZ rfl rfl) ?_
      refine OW.val rfl rfl (EX.move rfl) ?_
      refine OW.as 27 (.bool false) rfl (congrArg Value.bool (decide_eq_false (by decide))) ?_
      refine OW.val rfl rfl (EX.move rfl) ?_
      refine OW.val rfl rfl (by first | exact EX.eqlP1 Try.underlying23 rfl rfl | exact EX.eqlP0 Try.underlying23 rfl rfl) ?_
      refine OW.val rfl rfl (EX.pickF rfl rfl) ?_
      refine OW.val rfl rfl (EX.move rfl) ?_
      refine OW.val rfl rfl (EX.move rfl) ?_
      refine OW.val rfl rfl (EX.move rfl) ?_
      refine OW.call rfl rfl rfl (few_s c A acts.length k w1) ?_
      rintro _ _ ⟨rfl, rfl⟩
      refine OW.val rfl rfl (by first | exact EX.notD rfl | exact EX.notB rfl) ?_
      refine OW.val rfl rfl (EX.pickF rfl rfl) ?_
      refine OW.val rfl rfl (EX.move rfl) ?_
      refine OW.splitD 37 rfl (fun hfw => ?_) (fun hfw => ?_)
      · refine OW.pass rfl rfl ?_
        refine OW.pass rfl rfl ?_
        refine OW.pass rfl rfl ?_
        refine OW.val rfl rfl (EX.pickT rfl rfl) ?_
        refine OW.nil ?_
        refine KW.condT rfl (KW.seq (KW.region ?_))
        refine OW.call rfl rfl rfl (awake_s w1) ?_
        rintro _ w2 ⟨rfl, hx2⟩
        refine OW.val rfl rfl (EX.assign rfl) ?_
        refine OW.nil ?_
        refine KW.ret (ret1 rfl rfl ?_)
        exact ⟨rfl, x1.trans hx2⟩
      · refine OW.val rfl rfl (EX.fieldAddr (off := 0) Try.underlying39 rfl rfl ti3 rfl rfl) ?_
        refine OW.val rfl rfl (EX.load Try.underlying3 rfl rfl (hfb1.cell_of rfl)) ?_
        refine OW.val rfl rfl (by first | exact EX.lssN (b := 1) rfl rfl | exact EX.lssZ rfl rfl) ?_
        refine OW.val rfl rfl (EX.pickF rfl rfl) ?_
        refine OW.nil ?_
        refine KW.condD rfl (fun hat => ?_) (fun hat => ?_)
        · refine KW.seq (KW.region ?_)
          refine OW.call rfl rfl rfl (awake_s w1) ?_
          rintro _ w2 ⟨rfl, hx2⟩
          refine OW.val rfl rfl (EX.assign rfl) ?_
          refine OW.nil ?_
          refine KW.ret (ret1 rfl rfl ?_)
          exact ⟨rfl, x1.trans hx2⟩
        · refine KW.skip ?_
          refine KW.meet1 (w1) ⟨rfl, rfl, rfl, rfl, trivial⟩ rfl ?_
          exact ⟨⟨by simp at hfw; omega, by omega⟩, rfl⟩
    · rintro _ ⟨⟨hfew, hat⟩, rfl⟩
      have hp : (fresh c.toNat []).plan f.at_ f.ks = ({ (fresh c.toNat []) with at_ := f.at_.toNat, keep := f.ks }, 0) := by
        unfold Dv.plan
        rw [show (fresh c.toNat []).dead = false from rfl, if_neg (by simp), if_neg (by omega)]
        rfl
      have hpok := plan_ok hok0 f.at_ f.ks
      rw [hp] at hpok
      have hpd := plan_e hd1 hok0 f.at_ f0.1 f0.2 f.A f.k _ f.ks (hf.sl.ext x1) hf.nil fl hp
      generalize hD0 : ({ (fresh c.toNat []) with at_ := f.at_.toNat, keep := f.ks } : Dv) = D0 at hpok hpd
      have run0 : Run c.toNat f.ks 0 D0 [] [] := by
        subst hD0
        exact ⟨⟨fun j hj => by simp [fresh] at hj, fun j hj => by simp [fresh] at hj, fun q hq => by simp [fresh] at hq⟩, hpok, rfl, by simp [fresh], by simp [fresh], by show f.at_.toNat ≤ _; omega, Nat.le_refl _, by simp, fun _ hx => (List.not_mem_nil hx).elim, rfl⟩
      refine KW.seq (KW.region ?_)
      refine OW.val rfl rfl (EX.assign rfl) ?_
      refine OW.nil ?_
      refine KW.seq (KW.region ?_)
      refine OW.val rfl rfl (EX.assign rfl) ?_
      refine OW.nil ?_
      refine KW.seq (KW.seq (KW.region ?_))
      refine OW.val rfl rfl (EX.move rfl) ?_
      refine OW.val rfl rfl (EX.loadBk Try.underlying39 rfl ti39 rfl (hfb1) (rfl)) ?_
      refine OW.call rfl rfl rfl (hpd) ?_
      rintro _ w2 ⟨rfl, hd2, t2⟩
      refine OW.val rfl rfl (by first | exact EX.neqN (b := 0) rfl rfl | exact EX.neqZ rfl rfl) ?_
      refine OW.nil ?_
      have x2 : Ext w w2 := t2.below x1 x1.size hx0.size
      refine KW.condD rfl (fun hz => ?_) (fun hz => ?_)
      · exact absurd rfl hz
      · refine KW.skip (KW.seq (KW.seq (KW.region ?_)))
        refine OW.val rfl rfl (EX.assign rfl) ?_
        refine OW.nil ?_
        refine KW.cut5 (fun (D : Dv) (was : By) (wn : Acs) (v : Value) (wr : World) => (∃ i, i ≤ 60 ∧ Run c.toNat f.ks i D was wn) ∧ DevAt wr w0.heap.size b D ∧ Own wr w.heap.size 44 6 v wn.length (actsV wn) ∧ Ext w wr) (fun (D : Dv) (was : By) (wn : Acs) (v : Value) (wr : World) => [(7, .pointer (some ⟨b, 0, none⟩)), (9, str (was)), (10, v)]) (fun (D : Dv) (was : By) (wn : Acs) (v : Value) (wr : World) => wr) ?_ ?_
        · refine KW.block ?_
          refine KW.loop6 (fun (i : Nat) (D : Dv) (was : By) (wn : Acs) (v : Value) (wr : World) => i ≤ acts.length ∧ Run c.toNat f.ks i D was wn ∧ DevAt wr w0.heap.size b D ∧ Own wr w.heap.size 44 6 v wn.length (actsV wn) ∧ Ext w wr) (fun (i : Nat) (D : Dv) (was : By) (wn : Acs) (v : Value) (wr : World) => [(0, .int .i64 (c : Int)), (1, .slice A acts.length k), (7, .pointer (some ⟨b, 0, none⟩)), (9, str (was)), (10, v), (11, .int .i64 ((i : Nat) : Int))]) (fun (i : Nat) (D : Dv) (was : By) (wn : Acs) (v : Value) (wr : World) => wr) (fun (i : Nat) (D : Dv) (was : By) (wn : Acs) (v : Value) (wr : World) => acts.length - i) (0) (D0) ([]) ([]) (.slice none 0 0) (w2) ⟨rfl, rfl, rfl, rfl, rfl, rfl, trivial⟩ rfl ?_ ?_
          · exact ⟨by omega, run0, hd2, Own.nil _ _ _ _, x2⟩
          · rintro i D was wn v wr ⟨hi, run, hd, hown, hx⟩
            have stop : ∃ i, i ≤ 60 ∧ Run c.toNat f.ks i D was wn := ⟨i, by omega, run⟩
            have hsz0 := hx0.size
            refine KW.seq (KW.seq ?_)
            refine KW.region ?_
            refine OW.val rfl rfl (EX.move rfl) ?_
            refine OW.val rfl rfl (EX.move rfl) ?_
            refine OW.val rfl rfl (EX.lenA Try.underlying33 rfl) ?_
            refine OW.val rfl rfl (by first | exact EX.lssN rfl rfl | exact EX.lssZ rfl rfl) ?_
            refine OW.val rfl rfl (EX.move rfl) ?_
            refine OW.splitD 51 rfl (fun hlt => ?_) (fun hlt => ?_)
            · refine OW.val rfl rfl (EX.move rfl) ?_
              refine OW.call rfl rfl rfl (dead_d hd run.ok) ?_
              rintro _ _ ⟨rfl, rfl⟩
              refine OW.val rfl rfl (by first | exact EX.notD rfl | exact EX.notB rfl) ?_
              refine OW.val rfl rfl (EX.pickT rfl rfl) ?_
              refine OW.nil ?_
              refine KW.cond rfl (fun hdead => ?_) (fun hdead => ?_)
              · have hlive : D.dead = false := by simpa using hdead
                obtain ⟨ba, o, rfl, _, hcell⟩ := acts_cell (hsl.ext hx) hlt
                have hao := hok _ (List.getElem_mem hlt)
                have hone : (acts[i]).cells.all (·.oneCell') = true := by have := hao.one; simp only [Ac.cells, List.all_cons, List.all_nil, this]; rfl
                generalize acts[i] = a at hcell hao hone
                refine KW.skip (KW.seq (KW.block (KW.seq (KW.region ?_))))
                refine OW.val rfl rfl (EX.move rfl) ?_
                refine OW.val rfl rfl (EX.move rfl) ?_
                refine OW.val rfl rfl (EX.indexAddrS Try.underlying33 ti44 rfl rfl (by omega)) ?_
                refine OW.val rfl rfl (EX.loadA (l := a.cells) Try.underlying44 rfl ti44 rfl rfl hcell) ?_
                refine OW.allocB (l := [.int .i64 0, .int .i64 0, .int .u8 0, .bool false, .int .i64 0, .slice none 0 0]) rfl rfl ti44 rfl ?_
                rintro ab w3 hge3 hab3 hx3
                refine OW.storeS rfl ti44 rfl rfl rfl (by first | rfl | (simp only [List.all_cons, List.all_nil, Bool.and_true, Bool.true_and, Bool.and_eq_true, Value.oneCell']; repeat (first | assumption | exact Own.one (by assumption) | constructor))) (hab3) (Nat.le_refl _) ?_
                rintro w4 hab4 hm4
                refine OW.nil ?_
                refine KW.seq (KW.seq ?_)
                replace hab4 : Bk w4 ab 44 a.cells := hab4
                have x3 := hx.trans hx3
                have hsz := hx.size
                have xr4 : Ext wr w4 := below_mo hx3 hm4 hx3.size (fun k hk => by simp at hk; omega)
                have x4 : Ext w w4 := hx.trans xr4
                have hd4 := hd.ext xr4
                have hown4 := hown.ext xr4
                refine KW.cutd1 (fun (wq : World) => (a.kind ≠ 4 ∧ a.kind ≠ 5) ∧ wq = w4) (fun (wq : World) => [(0, .int .i64 (c : Int)), (1, .slice (some ⟨ba, o, none⟩) acts.length k), (7, .pointer (some ⟨b, 0, none⟩)), (9, str (was)), (10, v), (11, .int .i64 ((i : Nat) : Int)), (12, .pointer (some ⟨ab, 0, none⟩))]) (fun (wq : World) => wq) ?_ ?_
                · refine KW.region ?_
                  refine OW.val rfl rfl (EX.fieldAddr (off := 0) Try.underlying44 rfl rfl ti3 rfl rfl) ?_
                  refine OW.val rfl rfl (EX.load Try.underlying3 rfl rfl (hab4.cell_of rfl)) ?_
                  refine OW.val rfl rfl (by first | exact EX.eqlN (b := 4) rfl rfl | exact EX.eqlZ rfl rfl) ?_
                  refine OW.val rfl rfl (EX.move rfl) ?_
                  refine OW.splitD 65 rfl (fun k4 => ?_) (fun k4 => ?_)
                  · refine OW.pass rfl rfl ?_
                    refine OW.pass rfl rfl ?_
                    refine OW.pass rfl rfl ?_
                    refine OW.val rfl rfl (EX.pickT rfl rfl) ?_
                    refine OW.nil ?_
                    refine KW.condT rfl (KW.exit rfl (KW.region ?_))
                    refine OW.val rfl rfl (EX.move rfl) ?_
                    refine OW.val rfl rfl (by first | exact EX.addN (b := 1) (m := 9223372036854775807) rfl rfl rfl (by omega) | exact EX.addZ (m := 9223372036854775807) rfl rfl rfl rfl (by omega)) ?_
                    refine OW.val rfl rfl (EX.assign rfl) ?_
                    refine OW.nil ?_
                    refine KW.back6 (i + 1) (D) (was) (wn) (v) (w4) ⟨rfl, rfl, rfl, rfl, rfl, rfl, trivial⟩ rfl ?_ (by omega)
                    exact ⟨by omega, run.more, hd4, hown4, x4⟩
                  · refine OW.val rfl rfl (EX.fieldAddr (off := 0) Try.underlying44 rfl rfl ti3 rfl rfl) ?_
                    refine OW.val rfl rfl (EX.load Try.underlying3 rfl rfl (hab4.cell_of rfl)) ?_
                    refine OW.val rfl rfl (by first | exact EX.eqlN (b := 5) rfl rfl | exact EX.eqlZ rfl rfl) ?_
                    refine OW.val rfl rfl (EX.pickF rfl rfl) ?_
                    refine OW.nil ?_
                    refine KW.condD rfl (fun k5 => ?_) (fun k5 => ?_)
                    · refine KW.exit rfl (KW.region ?_)
                      refine OW.val rfl rfl (EX.move rfl) ?_
                      refine OW.val rfl rfl (by first | exact EX.addN (b := 1) (m := 9223372036854775807) rfl rfl rfl (by omega) | exact EX.addZ (m := 9223372036854775807) rfl rfl rfl rfl (by omega)) ?_
                      refine OW.val rfl rfl (EX.assign rfl) ?_
                      refine OW.nil ?_
                      refine KW.back6 (i + 1) (D) (was) (wn) (v) (w4) ⟨rfl, rfl, rfl, rfl, rfl, rfl, trivial⟩ rfl ?_ (by omega)
                      exact ⟨by omega, run.more, hd4, hown4, x4⟩
                    · refine KW.skip ?_
                      refine KW.meet1 (w4) ⟨rfl, rfl, rfl, rfl, rfl, rfl, rfl, trivial⟩ rfl ?_
                      exact ⟨⟨k4, k5⟩, rfl⟩
                · rintro w4 ⟨⟨k4, k5⟩, e4⟩
                  subst e4
                  have hwl := run.wl
                  have hwk := run.wok
                  refine KW.seq (KW.seq ?_)
                  refine KW.cutd2 (fun (v2 : Value) (w5 : World) => Own w5 w.heap.size 44 6 v2 (wnAfter ((c.toNat : Nat) : Int) wn a).length (actsV (wnAfter ((c.toNat : Nat) : Int) wn a)) ∧ Bk w5 ab 44 a.cells ∧ DevAt w5 w0.heap.size b D ∧ Ext w w5) (fun (v2 : Value) (w5 : World) => [(0, .int .i64 (c : Int)), (1, .slice (some ⟨ba, o, none⟩) acts.length k), (7, .pointer (some ⟨b, 0, none⟩)), (9, str (was)), (10, v2), (11, .int .i64 ((i : Nat) : Int)), (12, .pointer (some ⟨ab, 0, none⟩))]) (fun (v2 : Value) (w5 : World) => w5) ?_ ?_
                  · have no : ¬ isW ((c.toNat : Nat) : Int) a → (Own w4 w.heap.size 44 6 v (wnAfter ((c.toNat : Nat) : Int) wn a).length (actsV (wnAfter ((c.toNat : Nat) : Int) wn a)) ∧ Bk w4 ab 44 a.cells ∧ DevAt w4 w0.heap.size b D ∧ Ext w w4) := fun h => by
                      rw [wnAfter_no h]
                      exact ⟨hown4, hab4, hd4, x4⟩
                    refine KW.region ?_
                    refine OW.val rfl rfl (EX.fieldAddr (off := 0) Try.underlying44 rfl rfl ti3 rfl rfl) ?_
                    refine OW.val rfl rfl (EX.load Try.underlying3 rfl rfl (hab4.cell_of rfl)) ?_
                    refine OW.val rfl rfl (by first | exact EX.eqlN (b := 1) rfl rfl | exact EX.eqlZ rfl rfl) ?_
                    refine OW.val rfl rfl (EX.move rfl) ?_
                    refine OW.splitD 73 rfl (fun k1 => ?_) (fun k1 => ?_)
                    · refine OW.val rfl rfl (EX.fieldAddr (off := 1) Try.underlying44 rfl rfl ti3 rfl rfl) ?_
                      refine OW.val rfl rfl (EX.load Try.underlying3 rfl rfl (hab4.cell_of rfl)) ?_
                      refine OW.val rfl rfl (by first | exact EX.geqN (b := 0) rfl rfl | exact EX.geqZ rfl rfl) ?_
                      refine OW.val rfl rfl (EX.pickT rfl rfl) ?_
                      refine OW.val rfl rfl (EX.move rfl) ?_
                      refine OW.splitD 78 rfl (fun k2 => ?_) (fun k2 => ?_)
                      · refine OW.val rfl rfl (EX.fieldAddr (off := 1) Try.underlying44 rfl rfl ti3 rfl rfl) ?_
                        refine OW.val rfl rfl (EX.load Try.underlying3 rfl rfl (hab4.cell_of rfl)) ?_
                        refine OW.val rfl rfl (EX.move rfl) ?_
                        refine OW.val rfl rfl (by first | exact EX.lssN rfl rfl | exact EX.lssZ rfl rfl) ?_
                        refine OW.val rfl rfl (EX.pickT rfl rfl) ?_
                        refine OW.val rfl rfl (EX.move rfl) ?_
                        refine OW.splitD 84 rfl (fun k3 => ?_) (fun k3 => ?_)
                        · refine OW.val rfl rfl (EX.fieldAddr (off := 3) Try.underlying44 rfl rfl ti4 rfl rfl) ?_
                          refine OW.val rfl rfl (EX.load Try.underlying4 rfl rfl (hab4.cell_of rfl)) ?_
                          refine OW.val rfl rfl (by first | exact EX.notD rfl | exact EX.notB rfl) ?_
                          refine OW.val rfl rfl (EX.pickT rfl rfl) ?_
                          refine OW.nil ?_
                          refine KW.cond rfl (fun ho => ?_) (fun ho => ?_)
                          · have hodd : a.odd = false := by simpa using ho
                            refine KW.region ?_
                            refine OW.val rfl rfl (EX.move rfl) ?_
                            refine OW.val rfl rfl (EX.loadBk Try.underlying44 rfl ti44 rfl (hab4) (rfl)) ?_
                            refine OW.pushS rfl rfl (fun _ => rfl) rfl Try.underlying33 ti44 rfl (by decide) (by decide) rfl rfl (fun _ => rfl) (by first | rfl | assumption | (simp only [List.all_cons, List.all_nil, Bool.and_true, Bool.true_and, Bool.and_eq_true, Value.oneCell']; repeat (first | assumption | constructor))) (x4) (hown4) (by simp only [maxLen]; omega) (by omega) ?_
                            rintro _ v5 w5 hown5 hx5 hg5
                            refine OW.val rfl rfl (EX.assign rfl) ?_
                            refine OW.nil ?_
                            refine KW.meet2 (v5) (w5) ⟨rfl, rfl, rfl, rfl, rfl, rfl, rfl, trivial⟩ rfl ?_
                            have tm5 := Tm.grown hown4 hg5
                            rw [wnAfter_ok ⟨k1, by omega, by omega, hodd⟩, List.length_append, actsV_snoc]
                            exact ⟨hown5, hab4.mo (Mo.grown hg5 (S := v.ownBlock.toList) (fun k e => by rw [e]; simp)) (fun hk => by have := (hown.lt ab (Option.mem_toList.1 hk)).2; omega), hd4.tm tm5 rfl rfl rfl rfl rfl rfl, hx5⟩
                          · refine KW.skip ?_
                            refine KW.meet2 (v) (w4) ⟨rfl, rfl, rfl, rfl, rfl, rfl, rfl, trivial⟩ rfl ?_
                            exact no fun h => by simp [h.2.2.2] at ho
                        · refine OW.pass rfl rfl ?_
                          refine OW.pass rfl rfl ?_
                          refine OW.pass rfl rfl ?_
                          refine OW.val rfl rfl (EX.pickF rfl rfl) ?_
                          refine OW.nil ?_
                          refine KW.condF rfl (KW.skip ?_)
                          refine KW.meet2 (v) (w4) ⟨rfl, rfl, rfl, rfl, rfl, rfl, rfl, trivial⟩ rfl ?_
                          exact no fun h => k3 (by have := h.2.2.1; omega)
                      · refine OW.pass rfl rfl ?_
                        refine OW.pass rfl rfl ?_
                        refine OW.pass rfl rfl ?_
                        refine OW.pass rfl rfl ?_
                        refine OW.val rfl rfl (EX.pickF rfl rfl) ?_
                        refine OW.val rfl rfl (EX.move rfl) ?_
                        refine OW.pass rfl rfl ?_
                        refine OW.pass rfl rfl ?_
                        refine OW.pass rfl rfl ?_
                        refine OW.val rfl rfl (EX.pickF rfl rfl) ?_
                        refine OW.nil ?_
                        refine KW.condF rfl (KW.skip ?_)
                        refine KW.meet2 (v) (w4) ⟨rfl, rfl, rfl, rfl, rfl, rfl, rfl, trivial⟩ rfl ?_
                        exact no fun h => k2 h.2.1
                    · refine OW.pass rfl rfl ?_
                      refine OW.pass rfl rfl ?_
                      refine OW.pass rfl rfl ?_
                      refine OW.val rfl rfl (EX.pickF rfl rfl) ?_
                      refine OW.val rfl rfl (EX.move rfl) ?_
                      refine OW.pass rfl rfl ?_
                      refine OW.pass rfl rfl ?_
                      refine OW.pass rfl rfl ?_
                      refine OW.pass rfl rfl ?_
                      refine OW.val rfl rfl (EX.pickF rfl rfl) ?_
                      refine OW.val rfl rfl (EX.move rfl) ?_
                      refine OW.pass rfl rfl ?_
                      refine OW.pass rfl rfl ?_
                      refine OW.pass rfl rfl ?_
                      refine OW.val rfl rfl (EX.pickF rfl rfl) ?_
                      refine OW.nil ?_
                      refine KW.condF rfl (KW.skip ?_)
                      refine KW.meet2 (v) (w4) ⟨rfl, rfl, rfl, rfl, rfl, rfl, rfl, trivial⟩ rfl ?_
                      exact no fun h => k1 h.1
                  · rintro v2 w5 ⟨hown5, hab5, hd5, x5⟩
                    refine KW.seq (KW.region ?_)
                    refine OW.val rfl rfl (EX.move rfl) ?_
                    refine OW.val rfl rfl (EX.loadBk Try.underlying44 rfl ti44 rfl (hab5) (rfl)) ?_
                    refine OW.call rfl rfl rfl (act_d hd5 run.ok (run.small (by omega) fl) a hao k4 k5) ?_
                    rintro _ w6 ⟨rfl, hd6, t6⟩
                    refine OW.val rfl rfl (EX.move rfl) ?_
                    refine OW.val rfl rfl (EX.extract rfl rfl) ?_
                    refine OW.val rfl rfl (EX.extract rfl rfl) ?_
                    refine OW.val rfl rfl (EX.assign rfl) ?_
                    refine OW.val rfl rfl (EX.assign rfl) ?_
                    refine OW.nil ?_
                    refine KW.seq ?_
                    have x6 : Ext w w6 := t6.below x5 x5.size hsz0
                    have hab6 := t6.bk hab5 rfl
                    have hown6 := t6.own hown5 rfl
                    refine KW.region ?_
                    refine OW.val rfl rfl (EX.fieldAddr (off := 0) Try.underlying44 rfl rfl ti3 rfl rfl) ?_
                    refine OW.val rfl rfl (EX.load Try.underlying3 rfl rfl (hab6.cell_of rfl)) ?_
                    refine OW.val rfl rfl (by first | exact EX.eqlN (b := 3) rfl rfl | exact EX.eqlZ rfl rfl) ?_
                    refine OW.val rfl rfl (EX.move rfl) ?_
                    refine OW.splitD 102 rfl (fun s3 => ?_) (fun s3 => ?_)
                    · refine OW.val rfl rfl (EX.move rfl) ?_
                      refine OW.val rfl rfl (by first | exact EX.eqlN (b := 0) rfl rfl | exact EX.eqlZ rfl rfl) ?_
                      refine OW.val rfl rfl (EX.pickT rfl rfl) ?_
                      refine OW.nil ?_
                      refine KW.condD rfl (fun s0 => ?_) (fun s0 => ?_)
                      · have s0' : (D.act a).2.2 = 0 := by omega
                        refine KW.seq (KW.region ?_)
                        refine OW.val rfl rfl (EX.move rfl) ?_
                        refine OW.call rfl rfl rfl (image_d hd6 (act_ok run.ok a)) ?_
                        rintro _ _ ⟨rfl, rfl⟩
                        refine OW.val rfl rfl (EX.assign rfl) ?_
                        refine OW.nil ?_
                        refine KW.region ?_
                        refine OW.val rfl rfl (EX.assign rfl) ?_
                        refine OW.nil ?_
                        refine KW.leave (KW.region ?_)
                        refine OW.val rfl rfl (EX.move rfl) ?_
                        refine OW.val rfl rfl (by first | exact EX.addN (b := 1) (m := 9223372036854775807) rfl rfl rfl (by omega) | exact EX.addZ (m := 9223372036854775807) rfl rfl rfl rfl (by omega)) ?_
                        refine OW.val rfl rfl (EX.assign rfl) ?_
                        refine OW.nil ?_
                        refine KW.back6 (i + 1) ((D.act a).1) ((D.act a).1.now) ([]) (.slice none 0 0) (w6) ⟨rfl, rfl, rfl, rfl, rfl, rfl, trivial⟩ rfl ?_ (by omega)
                        exact ⟨by omega, run.sync hlive a s3 s0', hd6, Own.nil _ _ _ _, x6⟩
                      · refine KW.skip (KW.leave (KW.region ?_))
                        refine OW.val rfl rfl (EX.move rfl) ?_
                        refine OW.val rfl rfl (by first | exact EX.addN (b := 1) (m := 9223372036854775807) rfl rfl rfl (by omega) | exact EX.addZ (m := 9223372036854775807) rfl rfl rfl rfl (by omega)) ?_
                        refine OW.val rfl rfl (EX.assign rfl) ?_
                        refine OW.nil ?_
                        refine KW.back6 (i + 1) ((D.act a).1) (was) (wnAfter ((c.toNat : Nat) : Int) wn a) (v2) (w6) ⟨rfl, rfl, rfl, rfl, rfl, rfl, trivial⟩ rfl ?_ (by omega)
                        exact ⟨by omega, run.act hlive a hao (fun h => s0 (by rw [h.2])), hd6, hown6, x6⟩
                    · refine OW.pass rfl rfl ?_
                      refine OW.pass rfl rfl ?_
                      refine OW.val rfl rfl (EX.pickF rfl rfl) ?_
                      refine OW.nil ?_
                      refine KW.condF rfl (KW.skip (KW.leave (KW.region ?_)))
                      refine OW.val rfl rfl (EX.move rfl) ?_
                      refine OW.val rfl rfl (by first | exact EX.addN (b := 1) (m := 9223372036854775807) rfl rfl rfl (by omega) | exact EX.addZ (m := 9223372036854775807) rfl rfl rfl rfl (by omega)) ?_
                      refine OW.val rfl rfl (EX.assign rfl) ?_
                      refine OW.nil ?_
                      refine KW.back6 (i + 1) ((D.act a).1) (was) (wnAfter ((c.toNat : Nat) : Int) wn a) (v2) (w6) ⟨rfl, rfl, rfl, rfl, rfl, rfl, trivial⟩ rfl ?_ (by omega)
                      exact ⟨by omega, run.act hlive a hao (fun h => s3 h.1), hd6, hown6, x6⟩
              · refine KW.exit rfl ?_
                refine KW.meet5 (D) (was) (wn) (v) (wr) ⟨rfl, rfl, rfl, trivial⟩ rfl ?_
                exact ⟨stop, hd, hown, hx⟩
            · refine OW.pass rfl rfl ?_
              refine OW.pass rfl rfl ?_
              refine OW.pass rfl rfl ?_
              refine OW.val rfl rfl (EX.pickF rfl rfl) ?_
              refine OW.nil ?_
              refine KW.condF rfl (KW.exit rfl ?_)
              refine KW.meet5 (D) (was) (wn) (v) (wr) ⟨rfl, rfl, rfl, trivial⟩ rfl ?_
              exact ⟨stop, hd, hown, hx⟩
        · rintro D was wn v wr ⟨⟨i0, hi0, run⟩, hd, hown, hx⟩
          obtain ⟨AL, cL, rfl, hcL, hsw⟩ := hown.slice
          have hgd := run.bt.now
          have hnM := run.ok.nowM
          have hnl := run.ok.now
          have hcap := run.cap
          have hwM := run.was
          have hwok := run.wok
          have hwl := run.wl
          refine KW.seq (KW.region ?_)
          refine OW.val rfl rfl (EX.move rfl) ?_
          refine OW.call rfl rfl rfl (image_d hd run.ok) ?_
          rintro _ _ ⟨rfl, rfl⟩
          refine OW.val rfl rfl (EX.assign rfl) ?_
          refine OW.nil ?_
          refine KW.seq (KW.seq (KW.region ?_))
          refine OW.val rfl rfl (EX.assign rfl) ?_
          refine OW.nil ?_
          refine KW.block ?_
          generalize D.now = now at hgd hnM hnl
          refine KW.loop2 (fun (j : Nat) (w5 : World) => j * 512 ≤ now.length ∧ Ext wr w5) (fun (j : Nat) (w5 : World) => [(9, str (was)), (10, .slice AL wn.length cL), (15, str (now)), (16, .int .i64 ((j : Nat) : Int))]) (fun (j : Nat) (w5 : World) => w5) (fun (j : Nat) (w5 : World) => now.length - j * 512) (0) (wr) ⟨rfl, rfl, rfl, rfl, trivial⟩ rfl ?_ ?_
          · exact ⟨by omega, Ext.refl _⟩
          · rintro j w5 ⟨hj, hx5⟩
            refine KW.seq (KW.seq (KW.region ?_))
            refine OW.val rfl rfl (EX.move rfl) ?_
            refine OW.val rfl rfl (by first | exact EX.mulN (b := 512) (m := 9223372036854775807) rfl rfl rfl (by omega) | exact EX.mulZ (m := 9223372036854775807) rfl rfl rfl rfl (by omega)) ?_
            refine OW.val rfl rfl (EX.move rfl) ?_
            refine OW.val rfl rfl (EX.lenS Try.underlying9 rfl) ?_
            refine OW.val rfl rfl (by first | exact EX.lssN rfl rfl | exact EX.lssZ rfl rfl) ?_
            refine OW.nil ?_
            refine KW.condD rfl (fun hjl => ?_) (fun hjl => ?_)
            · have hsec : (now.drop (j * 512)).take (j * 512 + 512 - j * 512) = sec now j := by unfold sec; rw [show j * 512 + 512 - j * 512 = 512 by omega]
              refine KW.skip (KW.seq (KW.block (KW.seq (KW.region ?_))))
              refine OW.val rfl rfl (EX.move rfl) ?_
              refine OW.val rfl rfl (EX.move rfl) ?_
              refine OW.val rfl rfl (by first | exact EX.mulN (b := 512) (m := 9223372036854775807) rfl rfl rfl (by omega) | exact EX.mulZ (m := 9223372036854775807) rfl rfl rfl rfl (by omega)) ?_
              refine OW.val rfl rfl (EX.move rfl) ?_
              refine OW.val rfl rfl (by first | exact EX.mulN (b := 512) (m := 9223372036854775807) rfl rfl rfl (by omega) | exact EX.mulZ (m := 9223372036854775807) rfl rfl rfl rfl (by omega)) ?_
              refine OW.val rfl rfl (by first | exact EX.addN (b := 512) (m := 9223372036854775807) rfl rfl rfl (by omega) | exact EX.addZ (m := 9223372036854775807) rfl rfl rfl rfl (by omega)) ?_
              refine OW.val rfl rfl (EX.sliceLH Try.underlying9 rfl rfl rfl (by omega)) ?_
              refine OW.val rfl rfl (EX.assign rfl) ?_
              refine OW.nil ?_
              refine KW.seq ?_
              rw [hsec]
              refine KW.cut2 (fun (ok : Bool) (w6 : World) => (ok = true ↔ okN was now wn j 0) ∧ Ext wr w6) (fun (ok : Bool) (w6 : World) => [(9, str (was)), (10, .slice AL wn.length cL), (15, str (now)), (16, .int .i64 ((j : Nat) : Int)), (17, str ((sec now j))), (18, .bool ok)]) (fun (ok : Bool) (w6 : World) => w6) ?_ ?_
              · have sc := sector_s 0 (by decide) false w5
                refine KW.region ?_
                refine OW.val rfl rfl (EX.move rfl) ?_
                refine OW.call rfl rfl rfl (sc) ?_
                rintro _ w6 ⟨rfl, hx6⟩
                refine OW.val rfl rfl (EX.eqlS rfl rfl) ?_
                refine OW.val rfl rfl (EX.move rfl) ?_
                refine OW.splitD 127 rfl (fun q1 => ?_) (fun q1 => ?_)
                · refine OW.pass rfl rfl ?_
                  refine OW.pass rfl rfl ?_
                  refine OW.pass rfl rfl ?_
                  refine OW.pass rfl rfl ?_
                  refine OW.pass rfl rfl ?_
                  refine OW.pass rfl rfl ?_
                  refine OW.pass rfl rfl ?_
                  refine OW.pass rfl rfl ?_
                  refine OW.pass rfl rfl ?_
                  refine OW.pass rfl rfl ?_
                  refine OW.pass rfl rfl ?_
                  refine OW.pass rfl rfl ?_
                  refine OW.pass rfl rfl ?_
                  refine OW.pass rfl rfl ?_
                  refine OW.pass rfl rfl ?_
                  refine OW.pass rfl rfl ?_
                  refine OW.val rfl rfl (EX.pickT rfl rfl) ?_
                  refine OW.val rfl rfl (EX.assign rfl) ?_
                  refine OW.nil ?_
                  refine KW.meet2 (true) (w6) ⟨rfl, rfl, rfl, rfl, rfl, rfl, trivial⟩ rfl ?_
                  exact ⟨by simp [okN, q1], hx5.trans hx6⟩
                · refine OW.val rfl rfl (EX.move rfl) ?_
                  refine OW.val rfl rfl (by first | exact EX.mulN (b := 512) (m := 9223372036854775807) rfl rfl rfl (by omega) | exact EX.mulZ (m := 9223372036854775807) rfl rfl rfl rfl (by omega)) ?_
                  refine OW.val rfl rfl (EX.move rfl) ?_
                  refine OW.val rfl rfl (EX.lenS Try.underlying9 rfl) ?_
                  refine OW.val rfl rfl (by first | exact EX.lssN rfl rfl | exact EX.lssZ rfl rfl) ?_
                  refine OW.val rfl rfl (EX.move rfl) ?_
                  refine OW.splitD 133 rfl (fun q2 => ?_) (fun q2 => ?_)
                  · have hsw2 : (was.drop (j * 512)).take (j * 512 + 512 - j * 512) = sec was j := by unfold sec; rw [show j * 512 + 512 - j * 512 = 512 by omega]
                    refine OW.val rfl rfl (EX.move rfl) ?_
                    refine OW.val rfl rfl (EX.move rfl) ?_
                    refine OW.val rfl rfl (EX.move rfl) ?_
                    refine OW.val rfl rfl (by first | exact EX.mulN (b := 512) (m := 9223372036854775807) rfl rfl rfl (by omega) | exact EX.mulZ (m := 9223372036854775807) rfl rfl rfl rfl (by omega)) ?_
                    refine OW.val rfl rfl (EX.move rfl) ?_
                    refine OW.val rfl rfl (by first | exact EX.mulN (b := 512) (m := 9223372036854775807) rfl rfl rfl (by omega) | exact EX.mulZ (m := 9223372036854775807) rfl rfl rfl rfl (by omega)) ?_
                    refine OW.val rfl rfl (by first | exact EX.addN (b := 512) (m := 9223372036854775807) rfl rfl rfl (by omega) | exact EX.addZ (m := 9223372036854775807) rfl rfl rfl rfl (by omega)) ?_
                    refine OW.val rfl rfl (EX.sliceLH Try.underlying9 rfl rfl rfl (by omega)) ?_
                    refine OW.val rfl rfl (EX.eqlS rfl rfl) ?_
                    refine OW.val rfl rfl (EX.pickT rfl rfl) ?_
                    refine OW.val rfl rfl (EX.pickF rfl rfl) ?_
                    refine OW.val rfl rfl (EX.assign rfl) ?_
                    refine OW.nil ?_
                    rw [hsw2]
                    refine KW.meet2 (decide (sec now j = sec was j)) (w6) ⟨rfl, rfl, rfl, rfl, rfl, rfl, trivial⟩ rfl ?_
                    exact ⟨by simp [okN, q1, q2], hx5.trans hx6⟩
                  · refine OW.pass rfl rfl ?_
                    refine OW.pass rfl rfl ?_
                    refine OW.pass rfl rfl ?_
                    refine OW.pass rfl rfl ?_
                    refine OW.pass rfl rfl ?_
                    refine OW.pass rfl rfl ?_
                    refine OW.pass rfl rfl ?_
                    refine OW.pass rfl rfl ?_
                    refine OW.pass rfl rfl ?_
                    refine OW.val rfl rfl (EX.pickF rfl rfl) ?_
                    refine OW.val rfl rfl (EX.pickF rfl rfl) ?_
                    refine OW.val rfl rfl (EX.assign rfl) ?_
                    refine OW.nil ?_
                    refine KW.meet2 (false) (w6) ⟨rfl, rfl, rfl, rfl, rfl, rfl, trivial⟩ rfl ?_
                    exact ⟨by simp [okN, q1, q2], hx5.trans hx6⟩
              · rintro ok w6 ⟨hok6, hx6⟩
                refine KW.seq (KW.seq (KW.region ?_))
                refine OW.val rfl rfl (EX.assign rfl) ?_
                refine OW.nil ?_
                refine KW.block ?_
                refine KW.loop3 (fun (n : Nat) (ok : Bool) (w7 : World) => n ≤ wn.length ∧ (ok = true ↔ okN was now wn j n) ∧ Ext wr w7) (fun (n : Nat) (ok : Bool) (w7 : World) => [(9, str (was)), (10, .slice AL wn.length cL), (15, str (now)), (16, .int .i64 ((j : Nat) : Int)), (17, str ((sec now j))), (18, .bool ok), (19, .int .i64 ((n : Nat) : Int))]) (fun (n : Nat) (ok : Bool) (w7 : World) => w7) (fun (n : Nat) (ok : Bool) (w7 : World) => wn.length - n) (0) (ok) (w6) ⟨rfl, rfl, rfl, rfl, rfl, rfl, rfl, trivial⟩ rfl ?_ ?_
                · exact ⟨by omega, hok6, hx6⟩
                · rintro n ok w7 ⟨hn, hok7, hx7⟩
                  refine KW.seq (KW.seq (KW.region ?_))
                  refine OW.val rfl rfl (EX.move rfl) ?_
                  refine OW.val rfl rfl (EX.move rfl) ?_
                  refine OW.val rfl rfl (EX.lenA Try.underlying33 rfl) ?_
                  refine OW.val rfl rfl (by first | exact EX.lssN rfl rfl | exact EX.lssZ rfl rfl) ?_
                  refine OW.nil ?_
                  refine KW.condD rfl (fun hnl2 => ?_) (fun hnl2 => ?_)
                  · obtain ⟨b2, o2, rfl, _, hc2⟩ := acts_cell (hsw.ext hx7) hnl2
                    have hsn := okN_snoc (was := was) (now := now) (j := j) hnl2
                    have hfl := (hwok _ (List.getElem_mem hnl2)).fill
                    rcases ok with _ | _
                    · refine KW.skip (KW.seq (KW.block ?_))
                      have a1' : ¬ okN was now wn j n := fun h => by have := hok7.2 h; cases this
                      refine KW.region ?_
                      refine OW.val rfl rfl (EX.move rfl) ?_
                      refine OW.val rfl rfl (EX.move rfl) ?_
                      refine OW.val rfl rfl (EX.move rfl) ?_
                      refine OW.val rfl rfl (EX.move rfl) ?_
                      refine OW.val rfl rfl (EX.indexAddrS Try.underlying33 ti44 rfl rfl (by omega)) ?_
                      refine OW.val rfl rfl (EX.fieldAddr (off := 1) Try.underlying44 rfl rfl ti3 rfl rfl) ?_
                      refine OW.val rfl rfl (EX.load Try.underlying3 rfl rfl (hc2 1 _ rfl)) ?_
                      refine OW.val rfl rfl (EX.move rfl) ?_
                      refine OW.val rfl rfl (by first | exact EX.eqlN rfl rfl | exact EX.eqlZ rfl rfl) ?_
                      refine OW.val rfl rfl (EX.move rfl) ?_
                      refine OW.splitD 160 rfl (fun a2 => ?_) (fun a2 => ?_)
                      · refine OW.val rfl rfl (EX.move rfl) ?_
                        refine OW.val rfl rfl (EX.move rfl) ?_
                        refine OW.val rfl rfl (EX.move rfl) ?_
                        refine OW.val rfl rfl (EX.indexAddrS Try.underlying33 ti44 rfl rfl (by omega)) ?_
                        refine OW.val rfl rfl (EX.fieldAddr (off := 2) Try.underlying44 rfl rfl ti5 rfl rfl) ?_
                        refine OW.val rfl rfl (EX.load Try.underlying5 rfl rfl (hc2 2 _ rfl)) ?_
                        refine OW.call rfl rfl rfl (sector_s (wn[n]).fill hfl false w7) ?_
                        rintro _ w8 ⟨rfl, hx8⟩
                        refine OW.val rfl rfl (EX.eqlS rfl rfl) ?_
                        refine OW.val rfl rfl (EX.pickT rfl rfl) ?_
                        refine OW.val rfl rfl (EX.pickF rfl rfl) ?_
                        refine OW.val rfl rfl (EX.assign rfl) ?_
                        refine OW.nil ?_
                        refine KW.leave (KW.region ?_)
                        refine OW.val rfl rfl (EX.move rfl) ?_
                        refine OW.val rfl rfl (by first | exact EX.addN (b := 1) (m := 9223372036854775807) rfl rfl rfl (by omega) | exact EX.addZ (m := 9223372036854775807) rfl rfl rfl rfl (by omega)) ?_
                        refine OW.val rfl rfl (EX.assign rfl) ?_
                        refine OW.nil ?_
                        refine KW.back3 (n + 1) (decide (sec now j = sector (wn[n]).fill false)) (w8) ⟨rfl, rfl, rfl, rfl, rfl, rfl, rfl, trivial⟩ rfl ?_ (by omega)
                        exact ⟨by omega, by rw [hsn]; simp [a1', a2], hx7.trans hx8⟩
                      · refine OW.pass rfl rfl ?_
                        refine OW.pass rfl rfl ?_
                        refine OW.pass rfl rfl ?_
                        refine OW.pass rfl rfl ?_
                        refine OW.pass rfl rfl ?_
                        refine OW.pass rfl rfl ?_
                        refine OW.pass rfl rfl ?_
                        refine OW.pass rfl rfl ?_
                        refine OW.val rfl rfl (EX.pickF rfl rfl) ?_
                        refine OW.val rfl rfl (EX.pickF rfl rfl) ?_
                        refine OW.val rfl rfl (EX.assign rfl) ?_
                        refine OW.nil ?_
                        refine KW.leave (KW.region ?_)
                        refine OW.val rfl rfl (EX.move rfl) ?_
                        refine OW.val rfl rfl (by first | exact EX.addN (b := 1) (m := 9223372036854775807) rfl rfl rfl (by omega) | exact EX.addZ (m := 9223372036854775807) rfl rfl rfl rfl (by omega)) ?_
                        refine OW.val rfl rfl (EX.assign rfl) ?_
                        refine OW.nil ?_
                        refine KW.back3 (n + 1) (false) (w7) ⟨rfl, rfl, rfl, rfl, rfl, rfl, rfl, trivial⟩ rfl ?_ (by omega)
                        exact ⟨by omega, by rw [hsn]; simp [a1', a2], hx7⟩
                    · refine KW.skip (KW.seq (KW.block ?_))
                      refine KW.region ?_
                      refine OW.val rfl rfl (EX.move rfl) ?_
                      refine OW.val rfl rfl (EX.move rfl) ?_
                      refine OW.pass rfl rfl ?_
                      refine OW.pass rfl rfl ?_
                      refine OW.pass rfl rfl ?_
                      refine OW.pass rfl rfl ?_
                      refine OW.pass rfl rfl ?_
                      refine OW.pass rfl rfl ?_
                      refine OW.pass rfl rfl ?_
                      refine OW.pass rfl rfl ?_
                      refine OW.pass rfl rfl ?_
                      refine OW.pass rfl rfl ?_
                      refine OW.pass rfl rfl ?_
                      refine OW.pass rfl rfl ?_
                      refine OW.pass rfl rfl ?_
                      refine OW.pass rfl rfl ?_
                      refine OW.pass rfl rfl ?_
                      refine OW.pass rfl rfl ?_
                      refine OW.pass rfl rfl ?_
                      refine OW.val rfl rfl (EX.pickT rfl rfl) ?_
                      refine OW.val rfl rfl (EX.assign rfl) ?_
                      refine OW.nil ?_
                      refine KW.leave (KW.region ?_)
                      refine OW.val rfl rfl (EX.move rfl) ?_
                      refine OW.val rfl rfl (by first | exact EX.addN (b := 1) (m := 9223372036854775807) rfl rfl rfl (by omega) | exact EX.addZ (m := 9223372036854775807) rfl rfl rfl rfl (by omega)) ?_
                      refine OW.val rfl rfl (EX.assign rfl) ?_
                      refine OW.nil ?_
                      refine KW.back3 (n + 1) (true) (w7) ⟨rfl, rfl, rfl, rfl, rfl, rfl, rfl, trivial⟩ rfl ?_ (by omega)
                      exact ⟨by omega, by rw [hsn, ← hok7]; simp, hx7⟩
                  · obtain rfl : n = wn.length := by omega
                    have hall : ok = true := hok7.2 (by
                      unfold okN
                      rw [List.take_length]
                      rcases hgd j (by omega) with h | h | h
                      · exact .inl (.inl h)
                      · exact .inl (.inr h)
                      · exact .inr h)
                    subst hall
                    refine KW.exit rfl (KW.seq (KW.region ?_))
                    refine OW.val rfl rfl (EX.move rfl) ?_
                    refine OW.val rfl rfl (by first | exact EX.notD rfl | exact EX.notB rfl) ?_
                    refine OW.nil ?_
                    refine KW.cond rfl (fun hz2 => ?_) (fun hz2 => ?_)
                    · exact absurd hz2 (by decide)
                    · refine KW.skip (KW.leave (KW.region ?_))
                      refine OW.val rfl rfl (EX.move rfl) ?_
                      refine OW.val rfl rfl (by first | exact EX.addN (b := 1) (m := 9223372036854775807) rfl rfl rfl (by omega) | exact EX.addZ (m := 9223372036854775807) rfl rfl rfl rfl (by omega)) ?_
                      refine OW.val rfl rfl (EX.assign rfl) ?_
                      refine OW.nil ?_
                      refine KW.back2 (j + 1) (w7) ⟨rfl, rfl, rfl, rfl, trivial⟩ rfl ?_ (by omega)
                      exact ⟨by omega, hx7⟩
            · refine KW.exit rfl (KW.seq (KW.region ?_))
              refine OW.call rfl rfl rfl (awake_s w5) ?_
              rintro _ w9 ⟨rfl, hx9⟩
              refine OW.val rfl rfl (EX.assign rfl) ?_
              refine OW.nil ?_
              refine KW.ret (ret1 rfl rfl ?_)
              exact ⟨rfl, (hx.trans hx5).trans hx9⟩
end Go.Proofs.Ytdjcgffhnakeeaa
