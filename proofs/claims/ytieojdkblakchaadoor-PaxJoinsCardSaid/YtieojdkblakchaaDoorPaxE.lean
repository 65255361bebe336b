/-
  pax: what the statements begin with, and the statements.
-/
import Derived.Test.YtieojdkblakchaaDoorPaxC
import Derived.Test.YtieojdkblakchaaDoorOpg
import Derived.Test.YtieojdkblakchaaDoorRows
import Derived.Lib.LaidTab
import Derived.Stop.LaidErr
namespace Go.Proofs.YtieojdkblakchaaDoor
open Go.RowKit Fld Pax
set_option linter.unusedVariables false
set_option linter.unusedSimpArgs false

theorem decP_len (s : List UInt8) : (decP s).1.length ≤ s.length := by
  have h : ∀ (f : Nat) (q : List UInt8) (out : List Pr), (decL f q out).1.length ≤ out.length + q.length := by
    intro f
    induction f with
    | zero => intro q out; simp [decL]
    | succ f ih =>
      intro q out
      rw [dl_succ]
      split
      · simp
      · rcases hd : dstep q with _ | ⟨p, n⟩
        · simp
        · have h1 := dstep_pos hd
          have h2 := ih (q.drop n) (out ++ [p])
          simp only [List.length_append, List.length_singleton, List.length_drop] at h2
          simp only
          omega
  unfold decP
  split
  · simp
  · have := h (s.length + 1) s []
    simpa using this
theorem prsV_length (l : List Pr) : (prsV l).length = l.length * 2 := by
  induction l with
  | nil => rfl
  | cons p l ih => simp only [prsV, List.flatMap_cons, List.length_append] at ih ⊢; rw [ih]; simp [Pr.cells]; omega
theorem prsV_one (l : List Pr) : ∀ u ∈ prsV l, u.oneCell' = true := by
  intro u hu
  obtain ⟨p, _, h⟩ := List.mem_flatMap.1 hu
  simp only [Pr.cells, List.mem_cons, List.not_mem_nil, or_false] at h
  rcases h with rfl | rfl <;> rfl
/-! ### The example -/
def k1 : Pr := ⟨[112, 97, 116, 104], [97]⟩
def k2 : Pr := ⟨[112, 97, 116, 104], [97, 98]⟩
def awT : List UInt8 := [57, 32, 112, 97, 116, 104, 61, 97, 10, 49, 49, 32, 112, 97, 116, 104, 61, 97, 98, 10]
def awB : List UInt8 := [57, 32, 112, 97, 116, 104, 61, 97, 98, 10]
theorem aw_enc : encP [k1, k2] = (awT, 0) := by decide +kernel
theorem aw_dec : decP awT = ([k1, k2], 0) := by decide +kernel
theorem aw_bad : decP awB = ([], 170) := by decide +kernel
theorem aw_last : lastP [k1, k2] [112, 97, 116, 104] = ([97, 98], true) := by decide +kernel
set_option maxRecDepth 20000 in
theorem awake_s (w : World) (hG : Env w) : Ret Tryd.prog 8 [] w fun v w' => v = .bool true ∧ Ext w w' := by
  refine Ret.enter Tryd.func8 rfl Tryd.ntmps8 (by kernel_rfl) rfl ?_
  refine KW.seq (KW.region ?_)
  refine OW.val rfl rfl (EX.assign rfl) ?_
  refine OW.nil ?_
  refine KW.seq (KW.region ?_)
  refine OW.val rfl rfl (EX.buildS (pl := [(0, 1), (1, 1)]) (ks := [0, 1]) (is := [0, 1]) (zs := [str [], str []]) Tryd.underlying36 ti36 (by kernel_rfl) rfl rfl rfl (by first | rfl | (simp only [List.all_cons, List.all_nil, Bool.and_true, Bool.true_and, Bool.and_eq_true, Value.oneCell']; repeat (first | assumption | exact Own.one (by assumption) | constructor))) (by simp only [setAll, List.set_cons_zero, List.set_cons_succ]; rfl)) ?_
  refine OW.val rfl rfl (EX.buildS (pl := [(0, 1), (1, 1)]) (ks := [0, 1]) (is := [0, 1]) (zs := [str [], str []]) Tryd.underlying36 ti36 (by kernel_rfl) rfl rfl rfl (by first | rfl | (simp only [List.all_cons, List.all_nil, Bool.and_true, Bool.true_and, Bool.and_eq_true, Value.oneCell']; repeat (first | assumption | exact Own.one (by assumption) | constructor))) (by simp only [setAll, List.set_cons_zero, List.set_cons_succ]; rfl)) ?_
  refine OW.buildG 2 ([k1.cells, k2.cells]) rfl rfl Tryd.underlying22 ti36 rfl (by decide) rfl rfl rfl (by repeat' (first | exact List.forall_mem_nil _ | refine List.forall_mem_cons.2 ⟨rfl, ?_⟩)) (by decide) ?_
  rintro sb w1 hge1 hb1 hx1
  replace hb1 : Bk w1 sb 36 (prsV [k1, k2]) := hb1
  have c1 := encode_s [k1, k2] (by decide) (by intro p hp; simp only [List.mem_cons, List.not_mem_nil, or_false] at hp; rcases hp with rfl | rfl <;> decide) (some ⟨sb, 0, none⟩) 2 _ w1 (hG.ext hx1) (Sl.of_bk hb1 hb1.lt)
  rw [aw_enc] at c1
  refine OW.call rfl rfl rfl (c1) ?_
  rintro _ w2 ⟨rfl, hx2⟩
  refine OW.val rfl rfl (EX.move rfl) ?_
  refine OW.val rfl rfl (EX.extract rfl rfl) ?_
  refine OW.val rfl rfl (EX.extract rfl rfl) ?_
  refine OW.val rfl rfl (EX.assign rfl) ?_
  refine OW.val rfl rfl (EX.assign rfl) ?_
  refine OW.nil ?_
  refine KW.seq (KW.region ?_)
  refine OW.val rfl rfl (EX.move rfl) ?_
  have x2 := hx1.trans hx2
  have c2 := decode_s awT (by decide) w2 (hG.ext x2)
  rw [aw_dec] at c2
  refine OW.call rfl rfl rfl (c2) ?_
  rintro _ w3 ⟨u, rfl, hown, hx3⟩
  refine OW.val rfl rfl (EX.move rfl) ?_
  refine OW.val rfl rfl (EX.extract rfl rfl) ?_
  refine OW.val rfl rfl (EX.extract rfl rfl) ?_
  refine OW.val rfl rfl (EX.assign rfl) ?_
  refine OW.val rfl rfl (EX.assign rfl) ?_
  refine OW.nil ?_
  refine KW.seq (KW.region ?_)
  have x3 := x2.trans hx3
  have c3 := decode_s awB (by decide) w3 (hG.ext x3)
  rw [aw_bad] at c3
  refine OW.call rfl rfl rfl (c3) ?_
  rintro _ w4 ⟨u2, rfl, hown2, hx4⟩
  refine OW.val rfl rfl (EX.move rfl) ?_
  refine OW.val rfl rfl (EX.extract rfl rfl) ?_
  refine OW.val rfl rfl (EX.extract rfl rfl) ?_
  refine OW.val rfl rfl (EX.assign rfl) ?_
  refine OW.val rfl rfl (EX.assign rfl) ?_
  refine OW.nil ?_
  refine KW.seq (KW.region ?_)
  refine OW.val rfl rfl (EX.move rfl) ?_
  have x4 := x3.trans hx4
  obtain ⟨A, c, rfl, _, hsl⟩ := (hown.ext hx4).slice
  have c4 := last_s [k1, k2] (by decide) A c _ [112, 97, 116, 104] w4 hsl
  rw [aw_last] at c4
  refine OW.call rfl rfl rfl (c4) ?_
  rintro _ w5 ⟨rfl, hx5⟩
  refine OW.val rfl rfl (EX.move rfl) ?_
  refine OW.val rfl rfl (EX.extract rfl rfl) ?_
  refine OW.val rfl rfl (EX.extract rfl rfl) ?_
  refine OW.val rfl rfl (EX.assign rfl) ?_
  refine OW.val rfl rfl (EX.assign rfl) ?_
  refine OW.nil ?_
  refine KW.seq ?_
  refine KW.region ?_
  refine OW.val rfl rfl (EX.move rfl) ?_
  refine OW.val rfl rfl (EX.eqlS (r := [57, 32, 112, 97, 116, 104, 61, 97, 10, 49, 49, 32, 112, 97, 116, 104, 61, 97, 98, 10]) rfl rfl) ?_
  refine OW.val rfl rfl (EX.move rfl) ?_
  refine OW.as 32 (.bool true) rfl (congrArg Value.bool (decide_eq_true (rfl))) ?_
  refine OW.val rfl rfl (EX.move rfl) ?_
  refine OW.val rfl rfl (by first | exact EX.eqlN (b := 0) rfl rfl | exact EX.eqlZ rfl rfl) ?_
  refine OW.val rfl rfl (EX.pickT rfl rfl) ?_
  refine OW.val rfl rfl (EX.move rfl) ?_
  refine OW.as 36 (.bool true) rfl (congrArg Value.bool (decide_eq_true (rfl))) ?_
  refine OW.val rfl rfl (EX.move rfl) ?_
  refine OW.val rfl rfl (EX.lenA Tryd.underlying22 rfl) ?_
  refine OW.val rfl rfl (by first | exact EX.eqlN (b := 2) rfl rfl | exact EX.eqlZ rfl rfl) ?_
  refine OW.val rfl rfl (EX.pickT rfl rfl) ?_
  refine OW.val rfl rfl (EX.move rfl) ?_
  refine OW.as 41 (.bool true) rfl (congrArg Value.bool (decide_eq_true (rfl))) ?_
  refine OW.val rfl rfl (EX.move rfl) ?_
  refine OW.val rfl rfl (by first | exact EX.eqlN (b := 0) rfl rfl | exact EX.eqlZ rfl rfl) ?_
  refine OW.val rfl rfl (EX.pickT rfl rfl) ?_
  refine OW.val rfl rfl (EX.move rfl) ?_
  refine OW.as 45 (.bool true) rfl (congrArg Value.bool (decide_eq_true (rfl))) ?_
  refine OW.val rfl rfl (EX.move rfl) ?_
  refine OW.val rfl rfl (by first | exact EX.eqlN (b := 170) rfl rfl | exact EX.eqlZ rfl rfl) ?_
  refine OW.val rfl rfl (EX.pickT rfl rfl) ?_
  refine OW.val rfl rfl (EX.move rfl) ?_
  refine OW.as 49 (.bool true) rfl (congrArg Value.bool (decide_eq_true (rfl))) ?_
  refine OW.val rfl rfl (EX.move rfl) ?_
  refine OW.val rfl rfl (EX.eqlS (r := [97, 98]) rfl rfl) ?_
  refine OW.val rfl rfl (EX.pickT rfl rfl) ?_
  refine OW.val rfl rfl (EX.move rfl) ?_
  refine OW.as 53 (.bool true) rfl (congrArg Value.bool (decide_eq_true (rfl))) ?_
  refine OW.val rfl rfl (EX.move rfl) ?_
  refine OW.val rfl rfl (EX.pickT rfl rfl) ?_
  refine OW.val rfl rfl (EX.assign rfl) ?_
  refine OW.nil ?_
  refine KW.ret (ret1 rfl rfl ?_)
  exact ⟨rfl, x4.trans hx5⟩
theorem paxLasts_s (l : List Pr) (hl : l.length ≤ 140737488355328) (A : Option Addr) (c : Nat) (key : List UInt8) (hk : key.length ≤ 140737488355328) (w : World) (B : Nat) (hs : Sl w B A (prsV l)) (ht : Tab w) (hm : ∃ m : Int, w.cell? ⟨0, 0, none⟩ = some (.int .i64 m)) :
    Ret Tryd.prog 3 [.slice A l.length c, str key] w fun v w' => v = .bool true ∧ Ext w w' := by
  refine Ret.enter Tryd.func3 rfl Tryd.ntmps3 (by kernel_rfl) rfl ?_
  refine KW.seq (KW.region ?_)
  refine OW.val rfl rfl (EX.assign rfl) ?_
  refine OW.nil ?_
  refine KW.seq (KW.region ?_)
  refine OW.val rfl rfl (EX.move rfl) ?_
  refine OW.val rfl rfl (EX.move rfl) ?_
  refine OW.call rfl rfl rfl (last_s l hl A c B key w hs) ?_
  rintro _ w1 ⟨rfl, hx1⟩
  refine OW.val rfl rfl (EX.move rfl) ?_
  refine OW.val rfl rfl (EX.extract rfl rfl) ?_
  refine OW.val rfl rfl (EX.extract rfl rfl) ?_
  refine OW.val rfl rfl (EX.assign rfl) ?_
  refine OW.val rfl rfl (EX.assign rfl) ?_
  refine OW.nil ?_
  refine KW.seq (KW.region ?_)
  refine OW.val rfl rfl (EX.move rfl) ?_
  refine OW.val rfl rfl (EX.move rfl) ?_
  refine OW.call rfl rfl rfl (rlast_s l hl A c B key w1 (hs.ext hx1)) ?_
  rintro _ _ ⟨rfl, rfl⟩
  refine OW.val rfl rfl (EX.move rfl) ?_
  refine OW.val rfl rfl (EX.extract rfl rfl) ?_
  refine OW.val rfl rfl (EX.extract rfl rfl) ?_
  refine OW.val rfl rfl (EX.assign rfl) ?_
  refine OW.val rfl rfl (EX.assign rfl) ?_
  refine OW.nil ?_
  refine KW.seq ?_
  refine KW.region ?_
  refine OW.val rfl rfl (EX.move rfl) ?_
  refine OW.val rfl rfl (EX.move rfl) ?_
  refine OW.val rfl rfl (EX.eqlS rfl rfl) ?_
  refine OW.val rfl rfl (EX.move rfl) ?_
  refine OW.as 24 (.bool true) rfl (congrArg Value.bool (decide_eq_true (rfl))) ?_
  refine OW.val rfl rfl (EX.move rfl) ?_
  refine OW.val rfl rfl (EX.move rfl) ?_
  refine OW.val rfl rfl (EX.eqlB Tryd.underlying4 rfl rfl) ?_
  refine OW.val rfl rfl (EX.pickT rfl rfl) ?_
  refine OW.val rfl rfl (EX.move rfl) ?_
  generalize (lastP l key).2 = q
  refine OW.as 29 (.bool true) rfl (by simp) ?_
  refine OW.call rfl rfl rfl (awake_s w1 (Env.ext ⟨ht, hm⟩ hx1)) ?_
  rintro _ w2 ⟨rfl, hx2⟩
  refine OW.val rfl rfl (EX.pickT rfl rfl) ?_
  refine OW.val rfl rfl (EX.assign rfl) ?_
  refine OW.nil ?_
  refine KW.ret (ret1 rfl rfl ?_)
  exact ⟨rfl, hx1.trans hx2⟩
set_option maxRecDepth 20000 in
theorem paxJoins_s (s : List UInt8) (hs : s.length ≤ 140737488355328) (t : List UInt8) (ht : t.length ≤ 140737488355328) (key : List UInt8) (hk : key.length ≤ 140737488355328) (w : World) (htab : Tab w) (hm : ∃ m : Int, w.cell? ⟨0, 0, none⟩ = some (.int .i64 m)) :
    Ret Tryd.prog 5 [str s, str t, str key] w fun v w' => v = .bool true ∧ Ext w w' := by
  have hG : Env w := ⟨htab, hm⟩
  refine Ret.enter Tryd.func5 rfl Tryd.ntmps5 (by kernel_rfl) rfl ?_
  refine KW.seq (KW.region ?_)
  refine OW.val rfl rfl (EX.assign rfl) ?_
  refine OW.nil ?_
  refine KW.seq (KW.seq (KW.region ?_))
  refine OW.val rfl rfl (EX.move rfl) ?_
  refine OW.val rfl rfl (EX.lenS Tryd.underlying9 rfl) ?_
  refine OW.val rfl rfl (EX.move rfl) ?_
  refine OW.val rfl rfl (EX.lenS Tryd.underlying9 rfl) ?_
  refine OW.val rfl rfl (by first | exact EX.addN (m := 9223372036854775807) rfl rfl rfl (by omega) | exact EX.addZ (m := 9223372036854775807) rfl rfl rfl rfl (by omega)) ?_
  refine OW.val rfl rfl (by first | exact EX.gtrN (b := 20000) rfl rfl | exact EX.gtrZ rfl rfl) ?_
  refine OW.nil ?_
  refine KW.condD rfl (fun hbig => ?_) (fun hbig => ?_)
  · refine KW.seq (KW.region ?_)
    refine OW.call rfl rfl rfl (awake_s w hG) ?_
    rintro _ w1 ⟨rfl, hx1⟩
    refine OW.val rfl rfl (EX.assign rfl) ?_
    refine OW.nil ?_
    refine KW.ret (ret1 rfl rfl ?_)
    exact ⟨rfl, hx1⟩
  · refine KW.skip (KW.seq (KW.region ?_))
    refine OW.val rfl rfl (EX.move rfl) ?_
    have c1 := decode_s s hs w hG
    have la := decP_len s
    have lb := decP_len t
    refine OW.call rfl rfl rfl (c1) ?_
    rintro _ w1 ⟨ua, rfl, owna, hx1⟩
    refine OW.val rfl rfl (EX.move rfl) ?_
    refine OW.val rfl rfl (EX.extract rfl rfl) ?_
    refine OW.val rfl rfl (EX.extract rfl rfl) ?_
    refine OW.val rfl rfl (EX.assign rfl) ?_
    refine OW.val rfl rfl (EX.assign rfl) ?_
    refine OW.nil ?_
    refine KW.seq (KW.region ?_)
    refine OW.val rfl rfl (EX.move rfl) ?_
    have c2 := decode_s t ht w1 (hG.ext hx1)
    refine OW.call rfl rfl rfl (c2) ?_
    rintro _ w2 ⟨ub, rfl, ownb, hx2⟩
    refine OW.val rfl rfl (EX.move rfl) ?_
    refine OW.val rfl rfl (EX.extract rfl rfl) ?_
    refine OW.val rfl rfl (EX.extract rfl rfl) ?_
    refine OW.val rfl rfl (EX.assign rfl) ?_
    refine OW.val rfl rfl (EX.assign rfl) ?_
    refine OW.nil ?_
    refine KW.seq (KW.seq ?_)
    have x2 := hx1.trans hx2
    have bye : ∀ w', Ext w w' → Ret Tryd.prog 8 [] w' fun v w' => v = .bool true ∧ Ext w w' := fun w' hx => (awake_s w' (hG.ext hx)).mono fun _ _ h => ⟨h.1, hx.trans h.2⟩
    refine KW.region ?_
    refine OW.val rfl rfl (EX.move rfl) ?_
    refine OW.val rfl rfl (by first | exact EX.neqN (b := 0) rfl rfl | exact EX.neqZ rfl rfl) ?_
    refine OW.val rfl rfl (EX.move rfl) ?_
    refine OW.splitD 36 rfl (fun e1 => ?_) (fun e1 => ?_)
    · refine OW.pass rfl rfl ?_
      refine OW.pass rfl rfl ?_
      refine OW.val rfl rfl (EX.pickT rfl rfl) ?_
      refine OW.nil ?_
      refine KW.condT rfl (KW.seq (KW.region ?_))
      refine OW.call rfl rfl rfl (bye w2 x2) ?_
      rintro _ w3 ⟨rfl, hx3⟩
      refine OW.val rfl rfl (EX.assign rfl) ?_
      refine OW.nil ?_
      refine KW.ret (ret1 rfl rfl ?_)
      exact ⟨rfl, hx3⟩
    · refine OW.val rfl rfl (EX.move rfl) ?_
      refine OW.val rfl rfl (by first | exact EX.neqN (b := 0) rfl rfl | exact EX.neqZ rfl rfl) ?_
      refine OW.val rfl rfl (EX.pickF rfl rfl) ?_
      refine OW.nil ?_
      refine KW.condD rfl (fun e2 => ?_) (fun e2 => ?_)
      · refine KW.seq (KW.region ?_)
        refine OW.call rfl rfl rfl (bye w2 x2) ?_
        rintro _ w3 ⟨rfl, hx3⟩
        refine OW.val rfl rfl (EX.assign rfl) ?_
        refine OW.nil ?_
        refine KW.ret (ret1 rfl rfl ?_)
        exact ⟨rfl, hx3⟩
      · have ea : decP s = ((decP s).1, 0) := Prod.ext rfl (by simpa using e1)
        have eb : decP t = ((decP t).1, 0) := Prod.ext rfl (by simpa using e2)
        have ej := decP_join (by omega) ea eb
        have lens : (s ++ t).length ≤ 140737488355328 := by rw [List.length_append]; omega
        have c3 := decode_s (s ++ t) lens w2 (hG.ext x2)
        rw [ej] at c3
        have lx := lastP_app (decP s).1 (decP t).1 key
        generalize (decP s).1 = a at *
        generalize (decP t).1 = b at *
        have lab : (a ++ b).length ≤ 140737488355328 := by rw [List.length_append]; omega
        refine KW.skip (KW.seq (KW.region ?_))
        refine OW.val rfl rfl (EX.move rfl) ?_
        refine OW.val rfl rfl (EX.move rfl) ?_
        refine OW.val rfl rfl (EX.addS rfl rfl (by first | omega | (simp only [List.length_append, List.length_cons, List.length_nil, List.length_take, List.length_drop, List.length_replicate]; omega))) ?_
        refine OW.call rfl rfl rfl (c3) ?_
        rintro _ w3 ⟨uc, rfl, ownc, hx3⟩
        refine OW.val rfl rfl (EX.move rfl) ?_
        refine OW.val rfl rfl (EX.extract rfl rfl) ?_
        refine OW.val rfl rfl (EX.extract rfl rfl) ?_
        refine OW.val rfl rfl (EX.assign rfl) ?_
        refine OW.val rfl rfl (EX.assign rfl) ?_
        refine OW.nil ?_
        refine KW.seq (KW.region ?_)
        refine OW.val rfl rfl (EX.move rfl) ?_
        refine OW.val rfl rfl (EX.move rfl) ?_
        have x3 := x2.trans hx3
        obtain ⟨Aa, ca, rfl, _, sa⟩ := ((owna.ext hx2).ext hx3).slice
        obtain ⟨Ab, cb, rfl, _, sb⟩ := (ownb.ext hx3).slice
        obtain ⟨Ac, cc, rfl, _, sc⟩ := ownc.slice
        refine OW.call rfl rfl rfl (last_s (a ++ b) lab Ac cc _ key w3 sc) ?_
        rintro _ w4 ⟨rfl, hx4⟩
        refine OW.val rfl rfl (EX.move rfl) ?_
        refine OW.val rfl rfl (EX.extract rfl rfl) ?_
        refine OW.val rfl rfl (EX.extract rfl rfl) ?_
        refine OW.val rfl rfl (EX.assign rfl) ?_
        refine OW.val rfl rfl (EX.assign rfl) ?_
        refine OW.nil ?_
        refine KW.seq (KW.region ?_)
        refine OW.val rfl rfl (EX.move rfl) ?_
        refine OW.val rfl rfl (EX.move rfl) ?_
        have sb4 := sb.ext hx4
        refine OW.call rfl rfl rfl (last_s b (by omega) Ab cb _ key w4 sb4) ?_
        rintro _ w5 ⟨rfl, hx5⟩
        refine OW.val rfl rfl (EX.move rfl) ?_
        refine OW.val rfl rfl (EX.extract rfl rfl) ?_
        refine OW.val rfl rfl (EX.extract rfl rfl) ?_
        refine OW.val rfl rfl (EX.assign rfl) ?_
        refine OW.val rfl rfl (EX.assign rfl) ?_
        refine OW.nil ?_
        refine KW.seq (KW.seq (KW.region ?_))
        refine OW.val rfl rfl (EX.move rfl) ?_
        refine OW.val rfl rfl (by first | exact EX.notD rfl | exact EX.notB rfl) ?_
        refine OW.nil ?_
        have x5 := (x3.trans hx4).trans hx5
        have sa5 := (sa.ext hx4).ext hx5
        have sb5 := sb4.ext hx5
        have sc5 := (sc.ext hx4).ext hx5
        refine KW.cut1 (fun (wr : World) => Ext w5 wr) (fun (wr : World) => [(7, .slice Aa a.length ca), (9, .slice Ab b.length cb), (11, .slice Ac (a ++ b).length cc), (12, .int .i64 ((0 : Nat) : Int)), (13, str ((lastP (a ++ b) key).1)), (14, .bool (lastP (a ++ b) key).2), (15, str ((lastP (a ++ b) key).1)), (16, .bool (lastP (a ++ b) key).2)]) (fun (wr : World) => wr) ?_ ?_
        · skip
          rcases hq : (lastP b key).2 with _ | _
          · refine KW.condT rfl (KW.region ?_)
            refine OW.val rfl rfl (EX.move rfl) ?_
            refine OW.val rfl rfl (EX.move rfl) ?_
            refine OW.call rfl rfl rfl (last_s a (by omega) Aa ca _ key w5 sa5) ?_
            rintro _ w6 ⟨rfl, hx6⟩
            refine OW.val rfl rfl (EX.move rfl) ?_
            refine OW.val rfl rfl (EX.extract rfl rfl) ?_
            refine OW.val rfl rfl (EX.extract rfl rfl) ?_
            refine OW.val rfl rfl (EX.assign rfl) ?_
            refine OW.val rfl rfl (EX.assign rfl) ?_
            refine OW.nil ?_
            rw [hq, if_neg (by decide)] at lx
            rw [lx]
            refine KW.meet1 (w6) ⟨rfl, rfl, rfl, rfl, rfl, rfl, rfl, rfl, trivial⟩ rfl ?_
            exact hx6
          · refine KW.condF rfl (KW.skip ?_)
            rw [hq, if_pos rfl] at lx
            rw [lx, hq]
            refine KW.meet1 (w5) ⟨rfl, rfl, rfl, rfl, rfl, rfl, rfl, rfl, trivial⟩ rfl ?_
            exact Ext.refl _
        · rintro wr hxr
          have sar := sa5.ext hxr
          have sbr := sb5.ext hxr
          have scr := sc5.ext hxr
          have xr := x5.trans hxr
          have lpa : (prsV a).length = a.length * 2 := prsV_length a
          have lpb : (prsV b).length = b.length * 2 := prsV_length b
          refine KW.seq ?_
          refine KW.region ?_
          refine OW.val rfl rfl (EX.move rfl) ?_
          refine OW.val rfl rfl (by first | exact EX.eqlN (b := 0) rfl rfl | exact EX.eqlZ rfl rfl) ?_
          refine OW.val rfl rfl (EX.move rfl) ?_
          refine OW.as 70 (.bool true) rfl (congrArg Value.bool (decide_eq_true (rfl))) ?_
          refine OW.val rfl rfl (EX.move rfl) ?_
          refine OW.buildG 0 ([]) rfl rfl Tryd.underlying22 ti36 rfl (by decide) rfl rfl rfl (by repeat' (first | exact List.forall_mem_nil _ | refine List.forall_mem_cons.2 ⟨rfl, ?_⟩)) (by decide) ?_
          rintro eb w6 hge6 he6 hx6
          refine OW.val rfl rfl (EX.move rfl) ?_
          have owne : Own w6 wr.heap.size 36 2 (.slice (some ⟨eb, 0, none⟩) 0 0) 0 [] := ⟨rfl, .inr ⟨eb, 0, [], rfl, hge6, he6, rfl, Nat.le_refl _, by decide⟩⟩
          refine OW.appendX rfl rfl Tryd.underlying22 ti36 rfl (by decide) rfl rfl (hx6) (owne) (Src.of_sl Tryd.underlying22 (sar.ext hx6) lpa (prsV_one a) (by decide)) (by simp only [maxLen]; omega) (by omega) ?_
          rintro v7 w7 hown7 hx7 _ _
          refine OW.val rfl rfl (EX.move rfl) ?_
          refine OW.appendX rfl rfl Tryd.underlying22 ti36 rfl (by decide) rfl rfl (hx7) (hown7) (Src.of_sl Tryd.underlying22 (sbr.ext hx7) lpb (prsV_one b) (by decide)) (by simp only [maxLen]; omega) (by omega) ?_
          rintro v8 w8 hown8 hx8 _ _
          have e8 : [] ++ prsV a ++ prsV b = prsV (a ++ b) := by simp
          have l8 : 0 + a.length + b.length = (a ++ b).length := by rw [List.length_append, Nat.zero_add]
          rw [e8, l8] at hown8
          obtain ⟨A8, c8, rfl, _, s8⟩ := hown8.slice
          refine OW.call rfl rfl rfl (same_s (a ++ b) (a ++ b) Ac A8 cc c8 w8 _ _ (scr.ext hx8) s8 lab) ?_
          rintro _ w9 ⟨rfl, hx9⟩
          refine OW.val rfl rfl (EX.pickT rfl rfl) ?_
          refine OW.val rfl rfl (EX.move rfl) ?_
          refine OW.as 79 (.bool true) rfl (congrArg Value.bool (decide_eq_true (rfl))) ?_
          refine OW.val rfl rfl (EX.move rfl) ?_
          refine OW.val rfl rfl (EX.move rfl) ?_
          refine OW.val rfl rfl (EX.eqlS rfl rfl) ?_
          refine OW.val rfl rfl (EX.pickT rfl rfl) ?_
          refine OW.val rfl rfl (EX.move rfl) ?_
          refine OW.as 84 (.bool true) rfl (congrArg Value.bool (decide_eq_true (rfl))) ?_
          refine OW.val rfl rfl (EX.move rfl) ?_
          refine OW.val rfl rfl (EX.move rfl) ?_
          refine OW.val rfl rfl (EX.eqlB Tryd.underlying4 rfl rfl) ?_
          refine OW.val rfl rfl (EX.pickT rfl rfl) ?_
          refine OW.val rfl rfl (EX.move rfl) ?_
          refine OW.as 89 (.bool true) rfl (congrArg Value.bool (decide_eq_true (rfl))) ?_
          refine OW.call rfl rfl rfl (awake_s w9 (hG.ext ((xr.trans hx8).trans hx9))) ?_
          rintro _ w10 ⟨rfl, hx10⟩
          refine OW.val rfl rfl (EX.pickT rfl rfl) ?_
          refine OW.val rfl rfl (EX.assign rfl) ?_
          refine OW.nil ?_
          refine KW.ret (ret1 rfl rfl ?_)
          exact ⟨rfl, ((xr.trans hx8).trans hx9).trans hx10⟩
section
variable {H : Type} {enc : TypeId × Value → H} {W : World} {base : Nat} {v : Value} {d : DataW H} {p : List MemPlace} {r : Reach} {b0 : Nat}
instance : Inhabited Pr := ⟨⟨[], []⟩⟩
theorem two_cells {l : List Value} (h : l.length = 2) : ∃ a b, l = [a, b] := by
  match l, h with
  | [a, b], _ => exact ⟨a, b, rfl⟩
theorem pair_step (n : Nat) (cs : List Value) (x : DataW H × List MemPlace) (h : DataW.trod enc Tryd.prog W base (fun _ => true) true n 36 cs = some x) : ∃ a : Pr, cs = a.cells ∧ True := by
  obtain ⟨xs, m, rfl, rfl, hl, hlen, hf⟩ := DataW.trod_struct Tryd.underlying36 h
  obtain ⟨c0, c1, rfl⟩ := two_cells (hl.trans (by kernel_rfl))
  have g : ∀ i (hi : i < 2), ∃ y, xs[i]? = some y := fun i hi => ⟨_, List.getElem?_eq_getElem (by rw [hlen]; exact hi)⟩
  obtain ⟨y0, e0⟩ := g 0 (by omega)
  obtain ⟨y1, e1⟩ := g 1 (by omega)
  have f0 : DataW.trod enc Tryd.prog W base (fun _ => true) true m 9 ((([c0, c1] : List Value).drop 0).take (Tryd.prog.cellsOf 9)) = some y0 := (hf 0 _ rfl).trans e0
  have f1 : DataW.trod enc Tryd.prog W base (fun _ => true) true m 9 ((([c0, c1] : List Value).drop 1).take (Tryd.prog.cellsOf 9)) = some y1 := (hf 1 _ rfl).trans e1
  rw [show Tryd.prog.cellsOf 9 = 1 by kernel_rfl] at f0 f1
  simp only [List.drop_zero, List.drop_succ_cons, List.take_succ_cons, List.take_zero] at f0 f1
  obtain ⟨s0, h0, hy0, w0⟩ := DataW.trod_string Tryd.underlying9 f0
  obtain ⟨s1, h1, hy1, w1⟩ := DataW.trod_string Tryd.underlying9 f1
  simp only [List.cons.injEq, and_true] at h0 h1
  subst h0 h1
  exact ⟨⟨s0.data.toList, s1.data.toList⟩, rfl, trivial⟩
theorem open_Pair (hval : Value.okWide Tryd.prog W r b0 22 v) (hd : DataW.Trod enc Tryd.prog W base (fun _ => true) true 22 v d p)
    {ts : List TypeId} {ds : List (DataW H)} (hsz : (DataW.weightsEach Tryd.prog ts ds).all (· ≤ reachBytes) = true) {j : Nat} (hj : ts[j]? = some 22) (hdj : ds[j]? = some d) :
    ∃ (l : List Pr) (A : Option Addr) (cap : Nat), v = .slice A l.length cap ∧ l.length ≤ 140737488355328 ∧ Sl W W.heap.size A (prsV l) := by
  obtain ⟨l, A, cap, h1, _, _, h4, _, h3⟩ := open_slG (α := Pr) Pr.cells (fun _ => True) (c := 2) (fun _ => rfl) Tryd.underlying22 (by kernel_rfl) (fun n cs x hx _ _ => pair_step n cs x hx) hval hd hsz hj hdj
  refine ⟨l, A, cap, h1, ?_, h3⟩
  rw [show Tryd.prog.bytesOf 36 = 32 by kernel_rfl] at h4
  simp only [reachBytes] at h4
  omega
end
theorem tab_of {W : World} (h : laidMetH Tryd.prog Rows.paxLastsRow.laid W) : Tab W := by
  have h2 : laidMet Tryd.prog [("internal/strconv.uint64pow10", Lib.tabData .u64 Lib.pow10Tab)] W := laidMet.tail (laidMet.tail h)
  exact Lib.tabBelow_of_tabIs (Lib.tabIs_of_head (rest := []) (g := 1) (by kernel_rfl) (by kernel_rfl) Tryd.underlying73 Tryd.underlying67 (by kernel_rfl) (by kernel_rfl) h2)
theorem mlen_of {w : World} (h : w.ShapedOpen Tryd.prog) : ∃ m : Int, w.cell? ⟨0, 0, none⟩ = some (.int .i64 m) := Tryd.laysM219.s1_3 w h
end Go.Proofs.YtieojdkblakchaaDoor
