/-
  record: lists of members are read.
-/
import Derived.Test.YtfjaiokhpbddlaaRecJ
namespace Go.Proofs.Ytfjaiokhpbddlaa
open Go.RowKit Rec
set_option linter.unusedVariables false
set_option linter.unusedSimpArgs false

/-! ### In plain words -/
def first (s : List UInt8) : Nat := (s.getD 0 0).toNat
def memAt (s : List UInt8) : M :=
  ⟨(s.drop 1).take (first s), nb ((s.drop (1 + first s)).take 2), nb ((s.drop (3 + first s)).take 2), nb ((s.drop (5 + first s)).take 2), nb ((s.drop (7 + first s)).take 4)⟩
def memL : Nat → List UInt8 → List M → List M × Nat
  | 0, _, out => (out, 0)
  | f + 1, s, out => if s = [] then (out, 0) else if s.length < first s + 11 then ([], 200) else if mayM (memAt s) then memL f (s.drop (11 + first s)) (out ++ [memAt s]) else ([], 200)
def memsV (l : List M) : List Value := l.flatMap M.cells
theorem memsV_snoc (l : List M) (m : M) : memsV (l ++ [m]) = memsV l ++ m.cells := by simp [memsV]
theorem memsV_length (l : List M) : (memsV l).length = l.length * 5 := by
  induction l with
  | nil => rfl
  | cons m l ih => simp only [memsV, List.flatMap_cons, List.length_append] at ih ⊢; rw [ih]; simp [M.cells]; omega
theorem nb_le (s : List UInt8) (k : Nat) (h : k ≤ 4) : nb (s.take k) ≤ 4294967295 := by
  have h1 : nb (s.take k) < 256 ^ 4 := Nat.lt_of_lt_of_le (nb_lt _ _ rfl) (Nat.pow_le_pow_right (by decide) (by rw [List.length_take]; omega))
  have : (256 : Nat) ^ 4 = 4294967296 := rfl
  omega
theorem memAt_ok (s : List UInt8) (h : s.length ≤ 1000000000) : (memAt s).Ok := ⟨by show ((s.drop 1).take (first s)).length ≤ _; rw [List.length_take, List.length_drop]; omega, nb_le _ 4 (by omega)⟩
theorem first_nb {s : List UInt8} (h : s ≠ []) : numI (s.take 1) = ((first s : Nat) : Int) := by
  rw [numI_small _ (by rw [List.length_take]; omega)]
  match s, h with
  | c :: s, _ => simp [nb, first]
theorem first_lt (s : List UInt8) : first s < 256 := (s.getD 0 0).toNat_lt
/-! ### The program -/
set_option maxRecDepth 20000 in
theorem members_s (s : List UInt8) (hs : s.length ≤ 1000000000) (w : World) :
    Ret Try.prog 18 [str s] w fun v w' => ∃ vs, v = .tuple #[vs, .int .i64 (((memL (s.length + 1) s []).2 : Nat) : Int)] ∧ Own w' w.heap.size 40 5 vs (memL (s.length + 1) s []).1.length (memsV (memL (s.length + 1) s []).1) ∧ Ext w w' := by
  generalize hres : memL (s.length + 1) s [] = res
  refine Ret.enter Try.func18 rfl Try.ntmps18 (by kernel_rfl) rfl ?_
  refine KW.seq (KW.region ?_)
  refine OW.val rfl rfl (EX.assign rfl) ?_
  refine OW.val rfl rfl (EX.assign rfl) ?_
  refine OW.nil ?_
  refine KW.seq (KW.region ?_)
  refine OW.val rfl rfl (EX.assign rfl) ?_
  refine OW.nil ?_
  refine KW.seq (KW.region ?_)
  refine OW.val rfl rfl (EX.move rfl) ?_
  refine OW.val rfl rfl (EX.buildS (pl := [(0, 1)]) (ks := [0]) (is := [0]) (zs := [str []]) Try.underlying61 ti61 (by kernel_rfl) rfl rfl rfl (by first | rfl | (simp only [List.all_cons, List.all_nil, Bool.and_true, Bool.true_and, Bool.and_eq_true, Value.oneCell']; repeat (first | assumption | exact Own.one (by assumption) | constructor))) (by simp only [setAll, List.set_cons_zero, List.set_cons_succ]; rfl)) ?_
  refine OW.val rfl rfl (EX.buildG (pl := [(0, 1)]) (ks := [0]) (zs := [str []]) Try.underlying63 ti63 (by kernel_rfl) rfl rfl rfl) ?_
  refine OW.boxS rfl rfl rfl ?_
  rintro rb w1 hge1 hr1 hx1
  refine OW.val rfl rfl (EX.assign rfl) ?_
  refine OW.nil ?_
  refine KW.seq (KW.block ?_)
  have hrw : w.heap.size ≤ rb := hge1
  refine KW.loop5 (fun (f : Nat) (q : (List UInt8)) (out : (List M)) (v : Value) (wr : World) => q.length < f ∧ q.length ≤ 1000000000 ∧ out.length + f ≤ s.length + 1 ∧ memL f q out = res ∧ Bk wr rb 63 [str q] ∧ Own wr w.heap.size 40 5 v out.length (memsV out) ∧ Ext w wr) (fun (f : Nat) (q : (List UInt8)) (out : (List M)) (v : Value) (wr : World) => [(4, v), (5, .pointer (some ⟨rb, 0, none⟩))]) (fun (f : Nat) (q : (List UInt8)) (out : (List M)) (v : Value) (wr : World) => wr) (fun (f : Nat) (q : (List UInt8)) (out : (List M)) (v : Value) (wr : World) => q.length) (s.length + 1) (s) ([]) (.slice none 0 0) (w1) ⟨rfl, rfl, trivial⟩ rfl ?_ ?_
  · exact ⟨by omega, hs, by simp, hres, hr1, Own.nil _ _ _ _, hx1⟩
  · rintro f q out v wr ⟨hqf, hql, hof, hm, hr, hown, hx⟩
    refine KW.seq (KW.seq (KW.region ?_))
    refine OW.val rfl rfl (EX.move rfl) ?_
    refine OW.val rfl rfl (EX.nilCheck rfl) ?_
    refine OW.val rfl rfl (EX.fieldAddr (off := 0) Try.underlying63 rfl rfl ti61 rfl rfl) ?_
    refine OW.val rfl rfl (EX.fieldAddr (off := 0) Try.underlying61 rfl rfl ti9 rfl rfl) ?_
    refine OW.val rfl rfl (EX.load Try.underlying9 rfl rfl (hr.cell_of rfl)) ?_
    refine OW.val rfl rfl (EX.neqS (r := []) rfl rfl) ?_
    refine OW.nil ?_
    refine KW.condD rfl (fun hne => ?_) (fun hne => ?_)
    · obtain ⟨f, rfl⟩ : ∃ g, f = g + 1 := ⟨f - 1, by omega⟩
      have hne' : q ≠ [] := by simpa using hne
      have hql0 : 0 < q.length := List.length_pos_iff.2 hne'
      have hfl := first_lt q
      rw [memL, if_neg hne'] at hm
      generalize hn : first q = n at hm hfl
      have d1 : (q.drop 1).drop n = q.drop (1 + n) := List.drop_drop ..
      have d3 : (q.drop (1 + n)).drop 2 = q.drop (3 + n) := by rw [List.drop_drop]; congr 1; omega
      have d5 : (q.drop (3 + n)).drop 2 = q.drop (5 + n) := by rw [List.drop_drop]; congr 1; omega
      have d7 : (q.drop (5 + n)).drop 2 = q.drop (7 + n) := by rw [List.drop_drop]; congr 1; omega
      have d11 : (q.drop (7 + n)).drop 4 = q.drop (11 + n) := by rw [List.drop_drop]; congr 1; omega
      have ld : ∀ j, (q.drop j).length ≤ 1000000000000 := fun j => by rw [List.length_drop]; omega
      have hd1 : (q.drop 1).length = q.length - 1 := List.length_drop
      have b2 := fun t : List UInt8 => nb_le t 2 (by omega)
      have b4 := fun t : List UInt8 => nb_le t 4 (by omega)
      have i2 := fun t : List UInt8 => numI_small (t.take 2) (by rw [List.length_take]; omega)
      have i4 := fun t : List UInt8 => numI_small (t.take 4) (by rw [List.length_take]; omega)
      refine KW.skip (KW.block (KW.seq (KW.region ?_)))
      refine OW.val rfl rfl (EX.move rfl) ?_
      refine OW.call rfl rfl rfl (num_s rb 1 q _ wr hr (by omega) (by omega)) ?_
      rintro _ w2 ⟨rfl, hr2, hm2⟩
      refine OW.val rfl rfl (EX.assign rfl) ?_
      refine OW.nil ?_
      refine KW.seq (KW.seq (KW.region ?_))
      refine OW.val rfl rfl (EX.move rfl) ?_
      refine OW.val rfl rfl (EX.nilCheck rfl) ?_
      refine OW.val rfl rfl (EX.fieldAddr (off := 0) Try.underlying63 rfl rfl ti61 rfl rfl) ?_
      refine OW.val rfl rfl (EX.fieldAddr (off := 0) Try.underlying61 rfl rfl ti9 rfl rfl) ?_
      rw [first_nb hne', hn]
      have x2 : Ext w w2 := below_mo hx hm2 hx.size (fun k hk => by simp at hk; omega)
      have hown2 := hown.mo hm2 (fun k hk => by simp; exact fun z => hown.ne hr (by decide) k hk z.symm)
      refine OW.val rfl rfl (EX.load Try.underlying9 rfl rfl (hr2.cell_of rfl)) ?_
      refine OW.val rfl rfl (EX.lenS Try.underlying9 rfl) ?_
      refine OW.val rfl rfl (EX.move rfl) ?_
      refine OW.val rfl rfl (by first | exact EX.addN (b := 10) (m := 9223372036854775807) rfl rfl rfl (by omega) | exact EX.addZ (m := 9223372036854775807) rfl rfl rfl rfl (by omega)) ?_
      refine OW.val rfl rfl (by first | exact EX.lssN rfl rfl | exact EX.lssZ rfl rfl) ?_
      refine OW.nil ?_
      refine KW.condD rfl (fun hshort => ?_) (fun hshort => ?_)
      · rw [if_pos (by omega)] at hm
        subst hm
        refine KW.seq (KW.region ?_)
        refine OW.val rfl rfl (EX.assign rfl) ?_
        refine OW.val rfl rfl (EX.assign rfl) ?_
        refine OW.nil ?_
        refine KW.ret (ret2 rfl rfl rfl ?_)
        exact ⟨_, rfl, Own.nil _ _ _ _, x2⟩
      · rw [if_neg (by omega)] at hm
        refine KW.skip (KW.seq (KW.region ?_))
        refine OW.val rfl rfl (EX.move rfl) ?_
        refine OW.val rfl rfl (EX.nilCheck rfl) ?_
        refine OW.val rfl rfl (EX.fieldAddr (off := 0) Try.underlying63 rfl rfl ti61 rfl rfl) ?_
        refine OW.val rfl rfl (EX.move rfl) ?_
        refine OW.call rfl rfl rfl (take_s rb n (q.drop 1) _ w2 hr2 (by omega) (ld 1)) ?_
        rintro _ w3 ⟨rfl, hr3, hm3⟩
        refine OW.val rfl rfl (EX.buildS (pl := [(0, 1), (1, 1), (2, 1), (3, 1), (4, 1)]) (ks := [0]) (is := [0]) (zs := [str [], .int .i64 0, .int .i64 0, .int .i64 0, .int .u32 0]) Try.underlying40 ti40 (by kernel_rfl) rfl rfl rfl (by first | rfl | (simp only [List.all_cons, List.all_nil, Bool.and_true, Bool.true_and, Bool.and_eq_true, Value.oneCell']; repeat (first | assumption | exact Own.one (by assumption) | constructor))) (by simp only [setAll, List.set_cons_zero, List.set_cons_succ]; rfl)) ?_
        rw [d1] at hr3
        have x3 : Ext w w3 := below_mo x2 hm3 x2.size (fun k hk => by simp at hk; omega)
        have hown3 := hown2.mo hm3 (fun k hk => by simp; exact fun z => hown2.ne hr2 (by decide) k hk z.symm)
        refine OW.allocB (l := [str [], .int .i64 0, .int .i64 0, .int .i64 0, .int .u32 0]) rfl rfl ti40 rfl ?_
        rintro mb w4 hge4 hmb4 hx4
        refine OW.storeS rfl ti40 rfl rfl rfl (by first | rfl | (simp only [List.all_cons, List.all_nil, Bool.and_true, Bool.true_and, Bool.and_eq_true, Value.oneCell']; repeat (first | assumption | exact Own.one (by assumption) | constructor))) (hmb4) (Nat.le_refl _) ?_
        rintro w5 hmb5 hm5
        refine OW.nil ?_
        refine KW.seq (KW.region ?_)
        refine OW.val rfl rfl (EX.move rfl) ?_
        have x4 := x3.trans hx4
        have x5 : Ext w w5 := below_mo x4 hm5 x4.size (fun k hk => by simp at hk; have := x3.size; omega)
        have hmbw : w.heap.size ≤ mb := by have := x3.size; omega
        have hr5 := (hr3.ext hx4).mo hm5 (by simp; exact (hr3.ext hx4).ne hmb4 (by decide))
        have hown5 := (hown3.ext hx4).mo hm5 (fun k hk => by
          have hlt := (hown3.lt k hk).2
          simp
          omega)
        have hnm : ∀ k, v.ownBlock = some k → k ≠ mb := fun k hk => by have hlt := (hown3.lt k hk).2; omega
        have hrm : mb ≠ rb := fun z => (hr5.ne hmb5 (by decide)) z.symm
        refine OW.call rfl rfl rfl (num_s rb 2 (q.drop (1 + n)) _ w5 hr5 (by omega) (ld _)) ?_
        rintro _ w6 ⟨rfl, hr6, hm6⟩
        refine OW.val rfl rfl (EX.move rfl) ?_
        rw [d3] at hr6
        refine OW.call rfl rfl rfl (num_s rb 2 (q.drop (3 + n)) _ w6 hr6 (by omega) (ld _)) ?_
        rintro _ w7 ⟨rfl, hr7, hm7⟩
        refine OW.val rfl rfl (EX.move rfl) ?_
        rw [d5] at hr7
        refine OW.call rfl rfl rfl (num_s rb 2 (q.drop (5 + n)) _ w7 hr7 (by omega) (ld _)) ?_
        rintro _ w8 ⟨rfl, hr8, hm8⟩
        refine OW.val rfl rfl (EX.move rfl) ?_
        rw [d7] at hr8
        have b47 := b4 (q.drop (7 + n))
        have c9 := num_s rb 4 (q.drop (7 + n)) _ w8 hr8 (by omega) (ld _)
        rw [i4] at c9
        refine OW.call rfl rfl rfl (c9) ?_
        rintro _ w9 ⟨rfl, hr9, hm9⟩
        refine OW.val rfl rfl (by first | exact EX.convN (m := 4294967295) Try.underlying3 Try.underlying38 rfl rfl (by omega) | exact EX.convW (m := 4294967296) Try.underlying3 Try.underlying38 rfl rfl (by decide) | exact EX.convZ Try.underlying3 Try.underlying38 rfl) ?_
        refine OW.val rfl rfl (EX.fieldAddr (off := 1) Try.underlying40 rfl rfl ti3 rfl rfl) ?_
        rw [d11] at hr9
        rw [i2, i2, i2]
        have hm59 : Mo w5 w9 [rb] := ((hm6.trans hm7).trans hm8).trans hm9
        have hmb9 := hmb5.mo hm59 (by simpa using hrm)
        have hown9 := hown5.mo hm59 (fun k hk => by simp; exact fun z => hown5.ne hr5 (by decide) k hk z.symm)
        have x9 : Ext w w9 := below_mo x5 hm59 x5.size (fun k hk => by simp at hk; omega)
        have hM : memAt q = ⟨(q.drop 1).take n, nb ((q.drop (1 + n)).take 2), nb ((q.drop (3 + n)).take 2), nb ((q.drop (5 + n)).take 2), nb ((q.drop (7 + n)).take 4)⟩ := by unfold memAt; rw [hn]
        refine OW.storeB rfl ti3 rfl rfl (by first | rfl | assumption | exact Own.one (by assumption)) (hmb9) (by simp) ?_
        rintro wa hba hma
        refine OW.val rfl rfl (EX.fieldAddr (off := 2) Try.underlying40 rfl rfl ti3 rfl rfl) ?_
        refine OW.storeB rfl ti3 rfl rfl (by first | rfl | assumption | exact Own.one (by assumption)) (hba) (by simp) ?_
        rintro wb hbb hmb'
        refine OW.val rfl rfl (EX.fieldAddr (off := 3) Try.underlying40 rfl rfl ti3 rfl rfl) ?_
        refine OW.storeB rfl ti3 rfl rfl (by first | rfl | assumption | exact Own.one (by assumption)) (hbb) (by simp) ?_
        rintro wc hbc hmc
        refine OW.val rfl rfl (EX.fieldAddr (off := 4) Try.underlying40 rfl rfl ti38 rfl rfl) ?_
        refine OW.storeB rfl ti38 rfl rfl (by first | rfl | assumption | exact Own.one (by assumption)) (hbc) (by simp) ?_
        rintro wd hbd hmd
        refine OW.nil ?_
        refine KW.seq (KW.seq (KW.region ?_))
        have hmad : Mo w9 wd [mb] := ((hma.trans hmb').trans hmc).trans hmd
        replace hbd : Bk wd mb 40 (memAt q).cells := by rw [hM]; exact hbd
        have xd : Ext w wd := below_mo x9 hmad x9.size (fun k hk => by simp at hk; omega)
        have hrd := hr9.mo hmad (by simpa using Ne.symm hrm)
        have hownd := hown9.mo hmad (fun k hk => by simpa using hnm k hk)
        refine OW.val rfl rfl (EX.loadBk Try.underlying40 rfl ti40 rfl (hbd) (rfl)) ?_
        refine OW.call rfl rfl rfl (checkM_s (memAt q) (memAt_ok q hql) wd) ?_
        rintro _ we ⟨rfl, hxe⟩
        refine OW.val rfl rfl (EX.assign rfl) ?_
        refine OW.nil ?_
        refine KW.seq (KW.region ?_)
        refine OW.val rfl rfl (EX.move rfl) ?_
        refine OW.val rfl rfl (by first | exact EX.neqN (b := 0) rfl rfl | exact EX.neqZ rfl rfl) ?_
        refine OW.nil ?_
        have hbe := hbd.ext hxe
        have hre := hrd.ext hxe
        have howne := hownd.ext hxe
        have xe := xd.trans hxe
        by_cases hmay : mayM (memAt q)
        · rw [checkM_some hmay]
          rw [if_pos hmay] at hm
          refine KW.condD rfl (fun hz => ?_) (fun hz => ?_)
          · omega
          · refine KW.skip (KW.region ?_)
            refine OW.val rfl rfl (EX.move rfl) ?_
            refine OW.val rfl rfl (EX.loadBk Try.underlying40 rfl ti40 rfl (hbe) (rfl)) ?_
            refine OW.pushS rfl rfl (fun _ => rfl) rfl Try.underlying48 ti40 rfl (by decide) (by decide) rfl rfl (fun _ => rfl) (by first | rfl | assumption | (simp only [List.all_cons, List.all_nil, Bool.and_true, Bool.true_and, Bool.and_eq_true, Value.oneCell']; repeat (first | assumption | constructor))) (xe) (howne) (by simp only [maxLen]; omega) (by omega) ?_
            rintro _ v2 wf hownf xf hgf
            refine OW.val rfl rfl (EX.assign rfl) ?_
            refine OW.nil ?_
            refine KW.leave ?_
            have hdl11 : (q.drop (11 + n)).length = q.length - (11 + n) := List.length_drop ..
            refine KW.back5 (f) (q.drop (11 + n)) (out ++ [memAt q]) (v2) (wf) ⟨rfl, rfl, trivial⟩ rfl ?_ (by omega)
            have hgr : Mo we wf v.ownBlock.toList := Mo.grown hgf (fun k e => by rw [e]; simp)
            refine ⟨by rw [List.length_drop]; omega, by rw [List.length_drop]; omega, by rw [List.length_append, List.length_singleton]; omega, hm, hre.mo hgr (fun z => howne.ne hre (by decide) rb (by simpa using z) rfl), ?_, xf⟩
            rw [List.length_append, memsV_snoc]
            exact hownf
        · rw [checkM_none hmay]
          rw [if_neg hmay] at hm
          subst hm
          refine KW.condD rfl (fun hz => ?_) (fun hz => ?_)
          · refine KW.seq (KW.region ?_)
            refine OW.val rfl rfl (EX.move rfl) ?_
            refine OW.val rfl rfl (EX.assign rfl) ?_
            refine OW.val rfl rfl (EX.assign rfl) ?_
            refine OW.nil ?_
            refine KW.ret (ret2 rfl rfl rfl ?_)
            exact ⟨_, rfl, Own.nil _ _ _ _, xe⟩
          · omega
    · have hq0 : q = [] := by simpa using hne
      obtain ⟨f, rfl⟩ : ∃ g, f = g + 1 := ⟨f - 1, by omega⟩
      rw [memL, if_pos hq0] at hm
      subst hm
      refine KW.exit rfl (KW.seq (KW.region ?_))
      refine OW.val rfl rfl (EX.move rfl) ?_
      refine OW.val rfl rfl (EX.assign rfl) ?_
      refine OW.val rfl rfl (EX.assign rfl) ?_
      refine OW.nil ?_
      refine KW.ret (ret2 rfl rfl rfl ?_)
      exact ⟨_, rfl, hown, hx⟩
/-! ### The document's -/
theorem numN_c (t : List UInt8) (ht : t.length ≤ 4) (m : Nat) (he : nb t = m) (w : World) : Ret Try.prog 28 [str t] w fun v w' => v = .int .i64 ((m : Nat) : Int) ∧ w = w' := by
  have h := rnumber_s t (by omega) w
  rwa [numI_small t ht, he] at h
theorem getD0 {q : List UInt8} (h : q ≠ []) : q[0]? = some (q.getD 0 0) := by
  match q, h with
  | c :: q, _ => rfl
set_option maxRecDepth 20000 in
theorem rmembers_s (s : List UInt8) (hs : s.length ≤ 1000000000) (w : World) :
    Ret Try.prog 19 [str s] w fun v w' => ∃ vs, v = .tuple #[vs, .int .i64 (((memL (s.length + 1) s []).2 : Nat) : Int)] ∧ Own w' w.heap.size 40 5 vs (memL (s.length + 1) s []).1.length (memsV (memL (s.length + 1) s []).1) ∧ Ext w w' := by
  generalize hres : memL (s.length + 1) s [] = res
  refine Ret.enter Try.func19 rfl Try.ntmps19 (by kernel_rfl) rfl ?_
  refine KW.seq (KW.region ?_)
  refine OW.val rfl rfl (EX.assign rfl) ?_
  refine OW.val rfl rfl (EX.assign rfl) ?_
  refine OW.nil ?_
  refine KW.seq (KW.region ?_)
  refine OW.val rfl rfl (EX.assign rfl) ?_
  refine OW.nil ?_
  refine KW.seq (KW.block ?_)
  refine KW.loop5 (fun (f : Nat) (q : (List UInt8)) (out : (List M)) (v : Value) (wr : World) => q.length < f ∧ q.length ≤ 1000000000 ∧ out.length + f ≤ s.length + 1 ∧ memL f q out = res ∧ Own wr w.heap.size 40 5 v out.length (memsV out) ∧ Ext w wr) (fun (f : Nat) (q : (List UInt8)) (out : (List M)) (v : Value) (wr : World) => [(0, str (q)), (4, v)]) (fun (f : Nat) (q : (List UInt8)) (out : (List M)) (v : Value) (wr : World) => wr) (fun (f : Nat) (q : (List UInt8)) (out : (List M)) (v : Value) (wr : World) => q.length) (s.length + 1) (s) ([]) (.slice none 0 0) (w) ⟨rfl, rfl, trivial⟩ rfl ?_ ?_
  · exact ⟨by omega, hs, by simp, hres, Own.nil _ _ _ _, Ext.refl _⟩
  · rintro f q out v wr ⟨hqf, hql, hof, hm, hown, hx⟩
    refine KW.seq (KW.seq (KW.region ?_))
    refine OW.val rfl rfl (EX.move rfl) ?_
    refine OW.val rfl rfl (EX.neqS (r := []) rfl rfl) ?_
    refine OW.nil ?_
    refine KW.condD rfl (fun hne => ?_) (fun hne => ?_)
    · obtain ⟨f, rfl⟩ : ∃ g, f = g + 1 := ⟨f - 1, by omega⟩
      have hne' : q ≠ [] := by simpa using hne
      have hql0 : 0 < q.length := List.length_pos_iff.2 hne'
      have hfl := first_lt q
      have hg0 := getD0 hne'
      rw [memL, if_neg hne'] at hm
      have hfe : ∀ h : 0 < q.length, (q[0]'h).toNat = first q := fun h => by
        match q, h with
        | c :: q, _ => rfl
      have hc0 := (q[0]'hql0).toNat_lt
      generalize hn : first q = n at hm hfl hfe
      have b2 := fun t : List UInt8 => nb_le t 2 (by omega)
      have b4 := nb_le (q.drop (7 + n)) 4 (by omega)
      have i2 := fun t : List UInt8 => numI_small (t.take 2) (by rw [List.length_take]; omega)
      have i4 := fun t : List UInt8 => numI_small (t.take 4) (by rw [List.length_take]; omega)
      refine KW.skip (KW.block (KW.seq (KW.region ?_)))
      refine OW.val rfl rfl (EX.move rfl) ?_
      refine OW.val rfl rfl (EX.indexS (i := 0) Try.underlying9 rfl rfl (List.getElem?_eq_getElem (by omega))) ?_
      refine OW.val rfl rfl (by first | exact EX.convN (m := 9223372036854775807) Try.underlying5 Try.underlying3 rfl rfl (by omega) | exact EX.convZ Try.underlying5 Try.underlying3 rfl) ?_
      refine OW.val rfl rfl (EX.assign rfl) ?_
      refine OW.nil ?_
      refine KW.seq (KW.seq (KW.region ?_))
      refine OW.val rfl rfl (EX.move rfl) ?_
      refine OW.val rfl rfl (EX.lenS Try.underlying9 rfl) ?_
      refine OW.val rfl rfl (EX.move rfl) ?_
      refine OW.val rfl rfl (by first | exact EX.addN (b := 11) (m := 9223372036854775807) rfl rfl rfl (by omega) | exact EX.addZ (m := 9223372036854775807) rfl rfl rfl rfl (by omega)) ?_
      refine OW.val rfl rfl (by first | exact EX.lssN rfl rfl | exact EX.lssZ rfl rfl) ?_
      refine OW.nil ?_
      simp only [hfe]
      refine KW.condD rfl (fun hshort => ?_) (fun hshort => ?_)
      · rw [if_pos (by omega)] at hm
        subst hm
        refine KW.seq (KW.region ?_)
        refine OW.val rfl rfl (EX.assign rfl) ?_
        refine OW.val rfl rfl (EX.assign rfl) ?_
        refine OW.nil ?_
        refine KW.ret (ret2 rfl rfl rfl ?_)
        exact ⟨_, rfl, Own.nil _ _ _ _, hx⟩
      · rw [if_neg (by omega)] at hm
        refine KW.skip (KW.seq (KW.region ?_))
        refine OW.val rfl rfl (EX.move rfl) ?_
        refine OW.val rfl rfl (EX.move rfl) ?_
        refine OW.val rfl rfl (by first | exact EX.addN (a := 1) (m := 9223372036854775807) rfl rfl rfl (by omega) | exact EX.addZ (m := 9223372036854775807) rfl rfl rfl rfl (by omega)) ?_
        refine OW.val rfl rfl (EX.move rfl) ?_
        refine OW.val rfl rfl (by first | exact EX.addN (a := 11) (m := 9223372036854775807) rfl rfl rfl (by omega) | exact EX.addZ (m := 9223372036854775807) rfl rfl rfl rfl (by omega)) ?_
        refine OW.val rfl rfl (EX.sliceLH Try.underlying9 rfl rfl rfl (by omega)) ?_
        refine OW.val rfl rfl (EX.assign rfl) ?_
        refine OW.nil ?_
        refine KW.seq ?_
        have hM : memAt q = ⟨(q.drop 1).take n, nb ((q.drop (1 + n)).take 2), nb ((q.drop (3 + n)).take 2), nb ((q.drop (5 + n)).take 2), nb ((q.drop (7 + n)).take 4)⟩ := by unfold memAt; rw [hn]
        generalize hp : (q.drop (1 + n)).take (11 + n - (1 + n)) = p6
        have hpl : p6.length = 10 := by rw [← hp, List.length_take, List.length_drop]; omega
        have p0 : p6.take 2 = (q.drop (1 + n)).take 2 := by rw [← hp, List.take_take]; congr 1; omega
        have p2 : (p6.drop 2).take (4 - 2) = (q.drop (3 + n)).take 2 := by rw [← hp, List.drop_take, List.take_take, List.drop_drop, show 1 + n + 2 = 3 + n by omega]; congr 1; omega
        have p4 : (p6.drop 4).take (6 - 4) = (q.drop (5 + n)).take 2 := by rw [← hp, List.drop_take, List.take_take, List.drop_drop, show 1 + n + 4 = 5 + n by omega]; congr 1; omega
        have p66 : p6.drop 6 = (q.drop (7 + n)).take 4 := by rw [← hp, List.drop_take, List.drop_drop, show 1 + n + 6 = 7 + n by omega]; congr 1; omega
        have pn : (q.drop 1).take (1 + n - 1) = (q.drop 1).take n := by congr 1; omega
        have c0 : ∀ w, _ := fun w => numN_c (p6.take 2) (by rw [List.length_take]; omega) (nb ((q.drop (1 + n)).take 2)) (by rw [p0]) w
        have c2 : ∀ w, _ := fun w => numN_c ((p6.drop 2).take (4 - 2)) (by rw [List.length_take]; omega) (nb ((q.drop (3 + n)).take 2)) (by rw [p2]) w
        have c4 : ∀ w, _ := fun w => numN_c ((p6.drop 4).take (6 - 4)) (by rw [List.length_take]; omega) (nb ((q.drop (5 + n)).take 2)) (by rw [p4]) w
        have c6 : ∀ w, _ := fun w => numN_c (p6.drop 6) (by rw [List.length_drop]; omega) (nb ((q.drop (7 + n)).take 4)) (by rw [p66]) w
        refine KW.cut2 (fun (xb : Nat) (w2 : World) => Ext w w2 ∧ w.heap.size ≤ xb ∧ Bk w2 xb 40 (memAt q).cells ∧ Own w2 w.heap.size 40 5 v out.length (memsV out)) (fun (xb : Nat) (w2 : World) => [(0, str (q)), (4, v), (5, .int .i64 ((n : Nat) : Int)), (7, .pointer (some ⟨xb, 0, none⟩))]) (fun (xb : Nat) (w2 : World) => w2) ?_ ?_
        · skip
          refine KW.regionG (N := 20) (fun w' => Ext w w') (by kernel_rfl) rfl ?_
          have hS : (fun w' => Ext w w') wr.drew := hx.trans (Ext.drew wr)
          have hown := hown.ext (Ext.drew _)
          refine GW.val 0 rfl (by kernel_rfl) (by kernel_rfl) (by kernel_rfl) rfl rfl hS (fun w' hS' => EX.move rfl) ?_
          refine GW.val 1 rfl (by kernel_rfl) (by kernel_rfl) (by kernel_rfl) rfl rfl hS (fun w' hS' => EX.move rfl) ?_
          refine GW.val 2 rfl (by kernel_rfl) (by kernel_rfl) (by kernel_rfl) rfl rfl hS (fun w' hS' => by first | exact EX.addN (a := 1) (m := 9223372036854775807) rfl rfl rfl (by omega) | exact EX.addZ (m := 9223372036854775807) rfl rfl rfl rfl (by omega)) ?_
          refine GW.val 3 rfl (by kernel_rfl) (by kernel_rfl) (by kernel_rfl) rfl rfl hS (fun w' hS' => EX.sliceLH (i := 1) Try.underlying9 rfl rfl rfl (by omega)) ?_
          refine GW.val 4 rfl (by kernel_rfl) (by kernel_rfl) (by kernel_rfl) rfl rfl hS (fun w' hS' => EX.move rfl) ?_
          refine GW.val 5 rfl (by kernel_rfl) (by kernel_rfl) (by kernel_rfl) rfl rfl hS (fun w' hS' => EX.sliceFH (j := 2) Try.underlying9 rfl rfl (by omega)) ?_
          refine GW.val 7 rfl (by kernel_rfl) (by kernel_rfl) (by kernel_rfl) rfl rfl hS (fun w' hS' => EX.move rfl) ?_
          refine GW.val 8 rfl (by kernel_rfl) (by kernel_rfl) (by kernel_rfl) rfl rfl hS (fun w' hS' => EX.sliceLH (i := 2) (j := 4) Try.underlying9 rfl rfl rfl (by omega)) ?_
          refine GW.val 10 rfl (by kernel_rfl) (by kernel_rfl) (by kernel_rfl) rfl rfl hS (fun w' hS' => EX.move rfl) ?_
          refine GW.val 11 rfl (by kernel_rfl) (by kernel_rfl) (by kernel_rfl) rfl rfl hS (fun w' hS' => EX.sliceLH (i := 4) (j := 6) Try.underlying9 rfl rfl rfl (by omega)) ?_
          refine GW.val 13 rfl (by kernel_rfl) (by kernel_rfl) (by kernel_rfl) rfl rfl hS (fun w' hS' => EX.move rfl) ?_
          refine GW.val 14 rfl (by kernel_rfl) (by kernel_rfl) (by kernel_rfl) rfl rfl hS (fun w' hS' => EX.sliceLE (i := 6) Try.underlying9 rfl rfl (by omega)) ?_
          refine GW.two 6 18 (by kernel_rfl) ?_ ?_
          · refine GO.call 6 rfl rfl rfl rfl (c0 wr.drew) ?_
            rintro _ _ ⟨rfl, rfl⟩
            refine ⟨hS, fun hS => ?_⟩
            refine GW.two 9 18 (by kernel_rfl) ?_ ?_
            · refine GO.call 9 rfl rfl rfl rfl (c2 wr.drew) ?_
              rintro _ _ ⟨rfl, rfl⟩
              refine ⟨hS, fun hS => ?_⟩
              refine GW.two 12 18 (by kernel_rfl) ?_ ?_
              · refine GO.call 12 rfl rfl rfl rfl (c4 wr.drew) ?_
                rintro _ _ ⟨rfl, rfl⟩
                refine ⟨hS, fun hS => ?_⟩
                refine GW.two 15 18 (by kernel_rfl) ?_ ?_
                · refine GO.call 15 rfl rfl rfl rfl (c6 wr.drew) ?_
                  rintro _ _ ⟨rfl, rfl⟩
                  refine ⟨hS, fun hS => ?_⟩
                  refine GW.val 16 rfl (by kernel_rfl) (by kernel_rfl) (by kernel_rfl) rfl rfl hS (fun w' hS' => by first | exact EX.convN (m := 4294967295) Try.underlying3 Try.underlying38 rfl rfl (by omega) | exact EX.convW (m := 4294967296) Try.underlying3 Try.underlying38 rfl rfl (by decide) | exact EX.convZ Try.underlying3 Try.underlying38 rfl) ?_
                  refine GW.val 17 rfl (by kernel_rfl) (by kernel_rfl) (by kernel_rfl) rfl rfl hS (fun w' hS' => EX.buildS (pl := [(0, 1), (1, 1), (2, 1), (3, 1), (4, 1)]) (ks := [0, 1, 2, 3, 4]) (is := [0, 1, 2, 3, 4]) (zs := [str [], .int .i64 0, .int .i64 0, .int .i64 0, .int .u32 0]) Try.underlying40 ti40 (by kernel_rfl) rfl rfl rfl (by first | rfl | (simp only [List.all_cons, List.all_nil, Bool.and_true, Bool.true_and, Bool.and_eq_true, Value.oneCell']; repeat (first | assumption | exact Own.one (by assumption) | constructor))) (by simp only [setAll, List.set_cons_zero, List.set_cons_succ]; rfl)) ?_
                  refine GW.allocB (l := [str [], .int .i64 0, .int .i64 0, .int .i64 0, .int .u32 0]) 18 rfl (by kernel_rfl) rfl rfl ti40 rfl ?_
                  rintro xb w18 hge18 h18 hx18
                  have hne : ∀ k, v.ownBlock = some k → k ≠ xb := fun k hk => (by have := (hown.lt k hk).2; omega)
                  have hxge : w.heap.size ≤ xb := (by have := hS.size; omega)
                  refine ⟨hS.trans hx18, fun hS => ?_⟩
                  have hown := hown.ext hx18
                  refine GW.storeS 19 rfl (by kernel_rfl) rfl ti40 rfl rfl rfl (by first | rfl | (simp only [List.all_cons, List.all_nil, Bool.and_true, Bool.true_and, Bool.and_eq_true, Value.oneCell']; repeat (first | assumption | constructor))) (h18) (by simp) ?_
                  rintro w19 hb19 hm19
                  refine ⟨below_mo hS hm19 hS.size (fun k hk => by simp at hk; omega), fun hS => ?_⟩
                  have hown := hown.mo hm19 (fun k hk => by simpa using hne k hk)
                  refine GW.done (by kernel_rfl) ?_
                  refine KW.meet2 xb w19 ⟨rfl, rfl, rfl, rfl, trivial⟩ rfl ?_
                  exact ⟨hS, hxge, by rw [hM, ← pn]; exact hb19, hown⟩
                · refine GO.allocB (l := [str [], .int .i64 0, .int .i64 0, .int .i64 0, .int .u32 0]) 18 rfl rfl rfl ti40 rfl ?_
                  rintro xb w18 hge18 h18 hx18
                  have hne : ∀ k, v.ownBlock = some k → k ≠ xb := fun k hk => (by have := (hown.lt k hk).2; omega)
                  have hxge : w.heap.size ≤ xb := (by have := hS.size; omega)
                  refine ⟨hS.trans hx18, fun hS => ?_⟩
                  have hown := hown.ext hx18
                  refine GW.call 15 rfl (by kernel_rfl) rfl rfl rfl (c6 w18) ?_
                  rintro _ _ ⟨rfl, rfl⟩
                  refine ⟨hS, fun hS => ?_⟩
                  refine GW.val 16 rfl (by kernel_rfl) (by kernel_rfl) (by kernel_rfl) rfl rfl hS (fun w' hS' => by first | exact EX.convN (m := 4294967295) Try.underlying3 Try.underlying38 rfl rfl (by omega) | exact EX.convW (m := 4294967296) Try.underlying3 Try.underlying38 rfl rfl (by decide) | exact EX.convZ Try.underlying3 Try.underlying38 rfl) ?_
                  refine GW.val 17 rfl (by kernel_rfl) (by kernel_rfl) (by kernel_rfl) rfl rfl hS (fun w' hS' => EX.buildS (pl := [(0, 1), (1, 1), (2, 1), (3, 1), (4, 1)]) (ks := [0, 1, 2, 3, 4]) (is := [0, 1, 2, 3, 4]) (zs := [str [], .int .i64 0, .int .i64 0, .int .i64 0, .int .u32 0]) Try.underlying40 ti40 (by kernel_rfl) rfl rfl rfl (by first | rfl | (simp only [List.all_cons, List.all_nil, Bool.and_true, Bool.true_and, Bool.and_eq_true, Value.oneCell']; repeat (first | assumption | exact Own.one (by assumption) | constructor))) (by simp only [setAll, List.set_cons_zero, List.set_cons_succ]; rfl)) ?_
                  refine GW.storeS 19 rfl (by kernel_rfl) rfl ti40 rfl rfl rfl (by first | rfl | (simp only [List.all_cons, List.all_nil, Bool.and_true, Bool.true_and, Bool.and_eq_true, Value.oneCell']; repeat (first | assumption | constructor))) (h18) (by simp) ?_
                  rintro w19 hb19 hm19
                  refine ⟨below_mo hS hm19 hS.size (fun k hk => by simp at hk; omega), fun hS => ?_⟩
                  have hown := hown.mo hm19 (fun k hk => by simpa using hne k hk)
                  refine GW.done (by kernel_rfl) ?_
                  refine KW.meet2 xb w19 ⟨rfl, rfl, rfl, rfl, trivial⟩ rfl ?_
                  exact ⟨hS, hxge, by rw [hM, ← pn]; exact hb19, hown⟩
              · refine GO.allocB (l := [str [], .int .i64 0, .int .i64 0, .int .i64 0, .int .u32 0]) 18 rfl rfl rfl ti40 rfl ?_
                rintro xb w18 hge18 h18 hx18
                have hne : ∀ k, v.ownBlock = some k → k ≠ xb := fun k hk => (by have := (hown.lt k hk).2; omega)
                have hxge : w.heap.size ≤ xb := (by have := hS.size; omega)
                refine ⟨hS.trans hx18, fun hS => ?_⟩
                have hown := hown.ext hx18
                refine GW.call 12 rfl (by kernel_rfl) rfl rfl rfl (c4 w18) ?_
                rintro _ _ ⟨rfl, rfl⟩
                refine ⟨hS, fun hS => ?_⟩
                refine GW.call 15 rfl (by kernel_rfl) rfl rfl rfl (c6 w18) ?_
                rintro _ _ ⟨rfl, rfl⟩
                refine ⟨hS, fun hS => ?_⟩
                refine GW.val 16 rfl (by kernel_rfl) (by kernel_rfl) (by kernel_rfl) rfl rfl hS (fun w' hS' => by first | exact EX.convN (m := 4294967295) Try.underlying3 Try.underlying38 rfl rfl (by omega) | exact EX.convW (m := 4294967296) Try.underlying3 Try.underlying38 rfl rfl (by decide) | exact EX.convZ Try.underlying3 Try.underlying38 rfl) ?_
                refine GW.val 17 rfl (by kernel_rfl) (by kernel_rfl) (by kernel_rfl) rfl rfl hS (fun w' hS' => EX.buildS (pl := [(0, 1), (1, 1), (2, 1), (3, 1), (4, 1)]) (ks := [0, 1, 2, 3, 4]) (is := [0, 1, 2, 3, 4]) (zs := [str [], .int .i64 0, .int .i64 0, .int .i64 0, .int .u32 0]) Try.underlying40 ti40 (by kernel_rfl) rfl rfl rfl (by first | rfl | (simp only [List.all_cons, List.all_nil, Bool.and_true, Bool.true_and, Bool.and_eq_true, Value.oneCell']; repeat (first | assumption | exact Own.one (by assumption) | constructor))) (by simp only [setAll, List.set_cons_zero, List.set_cons_succ]; rfl)) ?_
                refine GW.storeS 19 rfl (by kernel_rfl) rfl ti40 rfl rfl rfl (by first | rfl | (simp only [List.all_cons, List.all_nil, Bool.and_true, Bool.true_and, Bool.and_eq_true, Value.oneCell']; repeat (first | assumption | constructor))) (h18) (by simp) ?_
                rintro w19 hb19 hm19
                refine ⟨below_mo hS hm19 hS.size (fun k hk => by simp at hk; omega), fun hS => ?_⟩
                have hown := hown.mo hm19 (fun k hk => by simpa using hne k hk)
                refine GW.done (by kernel_rfl) ?_
                refine KW.meet2 xb w19 ⟨rfl, rfl, rfl, rfl, trivial⟩ rfl ?_
                exact ⟨hS, hxge, by rw [hM, ← pn]; exact hb19, hown⟩
            · refine GO.allocB (l := [str [], .int .i64 0, .int .i64 0, .int .i64 0, .int .u32 0]) 18 rfl rfl rfl ti40 rfl ?_
              rintro xb w18 hge18 h18 hx18
              have hne : ∀ k, v.ownBlock = some k → k ≠ xb := fun k hk => (by have := (hown.lt k hk).2; omega)
              have hxge : w.heap.size ≤ xb := (by have := hS.size; omega)
              refine ⟨hS.trans hx18, fun hS => ?_⟩
              have hown := hown.ext hx18
              refine GW.call 9 rfl (by kernel_rfl) rfl rfl rfl (c2 w18) ?_
              rintro _ _ ⟨rfl, rfl⟩
              refine ⟨hS, fun hS => ?_⟩
              refine GW.call 12 rfl (by kernel_rfl) rfl rfl rfl (c4 w18) ?_
              rintro _ _ ⟨rfl, rfl⟩
              refine ⟨hS, fun hS => ?_⟩
              refine GW.call 15 rfl (by kernel_rfl) rfl rfl rfl (c6 w18) ?_
              rintro _ _ ⟨rfl, rfl⟩
              refine ⟨hS, fun hS => ?_⟩
              refine GW.val 16 rfl (by kernel_rfl) (by kernel_rfl) (by kernel_rfl) rfl rfl hS (fun w' hS' => by first | exact EX.convN (m := 4294967295) Try.underlying3 Try.underlying38 rfl rfl (by omega) | exact EX.convW (m := 4294967296) Try.underlying3 Try.underlying38 rfl rfl (by decide) | exact EX.convZ Try.underlying3 Try.underlying38 rfl) ?_
              refine GW.val 17 rfl (by kernel_rfl) (by kernel_rfl) (by kernel_rfl) rfl rfl hS (fun w' hS' => EX.buildS (pl := [(0, 1), (1, 1), (2, 1), (3, 1), (4, 1)]) (ks := [0, 1, 2, 3, 4]) (is := [0, 1, 2, 3, 4]) (zs := [str [], .int .i64 0, .int .i64 0, .int .i64 0, .int .u32 0]) Try.underlying40 ti40 (by kernel_rfl) rfl rfl rfl (by first | rfl | (simp only [List.all_cons, List.all_nil, Bool.and_true, Bool.true_and, Bool.and_eq_true, Value.oneCell']; repeat (first | assumption | exact Own.one (by assumption) | constructor))) (by simp only [setAll, List.set_cons_zero, List.set_cons_succ]; rfl)) ?_
              refine GW.storeS 19 rfl (by kernel_rfl) rfl ti40 rfl rfl rfl (by first | rfl | (simp only [List.all_cons, List.all_nil, Bool.and_true, Bool.true_and, Bool.and_eq_true, Value.oneCell']; repeat (first | assumption | constructor))) (h18) (by simp) ?_
              rintro w19 hb19 hm19
              refine ⟨below_mo hS hm19 hS.size (fun k hk => by simp at hk; omega), fun hS => ?_⟩
              have hown := hown.mo hm19 (fun k hk => by simpa using hne k hk)
              refine GW.done (by kernel_rfl) ?_
              refine KW.meet2 xb w19 ⟨rfl, rfl, rfl, rfl, trivial⟩ rfl ?_
              exact ⟨hS, hxge, by rw [hM, ← pn]; exact hb19, hown⟩
          · refine GO.allocB (l := [str [], .int .i64 0, .int .i64 0, .int .i64 0, .int .u32 0]) 18 rfl rfl rfl ti40 rfl ?_
            rintro xb w18 hge18 h18 hx18
            have hne : ∀ k, v.ownBlock = some k → k ≠ xb := fun k hk => (by have := (hown.lt k hk).2; omega)
            have hxge : w.heap.size ≤ xb := (by have := hS.size; omega)
            refine ⟨hS.trans hx18, fun hS => ?_⟩
            have hown := hown.ext hx18
            refine GW.call 6 rfl (by kernel_rfl) rfl rfl rfl (c0 w18) ?_
            rintro _ _ ⟨rfl, rfl⟩
            refine ⟨hS, fun hS => ?_⟩
            refine GW.call 9 rfl (by kernel_rfl) rfl rfl rfl (c2 w18) ?_
            rintro _ _ ⟨rfl, rfl⟩
            refine ⟨hS, fun hS => ?_⟩
            refine GW.call 12 rfl (by kernel_rfl) rfl rfl rfl (c4 w18) ?_
            rintro _ _ ⟨rfl, rfl⟩
            refine ⟨hS, fun hS => ?_⟩
            refine GW.call 15 rfl (by kernel_rfl) rfl rfl rfl (c6 w18) ?_
            rintro _ _ ⟨rfl, rfl⟩
            refine ⟨hS, fun hS => ?_⟩
            refine GW.val 16 rfl (by kernel_rfl) (by kernel_rfl) (by kernel_rfl) rfl rfl hS (fun w' hS' => by first | exact EX.convN (m := 4294967295) Try.underlying3 Try.underlying38 rfl rfl (by omega) | exact EX.convW (m := 4294967296) Try.underlying3 Try.underlying38 rfl rfl (by decide) | exact EX.convZ Try.underlying3 Try.underlying38 rfl) ?_
            refine GW.val 17 rfl (by kernel_rfl) (by kernel_rfl) (by kernel_rfl) rfl rfl hS (fun w' hS' => EX.buildS (pl := [(0, 1), (1, 1), (2, 1), (3, 1), (4, 1)]) (ks := [0, 1, 2, 3, 4]) (is := [0, 1, 2, 3, 4]) (zs := [str [], .int .i64 0, .int .i64 0, .int .i64 0, .int .u32 0]) Try.underlying40 ti40 (by kernel_rfl) rfl rfl rfl (by first | rfl | (simp only [List.all_cons, List.all_nil, Bool.and_true, Bool.true_and, Bool.and_eq_true, Value.oneCell']; repeat (first | assumption | exact Own.one (by assumption) | constructor))) (by simp only [setAll, List.set_cons_zero, List.set_cons_succ]; rfl)) ?_
            refine GW.storeS 19 rfl (by kernel_rfl) rfl ti40 rfl rfl rfl (by first | rfl | (simp only [List.all_cons, List.all_nil, Bool.and_true, Bool.true_and, Bool.and_eq_true, Value.oneCell']; repeat (first | assumption | constructor))) (h18) (by simp) ?_
            rintro w19 hb19 hm19
            refine ⟨below_mo hS hm19 hS.size (fun k hk => by simp at hk; omega), fun hS => ?_⟩
            have hown := hown.mo hm19 (fun k hk => by simpa using hne k hk)
            refine GW.done (by kernel_rfl) ?_
            refine KW.meet2 xb w19 ⟨rfl, rfl, rfl, rfl, trivial⟩ rfl ?_
            exact ⟨hS, hxge, by rw [hM, ← pn]; exact hb19, hown⟩
        · rintro xb w2 ⟨x2, hxge, hb2, hown2⟩
          have hdl11 : (q.drop (11 + n)).length = q.length - (11 + n) := List.length_drop ..
          refine KW.seq (KW.seq (KW.region ?_))
          refine OW.val rfl rfl (EX.loadBk Try.underlying40 rfl ti40 rfl (hb2) (rfl)) ?_
          refine OW.call rfl rfl rfl (rcheckM_s (memAt q) (memAt_ok q hql) w2) ?_
          rintro _ we ⟨rfl, hxe⟩
          refine OW.val rfl rfl (by first | exact EX.neqN (b := 0) rfl rfl | exact EX.neqZ rfl rfl) ?_
          refine OW.nil ?_
          have hbe := hb2.ext hxe
          have howne := hown2.ext hxe
          have xe := x2.trans hxe
          by_cases hmay : mayM (memAt q)
          · rw [checkM_some hmay]
            rw [if_pos hmay] at hm
            refine KW.condD rfl (fun hz => ?_) (fun hz => ?_)
            · omega
            · refine KW.skip (KW.seq (KW.region ?_))
              refine OW.val rfl rfl (EX.move rfl) ?_
              refine OW.val rfl rfl (EX.loadBk Try.underlying40 rfl ti40 rfl (hbe) (rfl)) ?_
              refine OW.pushS rfl rfl (fun _ => rfl) rfl Try.underlying48 ti40 rfl (by decide) (by decide) rfl rfl (fun _ => rfl) (by first | rfl | assumption | (simp only [List.all_cons, List.all_nil, Bool.and_true, Bool.true_and, Bool.and_eq_true, Value.oneCell']; repeat (first | assumption | constructor))) (xe) (howne) (by simp only [maxLen]; omega) (by omega) ?_
              rintro _ v2 wf hownf xf hgf
              refine OW.val rfl rfl (EX.assign rfl) ?_
              refine OW.nil ?_
              refine KW.region ?_
              refine OW.val rfl rfl (EX.move rfl) ?_
              refine OW.val rfl rfl (EX.move rfl) ?_
              refine OW.val rfl rfl (by first | exact EX.addN (a := 11) (m := 9223372036854775807) rfl rfl rfl (by omega) | exact EX.addZ (m := 9223372036854775807) rfl rfl rfl rfl (by omega)) ?_
              refine OW.val rfl rfl (EX.sliceLE Try.underlying9 rfl rfl (by omega)) ?_
              refine OW.val rfl rfl (EX.assign rfl) ?_
              refine OW.nil ?_
              refine KW.leave ?_
              refine KW.back5 (f) (q.drop (11 + n)) (out ++ [memAt q]) (v2) (wf) ⟨rfl, rfl, trivial⟩ rfl ?_ (by omega)
              refine ⟨by omega, by omega, by rw [List.length_append, List.length_singleton]; omega, hm, ?_, xf⟩
              rw [List.length_append, memsV_snoc]
              exact hownf
          · rw [checkM_none hmay]
            rw [if_neg hmay] at hm
            subst hm
            refine KW.condD rfl (fun hz => ?_) (fun hz => ?_)
            · refine KW.seq (KW.region ?_)
              refine OW.val rfl rfl (EX.assign rfl) ?_
              refine OW.val rfl rfl (EX.assign rfl) ?_
              refine OW.nil ?_
              refine KW.ret (ret2 rfl rfl rfl ?_)
              exact ⟨_, rfl, Own.nil _ _ _ _, xe⟩
            · omega
    · have hq0 : q = [] := by simpa using hne
      obtain ⟨f, rfl⟩ : ∃ g, f = g + 1 := ⟨f - 1, by omega⟩
      rw [memL, if_pos hq0] at hm
      subst hm
      refine KW.exit rfl (KW.seq (KW.region ?_))
      refine OW.val rfl rfl (EX.move rfl) ?_
      refine OW.val rfl rfl (EX.assign rfl) ?_
      refine OW.val rfl rfl (EX.assign rfl) ?_
      refine OW.nil ?_
      refine KW.ret (ret2 rfl rfl rfl ?_)
      exact ⟨_, rfl, hown, hx⟩
end Go.Proofs.Ytfjaiokhpbddlaa
