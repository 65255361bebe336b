/-
  pax: records are read.
-/
import Derived.Test.YtieojdkblakchaaDoorPaxA
import Derived.Test.YtieojdkblakchaaDoorFieU
namespace Go.Proofs.YtieojdkblakchaaDoor
open Go.RowKit Fld Pax
set_option linter.unusedVariables false
set_option linter.unusedSimpArgs false

/-- what strings.Cut and strconv.Itoa ask of the world -/
structure Env (w : World) : Prop where
  tab : Tab w
  mlen : ∃ m : Int, w.cell? ⟨0, 0, none⟩ = some (.int .i64 m)
theorem Env.ext {w w' : World} (h : Env w) (hx : Ext w w') : Env w' := by
  refine ⟨h.tab.ext hx, ?_⟩
  obtain ⟨m, hm⟩ := h.mlen
  refine ⟨m, ?_⟩
  have hlt : 0 < w.heap.size := World.block_lt_of_cell? w _ hm
  have := hx.block _ hlt
  unfold World.cell? at hm ⊢
  rwa [this]
theorem index_byte (c : UInt8) : ∀ s : List UInt8, Lib.index s [c] = Lib.indexByte s c
  | [] => rfl
  | b :: s => by
    unfold Lib.index Lib.indexByte
    rw [index_byte c s]
    by_cases h : b = c
    · subst h; simp
    · have : ([c] : List UInt8).isPrefixOf (b :: s) = false := by simp [List.isPrefixOf, Ne.symm h]
      simp [this, h]
theorem cut_at (s : List UInt8) (c : UInt8) : Lib.cut s [c] = cutAt s c := by
  unfold Lib.cut cutAt
  rw [index_byte]
  rcases indexByte_lt s c with ⟨h1, h2⟩ | ⟨i, h1, h2, h3, h4⟩
  · rw [h1, if_neg (by decide), if_neg h2]
  · rw [h1, if_pos (by omega), if_pos h4, h3]
    have e := List.takeWhile_append_dropWhile (p := (· != c)) (l := s)
    rw [h3] at e
    have e2 : s.dropWhile (· != c) = s.drop i := by
      have h5 := List.take_append_drop i s
      have h6 : s.take i ++ s.dropWhile (· != c) = s.take i ++ s.drop i := by rw [e, h5]
      exact List.append_cancel_left h6
    rw [e2, List.drop_drop]
    rfl
theorem cut_c (s : List UInt8) (c : UInt8) (hs : s.length ≤ 1000000000) (w : World) (hG : Env w) :
    Ret Tryd.prog 19 [str s, str [c]] w fun v w' => v = .tuple #[str (cutAt s c).1, str (cutAt s c).2.1, .bool (cutAt s c).2.2] ∧ Ext w w' := by
  obtain ⟨m, hm⟩ := hG.mlen
  refine (Ret.of_calls Tryd.func19 (by kernel_rfl) ((Tryd.strings_Cut ⟨s.toArray⟩ ⟨#[c]⟩ m w (by show s.length < _; omega) hm).mono (fun e w' q => q))).mono ?_
  rintro v w' ⟨rfl, n, rfl⟩
  refine ⟨?_, Ext.drewN w n⟩
  rw [show (⟨s.toArray⟩ : ByteArray).data.toList = s from rfl, show (⟨#[c]⟩ : ByteArray).data.toList = [c] from rfl, cut_at]
theorem dl_succ (f : Nat) (q : List UInt8) (out : List Pr) : decL (f + 1) q out = if q = [] then (out, 0) else match dstep q with
    | some (p, n) => decL f (q.drop n) (out ++ [p])
    | none => ([], 170) := rfl
theorem dec_le (s : List UInt8) : (dec s).1 ≤ 9007199254740992 := by
  unfold dec
  split
  · decide
  · split
    · split
      · decide
      · show fold 10 0 s ≤ _
        omega
    · decide
set_option maxRecDepth 20000 in
theorem decode_s (s : List UInt8) (hs : s.length ≤ 140737488355328) (w : World) (hG : Env w) :
    Ret Tryd.prog 11 [str s] w fun v w' => ∃ u, v = .tuple #[u, .int .i64 (((decP s).2 : Nat) : Int)] ∧ Own w' w.heap.size 36 2 u (decP s).1.length (prsV (decP s).1) ∧ Ext w w' := by
  have nil : ∀ w' : World, Own w' w.heap.size 36 2 (.slice none 0 0) ([] : List Pr).length (prsV []) := fun w' => Own.nil _ _ _ _
  refine Ret.enter Tryd.func11 rfl Tryd.ntmps11 (by kernel_rfl) rfl ?_
  refine KW.seq (KW.region ?_)
  refine OW.val rfl rfl (EX.assign rfl) ?_
  refine OW.val rfl rfl (EX.assign rfl) ?_
  refine OW.nil ?_
  refine KW.scope (KW.seq (KW.seq (KW.region ?_)))
  refine OW.val rfl rfl (EX.move rfl) ?_
  refine OW.val rfl rfl (EX.lenS Tryd.underlying9 rfl) ?_
  refine OW.val rfl rfl (by first | exact EX.gtrN (b := 262144) rfl rfl | exact EX.gtrZ rfl rfl) ?_
  refine OW.nil ?_
  refine KW.condD rfl (fun hbig => ?_) (fun hbig => ?_)
  · have e : decP s = ([], 3) := by unfold decP; rw [if_pos (by omega)]
    refine KW.seq (KW.region ?_)
    refine OW.val rfl rfl (EX.assign rfl) ?_
    refine OW.val rfl rfl (EX.assign rfl) ?_
    refine OW.nil ?_
    refine KW.ret (ret2 rfl rfl rfl ?_)
    rw [e]
    exact ⟨_, rfl, nil w, Ext.refl _⟩
  · have e0 : decP s = decL (s.length + 1) s [] := by unfold decP; rw [if_neg (by omega)]
    refine KW.skip (KW.seq (KW.region ?_))
    refine OW.val rfl rfl (EX.assign rfl) ?_
    refine OW.nil ?_
    refine KW.seq (KW.label (KW.seq (KW.block ?_)))
    refine KW.loop4 (fun (q : (List UInt8)) (out : (List Pr)) (v : Value) (wr : World) => q.length ≤ s.length ∧ out.length + q.length ≤ s.length ∧ decL (s.length + 1) s [] = decL (q.length + 1) q out ∧ Own wr w.heap.size 36 2 v out.length (prsV out) ∧ Ext w wr) (fun (q : (List UInt8)) (out : (List Pr)) (v : Value) (wr : World) => [(0, str (q)), (4, v)]) (fun (q : (List UInt8)) (out : (List Pr)) (v : Value) (wr : World) => wr) (fun (q : (List UInt8)) (out : (List Pr)) (v : Value) (wr : World) => q.length) (s) ([]) (.slice none 0 0) (w) ⟨rfl, rfl, trivial⟩ rfl ?_ ?_
    · exact ⟨Nat.le_refl _, by simp, rfl, nil w, Ext.refl _⟩
    · rintro q out v wr ⟨hq, hol, he, hown, hx⟩
      refine KW.block (KW.seq (KW.seq (KW.region ?_)))
      refine OW.val rfl rfl (EX.move rfl) ?_
      refine OW.val rfl rfl (EX.eqlS (r := []) rfl rfl) ?_
      refine OW.nil ?_
      refine KW.condD rfl (fun hnil => ?_) (fun hnil => ?_)
      · subst hnil
        refine KW.exit rfl (KW.seq (KW.region ?_))
        refine OW.val rfl rfl (EX.move rfl) ?_
        refine OW.val rfl rfl (EX.assign rfl) ?_
        refine OW.val rfl rfl (EX.assign rfl) ?_
        refine OW.nil ?_
        refine KW.ret (ret2 rfl rfl rfl ?_)
        rw [e0, he]
        exact ⟨v, rfl, hown, hx⟩
      · have hqb : q.length ≤ 262144 := by omega
        have no : dstep q = none → decP s = ([], 170) := fun h => by rw [e0, he, dl_succ, if_neg hnil, h]
        have c1 := cut_c q 32 (by omega) wr (hG.ext hx)
        have hd1 := cutAt_len q 32
        have hd2 : (dec (cutAt q 32).1).2 = (dec (cutAt q 32).1).2 := rfl
        have hn1 := dec_le (cutAt q 32).1
        have hdst : dstep q = if (cutAt q 32).2.2 = true ∧ (dec (cutAt q 32).1).2 = 0 ∧ (dec (cutAt q 32).1).1 ≤ q.length ∧ (cutAt q 32).1.length + 2 ≤ (dec (cutAt q 32).1).1 ∧ q.getD ((dec (cutAt q 32).1).1 - 1) 0 = 10 then (if (cutAt ((q.drop ((cutAt q 32).1.length + 1)).take ((dec (cutAt q 32).1).1 - 1 - ((cutAt q 32).1.length + 1))) 61).2.2 = true ∧ (cutAt ((q.drop ((cutAt q 32).1.length + 1)).take ((dec (cutAt q 32).1).1 - 1 - ((cutAt q 32).1.length + 1))) 61).1 ≠ [] then some (⟨(cutAt ((q.drop ((cutAt q 32).1.length + 1)).take ((dec (cutAt q 32).1).1 - 1 - ((cutAt q 32).1.length + 1))) 61).1, (cutAt ((q.drop ((cutAt q 32).1.length + 1)).take ((dec (cutAt q 32).1).1 - 1 - ((cutAt q 32).1.length + 1))) 61).2.1⟩, (dec (cutAt q 32).1).1) else none) else none := rfl
        generalize (cutAt q 32).2.1 = rest at c1
        generalize (cutAt q 32).2.2 = ok at c1 hdst
        generalize (cutAt q 32).1 = d at c1 hd1 hd2 hn1 hdst
        have c2 := fun w' => decimal_s d (by omega) w'
        generalize (dec d).1 = n at c2 hn1 hdst
        generalize (dec d).2 = e at c2 hd2 hdst
        refine KW.skip (KW.seq (KW.region ?_))
        refine OW.val rfl rfl (EX.move rfl) ?_
        refine OW.call rfl rfl rfl (c1) ?_
        rintro _ w1 ⟨rfl, hx1⟩
        refine OW.val rfl rfl (EX.move rfl) ?_
        refine OW.val rfl rfl (EX.extract rfl rfl) ?_
        refine OW.val rfl rfl (EX.extract rfl rfl) ?_
        refine OW.val rfl rfl (EX.extract rfl rfl) ?_
        refine OW.val rfl rfl (EX.assign rfl) ?_
        refine OW.val rfl rfl (EX.assign rfl) ?_
        refine OW.val rfl rfl (EX.assign rfl) ?_
        refine OW.nil ?_
        refine KW.seq (KW.region ?_)
        refine OW.val rfl rfl (EX.move rfl) ?_
        refine OW.call rfl rfl rfl (c2 w1) ?_
        rintro _ w1 ⟨rfl, rfl⟩
        refine OW.val rfl rfl (EX.move rfl) ?_
        refine OW.val rfl rfl (EX.extract rfl rfl) ?_
        refine OW.val rfl rfl (EX.extract rfl rfl) ?_
        refine OW.val rfl rfl (EX.assign rfl) ?_
        refine OW.val rfl rfl (EX.assign rfl) ?_
        refine OW.nil ?_
        refine KW.seq (KW.seq ?_)
        have x1 := hx.trans hx1
        have bye : dstep q = none → ∃ u : Value, Value.tuple #[.slice none 0 0, .int .i64 ((170 : Nat) : Int)] = .tuple #[u, .int .i64 (((decP s).2 : Nat) : Int)] ∧ Own w1 w.heap.size 36 2 u (decP s).1.length (prsV (decP s).1) ∧ Ext w w1 := fun h => by
          rw [no h]
          exact ⟨_, rfl, nil w1, x1⟩
        rcases ok with _ | _
        · skip
          refine KW.region ?_
          refine OW.val rfl rfl (EX.move rfl) ?_
          refine OW.val rfl rfl (by first | exact EX.notD rfl | exact EX.notB rfl) ?_
          refine OW.val rfl rfl (EX.move rfl) ?_
          refine OW.pass rfl rfl ?_
          refine OW.pass rfl rfl ?_
          refine OW.val rfl rfl (EX.pickT rfl rfl) ?_
          refine OW.val rfl rfl (EX.move rfl) ?_
          refine OW.pass rfl rfl ?_
          refine OW.pass rfl rfl ?_
          refine OW.pass rfl rfl ?_
          refine OW.pass rfl rfl ?_
          refine OW.val rfl rfl (EX.pickT rfl rfl) ?_
          refine OW.val rfl rfl (EX.move rfl) ?_
          refine OW.pass rfl rfl ?_
          refine OW.pass rfl rfl ?_
          refine OW.pass rfl rfl ?_
          refine OW.pass rfl rfl ?_
          refine OW.pass rfl rfl ?_
          refine OW.val rfl rfl (EX.pickT rfl rfl) ?_
          refine OW.val rfl rfl (EX.move rfl) ?_
          refine OW.pass rfl rfl ?_
          refine OW.pass rfl rfl ?_
          refine OW.pass rfl rfl ?_
          refine OW.pass rfl rfl ?_
          refine OW.pass rfl rfl ?_
          refine OW.val rfl rfl (EX.pickT rfl rfl) ?_
          refine OW.nil ?_
          refine KW.condT rfl (KW.seq (KW.region ?_))
          refine OW.val rfl rfl (EX.assign rfl) ?_
          refine OW.val rfl rfl (EX.assign rfl) ?_
          refine OW.nil ?_
          refine KW.ret (ret2 rfl rfl rfl ?_)
          exact bye (by rw [hdst, if_neg (fun h => by cases h.1)])
        · skip
          refine KW.region ?_
          refine OW.val rfl rfl (EX.move rfl) ?_
          refine OW.val rfl rfl (by first | exact EX.notD rfl | exact EX.notB rfl) ?_
          refine OW.val rfl rfl (EX.move rfl) ?_
          refine OW.val rfl rfl (EX.move rfl) ?_
          refine OW.val rfl rfl (by first | exact EX.neqN (b := 0) rfl rfl | exact EX.neqZ rfl rfl) ?_
          refine OW.val rfl rfl (EX.pickF rfl rfl) ?_
          refine OW.val rfl rfl (EX.move rfl) ?_
          refine OW.splitD 34 rfl (fun a1 => ?_) (fun a1 => ?_)
          · refine OW.pass rfl rfl ?_
            refine OW.pass rfl rfl ?_
            refine OW.pass rfl rfl ?_
            refine OW.pass rfl rfl ?_
            refine OW.val rfl rfl (EX.pickT rfl rfl) ?_
            refine OW.val rfl rfl (EX.move rfl) ?_
            refine OW.pass rfl rfl ?_
            refine OW.pass rfl rfl ?_
            refine OW.pass rfl rfl ?_
            refine OW.pass rfl rfl ?_
            refine OW.pass rfl rfl ?_
            refine OW.val rfl rfl (EX.pickT rfl rfl) ?_
            refine OW.val rfl rfl (EX.move rfl) ?_
            refine OW.pass rfl rfl ?_
            refine OW.pass rfl rfl ?_
            refine OW.pass rfl rfl ?_
            refine OW.pass rfl rfl ?_
            refine OW.pass rfl rfl ?_
            refine OW.val rfl rfl (EX.pickT rfl rfl) ?_
            refine OW.nil ?_
            refine KW.condT rfl (KW.seq (KW.region ?_))
            refine OW.val rfl rfl (EX.assign rfl) ?_
            refine OW.val rfl rfl (EX.assign rfl) ?_
            refine OW.nil ?_
            refine KW.ret (ret2 rfl rfl rfl ?_)
            exact bye (by rw [hdst, if_neg (fun h => a1 h.2.1)])
          · refine OW.val rfl rfl (EX.move rfl) ?_
            refine OW.val rfl rfl (EX.move rfl) ?_
            refine OW.val rfl rfl (EX.lenS Tryd.underlying9 rfl) ?_
            refine OW.val rfl rfl (by first | exact EX.gtrN rfl rfl | exact EX.gtrZ rfl rfl) ?_
            refine OW.val rfl rfl (EX.pickF rfl rfl) ?_
            refine OW.val rfl rfl (EX.move rfl) ?_
            refine OW.splitD 40 rfl (fun a2 => ?_) (fun a2 => ?_)
            · refine OW.pass rfl rfl ?_
              refine OW.pass rfl rfl ?_
              refine OW.pass rfl rfl ?_
              refine OW.pass rfl rfl ?_
              refine OW.pass rfl rfl ?_
              refine OW.val rfl rfl (EX.pickT rfl rfl) ?_
              refine OW.val rfl rfl (EX.move rfl) ?_
              refine OW.pass rfl rfl ?_
              refine OW.pass rfl rfl ?_
              refine OW.pass rfl rfl ?_
              refine OW.pass rfl rfl ?_
              refine OW.pass rfl rfl ?_
              refine OW.val rfl rfl (EX.pickT rfl rfl) ?_
              refine OW.nil ?_
              refine KW.condT rfl (KW.seq (KW.region ?_))
              refine OW.val rfl rfl (EX.assign rfl) ?_
              refine OW.val rfl rfl (EX.assign rfl) ?_
              refine OW.nil ?_
              refine KW.ret (ret2 rfl rfl rfl ?_)
              exact bye (by rw [hdst, if_neg (fun h => by have := h.2.2.1; omega)])
            · refine OW.val rfl rfl (EX.move rfl) ?_
              refine OW.val rfl rfl (EX.move rfl) ?_
              refine OW.val rfl rfl (EX.lenS Tryd.underlying9 rfl) ?_
              refine OW.val rfl rfl (by first | exact EX.addN (b := 2) (m := 9223372036854775807) rfl rfl rfl (by omega) | exact EX.addZ (m := 9223372036854775807) rfl rfl rfl rfl (by omega)) ?_
              refine OW.val rfl rfl (by first | exact EX.lssN rfl rfl | exact EX.lssZ rfl rfl) ?_
              refine OW.val rfl rfl (EX.pickF rfl rfl) ?_
              refine OW.val rfl rfl (EX.move rfl) ?_
              refine OW.splitD 47 rfl (fun a3 => ?_) (fun a3 => ?_)
              · refine OW.pass rfl rfl ?_
                refine OW.pass rfl rfl ?_
                refine OW.pass rfl rfl ?_
                refine OW.pass rfl rfl ?_
                refine OW.pass rfl rfl ?_
                refine OW.val rfl rfl (EX.pickT rfl rfl) ?_
                refine OW.nil ?_
                refine KW.condT rfl (KW.seq (KW.region ?_))
                refine OW.val rfl rfl (EX.assign rfl) ?_
                refine OW.val rfl rfl (EX.assign rfl) ?_
                refine OW.nil ?_
                refine KW.ret (ret2 rfl rfl rfl ?_)
                exact bye (by rw [hdst, if_neg (fun h => by have := h.2.2.2.1; omega)])
              · have hlt : n - 1 < q.length := by omega
                have hg : q.getD (n - 1) 0 = q[n - 1] := by simp [List.getD_eq_getElem?_getD, hlt]
                refine OW.val rfl rfl (EX.move rfl) ?_
                refine OW.val rfl rfl (EX.move rfl) ?_
                refine OW.val rfl rfl (by first | exact EX.subN (b := 1) (m := 9223372036854775807) rfl rfl rfl (by omega) | exact EX.subZ (m := 9223372036854775807) rfl rfl rfl rfl (by omega)) ?_
                refine OW.val rfl rfl (EX.indexS Tryd.underlying9 rfl rfl (List.getElem?_eq_getElem (by omega))) ?_
                refine OW.val rfl rfl (by first | exact EX.neqN (b := 10) rfl rfl | exact EX.neqZ rfl rfl) ?_
                refine OW.val rfl rfl (EX.pickF rfl rfl) ?_
                refine OW.nil ?_
                refine KW.condD rfl (fun a4 => ?_) (fun a4 => ?_)
                · refine KW.seq (KW.region ?_)
                  refine OW.val rfl rfl (EX.assign rfl) ?_
                  refine OW.val rfl rfl (EX.assign rfl) ?_
                  refine OW.nil ?_
                  refine KW.ret (ret2 rfl rfl rfl ?_)
                  exact bye (by rw [hdst, if_neg (fun h => a4 (by have := h.2.2.2.2; rw [hg] at this; rw [this]; rfl))])
                · have h10 : q.getD (n - 1) 0 = 10 := by rw [hg]; exact UInt8.toNat_inj.1 (by simpa using a4)
                  rw [if_pos ⟨rfl, by omega, by omega, by omega, h10⟩] at hdst
                  have hml : ((q.drop (d.length + 1)).take (n - 1 - (d.length + 1))).length ≤ 262144 := by rw [List.length_take, List.length_drop]; omega
                  have c3 := cut_c ((q.drop (d.length + 1)).take (n - 1 - (d.length + 1))) 61 (by omega) w1 (hG.ext x1)
                  have hkl := cutAt_len ((q.drop (d.length + 1)).take (n - 1 - (d.length + 1))) 61
                  generalize (cutAt ((q.drop (d.length + 1)).take (n - 1 - (d.length + 1))) 61).2.1 = val at c3 hdst
                  generalize (cutAt ((q.drop (d.length + 1)).take (n - 1 - (d.length + 1))) 61).2.2 = ok2 at c3 hdst
                  generalize (cutAt ((q.drop (d.length + 1)).take (n - 1 - (d.length + 1))) 61).1 = key at c3 hdst hkl
                  refine KW.skip (KW.seq (KW.region ?_))
                  refine OW.val rfl rfl (EX.move rfl) ?_
                  refine OW.val rfl rfl (EX.move rfl) ?_
                  refine OW.val rfl rfl (EX.lenS Tryd.underlying9 rfl) ?_
                  refine OW.val rfl rfl (by first | exact EX.addN (b := 1) (m := 9223372036854775807) rfl rfl rfl (by omega) | exact EX.addZ (m := 9223372036854775807) rfl rfl rfl rfl (by omega)) ?_
                  refine OW.val rfl rfl (EX.move rfl) ?_
                  refine OW.val rfl rfl (by first | exact EX.subN (b := 1) (m := 9223372036854775807) rfl rfl rfl (by omega) | exact EX.subZ (m := 9223372036854775807) rfl rfl rfl rfl (by omega)) ?_
                  refine OW.val rfl rfl (EX.sliceLH Tryd.underlying9 rfl rfl rfl (by omega)) ?_
                  refine OW.call rfl rfl rfl (c3) ?_
                  rintro _ w2 ⟨rfl, hx2⟩
                  refine OW.val rfl rfl (EX.move rfl) ?_
                  refine OW.val rfl rfl (EX.extract rfl rfl) ?_
                  refine OW.val rfl rfl (EX.extract rfl rfl) ?_
                  refine OW.val rfl rfl (EX.extract rfl rfl) ?_
                  refine OW.val rfl rfl (EX.assign rfl) ?_
                  refine OW.val rfl rfl (EX.assign rfl) ?_
                  refine OW.val rfl rfl (EX.assign rfl) ?_
                  refine OW.nil ?_
                  refine KW.seq (KW.seq ?_)
                  have x2 := x1.trans hx2
                  have bye2 : dstep q = none → ∃ u : Value, Value.tuple #[.slice none 0 0, .int .i64 ((170 : Nat) : Int)] = .tuple #[u, .int .i64 (((decP s).2 : Nat) : Int)] ∧ Own w2 w.heap.size 36 2 u (decP s).1.length (prsV (decP s).1) ∧ Ext w w2 := fun h => by
                    rw [no h]
                    exact ⟨_, rfl, nil w2, x2⟩
                  rcases ok2 with _ | _
                  · skip
                    refine KW.region ?_
                    refine OW.val rfl rfl (EX.move rfl) ?_
                    refine OW.val rfl rfl (by first | exact EX.notD rfl | exact EX.notB rfl) ?_
                    refine OW.val rfl rfl (EX.move rfl) ?_
                    refine OW.pass rfl rfl ?_
                    refine OW.pass rfl rfl ?_
                    refine OW.val rfl rfl (EX.pickT rfl rfl) ?_
                    refine OW.nil ?_
                    refine KW.condT rfl (KW.seq (KW.region ?_))
                    refine OW.val rfl rfl (EX.assign rfl) ?_
                    refine OW.val rfl rfl (EX.assign rfl) ?_
                    refine OW.nil ?_
                    refine KW.ret (ret2 rfl rfl rfl ?_)
                    exact bye2 (by rw [hdst, if_neg (fun h => by cases h.1)])
                  · skip
                    refine KW.region ?_
                    refine OW.val rfl rfl (EX.move rfl) ?_
                    refine OW.val rfl rfl (by first | exact EX.notD rfl | exact EX.notB rfl) ?_
                    refine OW.val rfl rfl (EX.move rfl) ?_
                    refine OW.val rfl rfl (EX.move rfl) ?_
                    refine OW.val rfl rfl (EX.eqlS (r := []) rfl rfl) ?_
                    refine OW.val rfl rfl (EX.pickF rfl rfl) ?_
                    refine OW.nil ?_
                    refine KW.condD rfl (fun b1 => ?_) (fun b1 => ?_)
                    · refine KW.seq (KW.region ?_)
                      refine OW.val rfl rfl (EX.assign rfl) ?_
                      refine OW.val rfl rfl (EX.assign rfl) ?_
                      refine OW.nil ?_
                      refine KW.ret (ret2 rfl rfl rfl ?_)
                      exact bye2 (by rw [hdst, if_neg (fun h => h.2 b1)])
                    · rw [if_pos ⟨rfl, b1⟩] at hdst
                      have hown2 := (hown.ext hx1).ext hx2
                      refine KW.skip (KW.seq (KW.region ?_))
                      refine OW.val rfl rfl (EX.move rfl) ?_
                      refine OW.val rfl rfl (EX.move rfl) ?_
                      refine OW.val rfl rfl (EX.move rfl) ?_
                      refine OW.val rfl rfl (EX.buildS (pl := [(0, 1), (1, 1)]) (ks := [0, 1]) (is := [0, 1]) (zs := [str [], str []]) Tryd.underlying36 ti36 (by kernel_rfl) rfl rfl rfl (by first | rfl | (simp only [List.all_cons, List.all_nil, Bool.and_true, Bool.true_and, Bool.and_eq_true, Value.oneCell']; repeat (first | assumption | exact Own.one (by assumption) | constructor))) (by simp only [setAll, List.set_cons_zero, List.set_cons_succ]; rfl)) ?_
                      refine OW.pushS rfl rfl (fun _ => rfl) rfl Tryd.underlying22 ti36 rfl (by decide) (by decide) rfl rfl (fun _ => rfl) (by first | rfl | assumption | (simp only [List.all_cons, List.all_nil, Bool.and_true, Bool.true_and, Bool.and_eq_true, Value.oneCell']; repeat (first | assumption | constructor))) (x2) (hown2) (by simp only [maxLen]; omega) (by omega) ?_
                      rintro _ v3 w3 hown3 hx3 _
                      refine OW.val rfl rfl (EX.assign rfl) ?_
                      refine OW.nil ?_
                      refine KW.region ?_
                      refine OW.val rfl rfl (EX.move rfl) ?_
                      refine OW.val rfl rfl (EX.move rfl) ?_
                      refine OW.val rfl rfl (EX.sliceLE Tryd.underlying9 rfl rfl (by omega)) ?_
                      refine OW.val rfl rfl (EX.assign rfl) ?_
                      refine OW.nil ?_
                      refine KW.leave ?_
                      refine KW.back4 (q.drop n) (out ++ [⟨key, val⟩]) (v3) (w3) ⟨rfl, rfl, trivial⟩ rfl ?_ (by rw [List.length_drop]; omega)
                      refine ⟨by rw [List.length_drop]; omega, by rw [List.length_drop, List.length_append, List.length_singleton]; omega, ?_, ?_, hx3⟩
                      · rw [he, dl_succ, if_neg hnil, hdst]
                        simp only
                        exact ((decL_out _ (q.drop n) _ (by rw [List.length_drop]; omega)).2 _ (by omega)).symm
                      · rw [List.length_append, List.length_singleton, prsV, List.flatMap_append]
                        simpa [Pr.cells] using hown3
end Go.Proofs.YtieojdkblakchaaDoor
