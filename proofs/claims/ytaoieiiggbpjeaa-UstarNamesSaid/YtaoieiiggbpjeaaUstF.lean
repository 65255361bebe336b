/-
  ustar: headers are read, by the document.
-/
import Derived.Test.YtaoieiiggbpjeaaUstE
import Derived.Test.YtaoieiiggbpjeaaKv
namespace Go.Proofs.Ytaoieiiggbpjeaa
open Go.RowKit Fld Ust
set_option linter.unusedVariables false
set_option linter.unusedSimpArgs false

def atL : List Nat := [100, 108, 116, 124, 136, 148, 156]
def nmb (s : List UInt8) (i : Nat) : Nat × Nat := num (sl s (atL.getD i 0) (atL.getD (i + 1) 0 - atL.getD i 0))
abbrev six (s : List UInt8) : List Value := [.int .i64 (((nmb s 0).1 : Nat) : Int), .int .i64 (((nmb s 1).1 : Nat) : Int), .int .i64 (((nmb s 2).1 : Nat) : Int), .int .i64 (((nmb s 3).1 : Nat) : Int), .int .i64 (((nmb s 4).1 : Nat) : Int), .int .i64 (((nmb s 5).1 : Nat) : Int)]
set_option maxRecDepth 20000 in
theorem rdecode_s (s : List UInt8) (hs : s.length ≤ 140737488355328) (w : World) : Ret Try.prog 13 [str s] w fun v w' => v = .tuple #[.agg (decH s).1.cells.toArray, .int .i64 (((decH s).2 : Nat) : Int)] ∧ Ext w w' := by
  refine Ret.enter Try.func13 rfl Try.ntmps13 (by kernel_rfl) rfl ?_
  refine KW.seq (KW.region ?_)
  refine OW.allocB (l := [str [], .int .i64 0, .int .u8 0, .int .i64 0, .int .i64 0, str [], str [], str [], .int .i64 0, .int .i64 0]) rfl rfl ti25 rfl ?_
  rintro rb w1 hge1 hr1 hx1
  refine OW.val rfl rfl (EX.assign rfl) ?_
  refine OW.nil ?_
  refine KW.seq (KW.seq ?_)
  replace hr1 : Bk w1 rb 25 hd0.cells := hr1
  have bye : ¬ OkD s → ∀ (w' w'' : World), Ext w w' → Mo w' w'' [rb] → (Value.tuple #[.agg hd0.cells.toArray, .int .i64 ((160 : Nat) : Int)] = .tuple #[.agg (decH s).1.cells.toArray, .int .i64 (((decH s).2 : Nat) : Int)] ∧ Ext w w'') := fun hn w' w'' hx hm => by
    rw [dec_no hn]
    exact ⟨rfl, below_mo hx hm hx.size (fun k hk => by simp at hk; omega)⟩
  refine KW.cutd1 (fun (_u : Unit) => s.length = 512 ∧ sl s 257 8 = magic) (fun (_u : Unit) => [(0, str (s)), (2, .pointer (some ⟨rb, 0, none⟩))]) (fun (_u : Unit) => w1) ?_ ?_
  · refine KW.region ?_
    refine OW.val rfl rfl (EX.move rfl) ?_
    refine OW.val rfl rfl (EX.lenS Try.underlying9 rfl) ?_
    refine OW.val rfl rfl (by first | exact EX.neqN (b := 512) rfl rfl | exact EX.neqZ rfl rfl) ?_
    refine OW.val rfl rfl (EX.move rfl) ?_
    refine OW.splitD 16 rfl (fun a1 => ?_) (fun a1 => ?_)
    · refine OW.pass rfl rfl ?_
      refine OW.pass rfl rfl ?_
      refine OW.pass rfl rfl ?_
      refine OW.val rfl rfl (EX.pickT rfl rfl) ?_
      refine OW.nil ?_
      refine KW.condT rfl (KW.seq (KW.region ?_))
      refine OW.val rfl rfl (EX.buildS (pl := [(0, 1), (1, 1), (2, 1), (3, 1), (4, 1), (5, 1), (6, 2), (8, 2)]) (ks := []) (is := []) (zs := [str [], .int .i64 0, .int .u8 0, .int .i64 0, .int .i64 0, str [], str [], str [], .int .i64 0, .int .i64 0]) Try.underlying25 ti25 (by kernel_rfl) rfl rfl rfl (by first | rfl | (simp only [List.all_cons, List.all_nil, Bool.and_true, Bool.true_and, Bool.and_eq_true, Value.oneCell']; repeat (first | assumption | exact Own.one (by assumption) | constructor))) (by simp only [setAll, List.set_cons_zero, List.set_cons_succ]; rfl)) ?_
      refine OW.storeS rfl ti25 rfl rfl rfl (by first | rfl | (simp only [List.all_cons, List.all_nil, Bool.and_true, Bool.true_and, Bool.and_eq_true, Value.oneCell']; repeat (first | assumption | exact Own.one (by assumption) | constructor))) (hr1) (Nat.le_refl _) ?_
      rintro w2 hr2 hm2
      refine OW.val rfl rfl (EX.assign rfl) ?_
      refine OW.nil ?_
      refine KW.ret (retC2 rfl Try.underlying25 rfl ti25 rfl rfl (hr2) rfl ?_)
      exact bye (fun h => a1 (by have := h.len; omega)) _ _ hx1 hm2
    · have h512 : s.length = 512 := by omega
      refine OW.val rfl rfl (EX.move rfl) ?_
      refine OW.val rfl rfl (EX.sliceLH (i := 257) (j := 265) Try.underlying9 rfl rfl rfl (by omega)) ?_
      refine OW.val rfl rfl (EX.neqS (r := [117, 115, 116, 97, 114, 0, 48, 48]) rfl rfl) ?_
      refine OW.val rfl rfl (EX.pickF rfl rfl) ?_
      refine OW.nil ?_
      refine KW.condD rfl (fun a2 => ?_) (fun a2 => ?_)
      · refine KW.seq (KW.region ?_)
        refine OW.val rfl rfl (EX.buildS (pl := [(0, 1), (1, 1), (2, 1), (3, 1), (4, 1), (5, 1), (6, 2), (8, 2)]) (ks := []) (is := []) (zs := [str [], .int .i64 0, .int .u8 0, .int .i64 0, .int .i64 0, str [], str [], str [], .int .i64 0, .int .i64 0]) Try.underlying25 ti25 (by kernel_rfl) rfl rfl rfl (by first | rfl | (simp only [List.all_cons, List.all_nil, Bool.and_true, Bool.true_and, Bool.and_eq_true, Value.oneCell']; repeat (first | assumption | exact Own.one (by assumption) | constructor))) (by simp only [setAll, List.set_cons_zero, List.set_cons_succ]; rfl)) ?_
        refine OW.storeS rfl ti25 rfl rfl rfl (by first | rfl | (simp only [List.all_cons, List.all_nil, Bool.and_true, Bool.true_and, Bool.and_eq_true, Value.oneCell']; repeat (first | assumption | exact Own.one (by assumption) | constructor))) (hr1) (Nat.le_refl _) ?_
        rintro w2 hr2 hm2
        refine OW.val rfl rfl (EX.assign rfl) ?_
        refine OW.nil ?_
        refine KW.ret (retC2 rfl Try.underlying25 rfl ti25 rfl rfl (hr2) rfl ?_)
        exact bye (fun h => a2 h.magic) _ _ hx1 hm2
      · refine KW.skip ?_
        refine KW.meet1 (()) ⟨rfl, rfl, trivial⟩ rfl ?_
        exact ⟨h512, Classical.not_not.1 a2⟩
  · rintro _ ⟨h512, hmg⟩
    refine KW.seq (KW.region ?_)
    refine OW.val rfl rfl (EX.assign rfl) ?_
    refine OW.nil ?_
    refine KW.seq (KW.region ?_)
    refine OW.buildB 7 rfl rfl Try.underlying64 ti3 rfl rfl rfl rfl (by first | rfl | (simp only [List.all_cons, List.all_nil, Bool.and_true, Bool.and_eq_true]; assumption)) (by decide) ?_
    rintro ab w2 hge2 ha2 hx2
    refine OW.val rfl rfl (EX.assign rfl) ?_
    refine OW.nil ?_
    refine KW.seq (KW.seq (KW.region ?_))
    refine OW.val rfl rfl (EX.assign rfl) ?_
    refine OW.nil ?_
    refine KW.block ?_
    replace ha2 : Bk w2 ab 3 (ints .i64 atL) := ha2
    have x2 := hx1.trans hx2
    have hr2 := hr1.ext hx2
    have hat : ∀ i, i < 6 → atL.getD i 0 ≤ atL.getD (i + 1) 0 ∧ atL.getD (i + 1) 0 ≤ 156 := by decide
    have hint : ∀ i, i < 7 → (ints .i64 atL)[i]? = some (.int .i64 ((atL.getD i 0 : Nat) : Int)) := by
      intro i hi
      have : i = 0 ∨ i = 1 ∨ i = 2 ∨ i = 3 ∨ i = 4 ∨ i = 5 ∨ i = 6 := by omega
      rcases this with rfl | rfl | rfl | rfl | rfl | rfl | rfl <;> rfl
    refine KW.loop3 (fun (i : Nat) (v : Value) (wr : World) => i ≤ 6 ∧ (∀ j, j < i → (nmb s j).2 = 0) ∧ Own wr w2.heap.size 3 1 v i (ints .i64 ((List.range i).map fun j => (nmb s j).1)) ∧ Ext w2 wr ∧ Bk wr rb 25 hd0.cells) (fun (i : Nat) (v : Value) (wr : World) => [(0, str (s)), (2, .pointer (some ⟨rb, 0, none⟩)), (4, v), (5, .slice (some ⟨ab, 0, none⟩) 7 7), (6, .int .i64 ((i : Nat) : Int))]) (fun (i : Nat) (v : Value) (wr : World) => wr) (fun (i : Nat) (v : Value) (wr : World) => 6 - i) (0) (.slice none 0 0) (w2) ⟨rfl, rfl, rfl, rfl, rfl, trivial⟩ rfl ?_ ?_
    · exact ⟨by omega, fun j hj => by omega, Own.nil _ _ _ _, Ext.refl _, hr2⟩
    · rintro i v wr ⟨hi, hz, hown, hx, hr⟩
      have xr := x2.trans hx
      refine KW.seq (KW.seq (KW.region ?_))
      refine OW.val rfl rfl (EX.move rfl) ?_
      refine OW.val rfl rfl (by first | exact EX.lssN (b := 6) rfl rfl | exact EX.lssZ rfl rfl) ?_
      refine OW.nil ?_
      refine KW.condD rfl (fun hlt => ?_) (fun hlt => ?_)
      · have hab := ha2.ext hx
        have c1 := hint i (by omega)
        have c2 := hint (i + 1) (by omega)
        obtain ⟨t1, t2⟩ := hat i hlt
        have hnm : nmb s i = num (sl s (atL.getD i 0) (atL.getD (i + 1) 0 - atL.getD i 0)) := rfl
        generalize atL.getD i 0 = a at c1 t1 hnm
        generalize atL.getD (i + 1) 0 = b at c2 t1 t2 hnm
        have hsl := sl_len h512 a (b - a)
        refine KW.skip (KW.seq (KW.block (KW.seq ?_)))
        refine KW.regionQ (by kernel_rfl) (by kernel_rfl) ?_
        refine QW.val rfl rfl (fun _ => EX.move rfl) ?_
        refine QW.val rfl rfl (fun _ => EX.move rfl) ?_
        refine QW.val rfl rfl (fun _ => EX.move rfl) ?_
        refine QW.val rfl rfl (fun _ => by first | exact EX.indexAddrS0 Try.underlying64 ti3 rfl rfl (by omega) | exact EX.indexAddrS1 Try.underlying64 ti3 rfl rfl (by omega)) ?_
        refine QW.val rfl rfl (fun _ => EX.load Try.underlying3 rfl rfl (hab.cell_of c1)) ?_
        refine QW.val rfl rfl (fun _ => EX.move rfl) ?_
        refine QW.val rfl rfl (fun _ => EX.move rfl) ?_
        refine QW.val rfl rfl (fun _ => by first | exact EX.addN (b := 1) (m := 9223372036854775807) rfl rfl rfl (by omega) | exact EX.addZ (m := 9223372036854775807) rfl rfl rfl rfl (by omega)) ?_
        refine QW.val rfl rfl (fun _ => by first | exact EX.indexAddrS0 Try.underlying64 ti3 rfl rfl (by omega) | exact EX.indexAddrS1 Try.underlying64 ti3 rfl rfl (by omega)) ?_
        refine QW.val rfl rfl (fun _ => EX.load Try.underlying3 rfl rfl (hab.cell_of c2)) ?_
        refine QW.val rfl rfl (fun _ => EX.sliceLH Try.underlying9 rfl rfl rfl (by omega)) ?_
        refine QW.call rfl rfl rfl (fun _ => RetQ.of (refNumber_s (sl s a (b - a)) (by omega) _)) ?_
        refine QW.val rfl rfl (fun _ => EX.move rfl) ?_
        refine QW.val rfl rfl (fun _ => EX.extract rfl rfl) ?_
        refine QW.val rfl rfl (fun _ => EX.extract rfl rfl) ?_
        refine QW.val rfl rfl (fun _ => EX.assign rfl) ?_
        refine QW.val rfl rfl (fun _ => EX.assign rfl) ?_
        refine QW.nil (fun nq => ?_)
        refine KW.seq (KW.seq (KW.region ?_))
        refine OW.val rfl rfl (EX.move rfl) ?_
        refine OW.val rfl rfl (by first | exact EX.neqN (b := 0) rfl rfl | exact EX.neqZ rfl rfl) ?_
        refine OW.nil ?_
        rw [← hnm]
        refine KW.condD rfl (fun hbad => ?_) (fun hbad => ?_)
        · refine KW.seq (KW.region ?_)
          refine OW.val rfl rfl (EX.buildS (pl := [(0, 1), (1, 1), (2, 1), (3, 1), (4, 1), (5, 1), (6, 2), (8, 2)]) (ks := []) (is := []) (zs := [str [], .int .i64 0, .int .u8 0, .int .i64 0, .int .i64 0, str [], str [], str [], .int .i64 0, .int .i64 0]) Try.underlying25 ti25 (by kernel_rfl) rfl rfl rfl (by first | rfl | (simp only [List.all_cons, List.all_nil, Bool.and_true, Bool.true_and, Bool.and_eq_true, Value.oneCell']; repeat (first | assumption | exact Own.one (by assumption) | constructor))) (by simp only [setAll, List.set_cons_zero, List.set_cons_succ]; rfl)) ?_
          refine OW.storeS rfl ti25 rfl rfl rfl (by first | rfl | (simp only [List.all_cons, List.all_nil, Bool.and_true, Bool.true_and, Bool.and_eq_true, Value.oneCell']; repeat (first | assumption | exact Own.one (by assumption) | constructor))) (hr.drewN _) (Nat.le_refl _) ?_
          rintro w3 hr3 hm3
          refine OW.val rfl rfl (EX.assign rfl) ?_
          refine OW.nil ?_
          refine KW.ret (retC2 rfl Try.underlying25 rfl ti25 rfl rfl (hr3) rfl ?_)
          have hne : (nmb s i).2 ≠ 0 := by omega
          refine bye (fun h => hne ?_) _ _ (xr.trans (Ext.drewN wr nq)) hm3
          have : i = 0 ∨ i = 1 ∨ i = 2 ∨ i = 3 ∨ i = 4 ∨ i = 5 := by omega
          rcases this with rfl | rfl | rfl | rfl | rfl | rfl
          · exact h.mode
          · exact h.i0
          · exact h.i1
          · exact h.size
          · exact h.time
          · exact h.sum
        · refine KW.skip (KW.region ?_)
          refine OW.val rfl rfl (EX.move rfl) ?_
          refine OW.val rfl rfl (EX.move rfl) ?_
          have hx3 := hx.trans (Ext.drewN wr nq)
          have hownq := hown.ext (Ext.drewN wr nq)
          refine OW.push rfl rfl (fun _ => rfl) rfl Try.underlying64 ti3 rfl rfl (fun _ => rfl) rfl (hx3) (hownq) (by simp only [maxLen]; omega) (by omega) ?_
          rintro _ v4 w4 hown4 hx4 hg4 _
          refine OW.val rfl rfl (EX.assign rfl) ?_
          refine OW.nil ?_
          refine KW.leave (KW.region ?_)
          refine OW.val rfl rfl (EX.move rfl) ?_
          refine OW.val rfl rfl (by first | exact EX.addN (b := 1) (m := 9223372036854775807) rfl rfl rfl (by omega) | exact EX.addZ (m := 9223372036854775807) rfl rfl rfl rfl (by omega)) ?_
          refine OW.val rfl rfl (EX.assign rfl) ?_
          refine OW.nil ?_
          refine KW.back3 (i + 1) (v4) (w4) ⟨rfl, rfl, rfl, rfl, rfl, trivial⟩ rfl ?_ (by omega)
          refine ⟨by omega, fun j hj => ?_, ?_, hx4, hr2.ext hx4⟩
          · by_cases e : j = i
            · subst e
              omega
            · exact hz j (by omega)
          · rw [List.range_succ, List.map_append]
            simpa [ints] using hown4
      · obtain rfl : i = 6 := by omega
        obtain ⟨g, cap, rest, rfl, hg, hbg, hlen6, hc1, hc2⟩ : ∃ g cap rest, v = .slice (some ⟨g, 0, none⟩) 6 cap ∧ w2.heap.size ≤ g ∧ Bk wr g 3 (ints .i64 ((List.range 6).map fun j => (nmb s j).1) ++ rest) ∧ (ints .i64 ((List.range 6).map fun j => (nmb s j).1)).length + rest.length = cap * 1 ∧ 6 ≤ cap ∧ cap ≤ maxLen := by
          rcases hown.2 with ⟨_, h⟩ | h
          · cases h
          · exact h
        replace hbg : Bk wr g 3 (six s ++ rest) := hbg
        have hsum : sum s = (sumTo s 512, 0) := by unfold sum; rw [if_neg (by omega)]
        have cs := refSum_s s hs wr
        rw [hsum] at cs
        have hk156 : s[156]? = some (s.getD 156 0) := by simp [List.getD_eq_getElem?_getD, h512]
        refine KW.exit rfl (KW.seq (KW.region ?_))
        refine OW.val rfl rfl (EX.move rfl) ?_
        refine OW.call rfl rfl rfl (cs) ?_
        rintro _ _ ⟨rfl, rfl⟩
        refine OW.val rfl rfl (EX.move rfl) ?_
        refine OW.val rfl rfl (EX.extract rfl rfl) ?_
        refine OW.val rfl rfl (EX.extract rfl rfl) ?_
        refine OW.val rfl rfl (EX.assign rfl) ?_
        refine OW.val rfl rfl (EX.assign rfl) ?_
        refine OW.nil ?_
        refine KW.seq ?_
        refine KW.cut2 (fun (hb : Nat) (wq : World) => Ext w wq ∧ w.heap.size ≤ hb ∧ rb ≠ hb ∧ Bk wq rb 25 hd0.cells ∧ Bk wq g 3 (six s ++ rest) ∧ Bk wq hb 25 (Hd.cells ⟨[], ((nmb s 3).1 : Nat), (s.getD 156 0).toNat, ((nmb s 0).1 : Nat), ((nmb s 4).1 : Nat), cut (sl s 157 100), [], [], ((nmb s 1).1 : Nat), ((nmb s 2).1 : Nat)⟩)) (fun (hb : Nat) (wq : World) => [(0, str (s)), (2, .pointer (some ⟨rb, 0, none⟩)), (4, .slice (some ⟨g, 0, none⟩) 6 cap), (9, .int .i64 (((sumTo s 512) : Nat) : Int)), (11, .pointer (some ⟨hb, 0, none⟩))]) (fun (hb : Nat) (wq : World) => wq) ?_ ?_
        · skip
          refine KW.regionG (N := 24) (fun w' => Ext w w' ∧ Bk w' g 3 (six s ++ rest)) (by kernel_rfl) rfl ?_
          have hS : (fun w' => Ext w w' ∧ Bk w' g 3 (six s ++ rest)) wr.drew := ⟨xr.trans (Ext.drew wr), hbg.drew⟩
          have hr := hr.ext (Ext.drew _)
          refine GW.val 0 rfl (by kernel_rfl) (by kernel_rfl) (by kernel_rfl) rfl rfl hS (fun w' hS' => EX.move rfl) ?_
          refine GW.val 1 rfl (by kernel_rfl) (by kernel_rfl) (by kernel_rfl) rfl rfl hS (fun w' hS' => by first | exact EX.indexAddrS0 (i := 0) Try.underlying64 ti3 rfl rfl (by omega) | exact EX.indexAddrS1 (i := 0) Try.underlying64 ti3 rfl rfl (by omega)) ?_
          refine GW.val 2 rfl (by kernel_rfl) (by kernel_rfl) (by kernel_rfl) rfl rfl hS (fun w' hS' => EX.load Try.underlying3 rfl rfl (hS'.2.cell_of rfl)) ?_
          refine GW.val 3 rfl (by kernel_rfl) (by kernel_rfl) (by kernel_rfl) rfl rfl hS (fun w' hS' => EX.move rfl) ?_
          refine GW.val 4 rfl (by kernel_rfl) (by kernel_rfl) (by kernel_rfl) rfl rfl hS (fun w' hS' => by first | exact EX.indexAddrS0 (i := 1) Try.underlying64 ti3 rfl rfl (by omega) | exact EX.indexAddrS1 (i := 1) Try.underlying64 ti3 rfl rfl (by omega)) ?_
          refine GW.val 5 rfl (by kernel_rfl) (by kernel_rfl) (by kernel_rfl) rfl rfl hS (fun w' hS' => EX.load Try.underlying3 rfl rfl (hS'.2.cell_of rfl)) ?_
          refine GW.val 6 rfl (by kernel_rfl) (by kernel_rfl) (by kernel_rfl) rfl rfl hS (fun w' hS' => EX.move rfl) ?_
          refine GW.val 7 rfl (by kernel_rfl) (by kernel_rfl) (by kernel_rfl) rfl rfl hS (fun w' hS' => by first | exact EX.indexAddrS0 (i := 2) Try.underlying64 ti3 rfl rfl (by omega) | exact EX.indexAddrS1 (i := 2) Try.underlying64 ti3 rfl rfl (by omega)) ?_
          refine GW.val 8 rfl (by kernel_rfl) (by kernel_rfl) (by kernel_rfl) rfl rfl hS (fun w' hS' => EX.load Try.underlying3 rfl rfl (hS'.2.cell_of rfl)) ?_
          refine GW.val 9 rfl (by kernel_rfl) (by kernel_rfl) (by kernel_rfl) rfl rfl hS (fun w' hS' => EX.buildA2 (zs := [.int .i64 0, .int .i64 0]) Try.underlying23 ti23 ti3 rfl rfl rfl (by first | rfl | assumption) (by first | rfl | assumption)) ?_
          refine GW.val 10 rfl (by kernel_rfl) (by kernel_rfl) (by kernel_rfl) rfl rfl hS (fun w' hS' => EX.move rfl) ?_
          refine GW.val 11 rfl (by kernel_rfl) (by kernel_rfl) (by kernel_rfl) rfl rfl hS (fun w' hS' => by first | exact EX.indexAddrS0 (i := 3) Try.underlying64 ti3 rfl rfl (by omega) | exact EX.indexAddrS1 (i := 3) Try.underlying64 ti3 rfl rfl (by omega)) ?_
          refine GW.val 12 rfl (by kernel_rfl) (by kernel_rfl) (by kernel_rfl) rfl rfl hS (fun w' hS' => EX.load Try.underlying3 rfl rfl (hS'.2.cell_of rfl)) ?_
          refine GW.val 13 rfl (by kernel_rfl) (by kernel_rfl) (by kernel_rfl) rfl rfl hS (fun w' hS' => EX.move rfl) ?_
          refine GW.val 14 rfl (by kernel_rfl) (by kernel_rfl) (by kernel_rfl) rfl rfl hS (fun w' hS' => by first | exact EX.indexAddrS0 (i := 4) Try.underlying64 ti3 rfl rfl (by omega) | exact EX.indexAddrS1 (i := 4) Try.underlying64 ti3 rfl rfl (by omega)) ?_
          refine GW.val 15 rfl (by kernel_rfl) (by kernel_rfl) (by kernel_rfl) rfl rfl hS (fun w' hS' => EX.load Try.underlying3 rfl rfl (hS'.2.cell_of rfl)) ?_
          refine GW.val 16 rfl (by kernel_rfl) (by kernel_rfl) (by kernel_rfl) rfl rfl hS (fun w' hS' => EX.move rfl) ?_
          refine GW.val 17 rfl (by kernel_rfl) (by kernel_rfl) (by kernel_rfl) rfl rfl hS (fun w' hS' => EX.indexS (i := 156) Try.underlying9 rfl rfl hk156) ?_
          refine GW.val 18 rfl (by kernel_rfl) (by kernel_rfl) (by kernel_rfl) rfl rfl hS (fun w' hS' => EX.move rfl) ?_
          refine GW.val 19 rfl (by kernel_rfl) (by kernel_rfl) (by kernel_rfl) rfl rfl hS (fun w' hS' => EX.sliceLH (i := 157) (j := 257) Try.underlying9 rfl rfl rfl (by omega)) ?_
          refine GW.two 20 22 (by kernel_rfl) ?_ ?_
          · refine GO.call 20 rfl rfl rfl rfl (refCut_s (sl s 157 100) (by have := sl_len h512 157 100; omega) wr.drew) ?_
            rintro _ _ ⟨rfl, rfl⟩
            refine ⟨hS, fun hS => ?_⟩
            refine GW.val 21 rfl (by kernel_rfl) (by kernel_rfl) (by kernel_rfl) rfl rfl hS (fun w' hS' => EX.buildH (pl := [(0, 1), (1, 1), (2, 1), (3, 1), (4, 1), (5, 1), (6, 2), (8, 2)]) (ks := [3, 7, 1, 4, 2, 5]) (zs := [str [], .int .i64 0, .int .u8 0, .int .i64 0, .int .i64 0, str [], str [], str [], .int .i64 0, .int .i64 0]) Try.underlying25 ti25 (by kernel_rfl) rfl rfl (by simp only [List.map_cons, List.map_nil, Value.cells]; rfl) rfl rfl (by simp only [fillL, List.zip_cons_cons, List.zip_nil_right, List.zip_nil_left, List.getD_cons_zero, List.getD_cons_succ, List.length_cons, List.length_nil, Nat.zero_add, Nat.add_zero, Nat.reduceAdd, List.take_succ_cons, List.take_zero, List.drop_succ_cons, List.drop_zero, List.nil_append, List.cons_append]; rfl)) ?_
            refine GW.allocB (l := [str [], .int .i64 0, .int .u8 0, .int .i64 0, .int .i64 0, str [], str [], str [], .int .i64 0, .int .i64 0]) 22 rfl (by kernel_rfl) rfl rfl ti25 rfl ?_
            rintro hb w22 hge22 h22 hx22
            have hne : rb ≠ hb := fun q => (by have := hr.lt; omega)
            have hxge : w.heap.size ≤ hb := (by have := hS.1.size; omega)
            refine ⟨⟨hS.1.trans hx22, hS.2.ext hx22⟩, fun hS => ?_⟩
            have hr := hr.ext hx22
            refine GW.storeS 23 rfl (by kernel_rfl) rfl ti25 rfl rfl rfl (by first | rfl | (simp only [List.all_cons, List.all_nil, Bool.and_true, Bool.true_and, Bool.and_eq_true, Value.oneCell']; repeat (first | assumption | constructor))) (h22) (Nat.le_refl _) ?_
            rintro w23 hb23 hm23
            refine ⟨⟨below_mo hS.1 hm23 hS.1.size (fun k hk => by simp at hk; omega), hS.2.mo hm23 (by simp; exact hS.2.ne h22 (by decide))⟩, fun hS => ?_⟩
            have hr := hr.mo hm23 (by simp; exact hne)
            refine GW.done (by kernel_rfl) ?_
            refine KW.meet2 hb w23 ⟨rfl, rfl, rfl, rfl, rfl, trivial⟩ rfl ?_
            exact ⟨hS.1, hxge, hne, hr, hS.2, hb23⟩
          · refine GO.allocB (l := [str [], .int .i64 0, .int .u8 0, .int .i64 0, .int .i64 0, str [], str [], str [], .int .i64 0, .int .i64 0]) 22 rfl rfl rfl ti25 rfl ?_
            rintro hb w22 hge22 h22 hx22
            have hne : rb ≠ hb := fun q => (by have := hr.lt; omega)
            have hxge : w.heap.size ≤ hb := (by have := hS.1.size; omega)
            refine ⟨⟨hS.1.trans hx22, hS.2.ext hx22⟩, fun hS => ?_⟩
            have hr := hr.ext hx22
            refine GW.call 20 rfl (by kernel_rfl) rfl rfl rfl (refCut_s (sl s 157 100) (by have := sl_len h512 157 100; omega) w22) ?_
            rintro _ _ ⟨rfl, rfl⟩
            refine ⟨hS, fun hS => ?_⟩
            refine GW.val 21 rfl (by kernel_rfl) (by kernel_rfl) (by kernel_rfl) rfl rfl hS (fun w' hS' => EX.buildH (pl := [(0, 1), (1, 1), (2, 1), (3, 1), (4, 1), (5, 1), (6, 2), (8, 2)]) (ks := [3, 7, 1, 4, 2, 5]) (zs := [str [], .int .i64 0, .int .u8 0, .int .i64 0, .int .i64 0, str [], str [], str [], .int .i64 0, .int .i64 0]) Try.underlying25 ti25 (by kernel_rfl) rfl rfl (by simp only [List.map_cons, List.map_nil, Value.cells]; rfl) rfl rfl (by simp only [fillL, List.zip_cons_cons, List.zip_nil_right, List.zip_nil_left, List.getD_cons_zero, List.getD_cons_succ, List.length_cons, List.length_nil, Nat.zero_add, Nat.add_zero, Nat.reduceAdd, List.take_succ_cons, List.take_zero, List.drop_succ_cons, List.drop_zero, List.nil_append, List.cons_append]; rfl)) ?_
            refine GW.storeS 23 rfl (by kernel_rfl) rfl ti25 rfl rfl rfl (by first | rfl | (simp only [List.all_cons, List.all_nil, Bool.and_true, Bool.true_and, Bool.and_eq_true, Value.oneCell']; repeat (first | assumption | constructor))) (h22) (Nat.le_refl _) ?_
            rintro w23 hb23 hm23
            refine ⟨⟨below_mo hS.1 hm23 hS.1.size (fun k hk => by simp at hk; omega), hS.2.mo hm23 (by simp; exact hS.2.ne h22 (by decide))⟩, fun hS => ?_⟩
            have hr := hr.mo hm23 (by simp; exact hne)
            refine GW.done (by kernel_rfl) ?_
            refine KW.meet2 hb w23 ⟨rfl, rfl, rfl, rfl, rfl, trivial⟩ rfl ?_
            exact ⟨hS.1, hxge, hne, hr, hS.2, hb23⟩
        · rintro hb wq ⟨xq, hlo, hne, hrq, hgq, hhq⟩
          have hgo : ∀ (w' w'' : World) (l : List Value), Ext w w' → Bk w' rb 25 hd0.cells → Bk w' g 3 (six s ++ rest) → Bk w'' hb 25 l → Mo w' w'' [hb] → (∀ l', Bk w' hb 25 l' → (Ext w w'' ∧ Bk w'' rb 25 hd0.cells ∧ Bk w'' g 3 (six s ++ rest) ∧ Bk w'' hb 25 l)) := fun w' w'' l hx hr hg hh hm l' hh' =>
            ⟨below_mo hx hm hx.size (fun k hk => by simp at hk; omega), hr.mo hm (by simp; exact hne), hg.mo hm (by simp; exact hg.ne hh' (by decide)), hh⟩
          refine KW.seq ?_
          refine KW.cut1 (fun (wz : World) => Ext w wz ∧ Bk wz rb 25 hd0.cells ∧ Bk wz g 3 (six s ++ rest) ∧ Bk wz hb 25 (Hd.cells ⟨[], ((nmb s 3).1 : Nat), (s.getD 156 0).toNat, ((nmb s 0).1 : Nat), ((nmb s 4).1 : Nat), cut (sl s 157 100), cut (sl s 265 32), cut (sl s 297 32), ((nmb s 1).1 : Nat), ((nmb s 2).1 : Nat)⟩)) (fun (wz : World) => [(0, str (s)), (2, .pointer (some ⟨rb, 0, none⟩)), (4, .slice (some ⟨g, 0, none⟩) 6 cap), (9, .int .i64 (((sumTo s 512) : Nat) : Int)), (11, .pointer (some ⟨hb, 0, none⟩))]) (fun (wz : World) => wz) ?_ ?_
          · skip
            refine KW.regionG (N := 9) (fun w' => Ext w w' ∧ Bk w' g 3 (six s ++ rest)) (by kernel_rfl) rfl ?_
            have hS : (fun w' => Ext w w' ∧ Bk w' g 3 (six s ++ rest)) wq.drew := ⟨xq.trans (Ext.drew wq), hgq.drew⟩
            have hrq := hrq.ext (Ext.drew _)
            have hhq := hhq.ext (Ext.drew _)
            refine GW.val 0 rfl (by kernel_rfl) (by kernel_rfl) (by kernel_rfl) rfl rfl hS (fun w' hS' => EX.move rfl) ?_
            refine GW.val 1 rfl (by kernel_rfl) (by kernel_rfl) (by kernel_rfl) rfl rfl hS (fun w' hS' => EX.sliceLH (i := 265) (j := 297) Try.underlying9 rfl rfl rfl (by omega)) ?_
            refine GW.val 3 rfl (by kernel_rfl) (by kernel_rfl) (by kernel_rfl) rfl rfl hS (fun w' hS' => EX.move rfl) ?_
            refine GW.val 4 rfl (by kernel_rfl) (by kernel_rfl) (by kernel_rfl) rfl rfl hS (fun w' hS' => EX.sliceLH (i := 297) (j := 329) Try.underlying9 rfl rfl rfl (by omega)) ?_
            refine GW.call 2 rfl (by kernel_rfl) rfl rfl rfl (refCut_s (sl s 265 32) (by have := sl_len h512 265 32; omega) wq.drew) ?_
            rintro _ _ ⟨rfl, rfl⟩
            refine ⟨hS, fun hS => ?_⟩
            refine GW.call 5 rfl (by kernel_rfl) rfl rfl rfl (refCut_s (sl s 297 32) (by have := sl_len h512 297 32; omega) wq.drew) ?_
            rintro _ _ ⟨rfl, rfl⟩
            refine ⟨hS, fun hS => ?_⟩
            refine GW.val 6 rfl (by kernel_rfl) (by kernel_rfl) (by kernel_rfl) rfl rfl hS (fun w' hS' => EX.buildA2 (zs := [str [], str []]) Try.underlying22 ti22 ti9 rfl rfl rfl (by first | rfl | assumption) (by first | rfl | assumption)) ?_
            refine GW.val 7 rfl (by kernel_rfl) (by kernel_rfl) (by kernel_rfl) rfl rfl hS (fun w' hS' => EX.fieldAddr (off := 6) Try.underlying25 rfl rfl ti22 rfl rfl) ?_
            refine GW.storeS 8 rfl (by kernel_rfl) rfl ti22 rfl rfl rfl (by first | rfl | (simp only [List.all_cons, List.all_nil, Bool.and_true, Bool.true_and, Bool.and_eq_true, Value.oneCell']; repeat (first | assumption | constructor))) (hhq) (of_decide_eq_true rfl) ?_
            rintro w8 hb8 hm8
            refine ⟨⟨below_mo hS.1 hm8 hS.1.size (fun k hk => by simp at hk; omega), hS.2.mo hm8 (by simp; exact hS.2.ne hhq (by decide))⟩, fun hS => ?_⟩
            have hrq := hrq.mo hm8 (by simp; exact hne)
            refine GW.done (by kernel_rfl) ?_
            refine KW.meet1 w8 ⟨rfl, rfl, rfl, rfl, rfl, trivial⟩ rfl ?_
            exact ⟨hS.1, hrq, hS.2, hb8⟩
          · rintro wz ⟨xz, hrz, hgz, hhz⟩
            have hpn := cut_le (sl s 0 100)
            have hpp := cut_le (sl s 345 155)
            have hsl1 := sl_len h512 0 100
            have hsl2 := sl_len h512 345 155
            refine KW.seq (KW.region ?_)
            refine OW.val rfl rfl (EX.move rfl) ?_
            refine OW.val rfl rfl (EX.sliceFH (j := 100) Try.underlying9 rfl rfl (by omega)) ?_
            refine OW.call rfl rfl rfl (refCut_s (sl s 0 100) (by omega) wz) ?_
            rintro _ _ ⟨rfl, rfl⟩
            refine OW.val rfl rfl (EX.fieldAddr (off := 0) Try.underlying25 rfl rfl ti9 rfl rfl) ?_
            refine OW.storeB rfl ti9 rfl rfl (by first | rfl | assumption | exact Own.one (by assumption)) (hhz) (of_decide_eq_true rfl) ?_
            rintro wa hha hma
            refine OW.nil ?_
            refine KW.seq (KW.region ?_)
            refine OW.val rfl rfl (EX.move rfl) ?_
            refine OW.val rfl rfl (EX.sliceLH (i := 345) (j := 500) Try.underlying9 rfl rfl rfl (by omega)) ?_
            obtain ⟨xa, hra, hga, hha⟩ := hgo wz wa _ xz hrz hgz hha hma _ hhz
            replace hha : Bk wa hb 25 (Hd.cells ⟨cut (sl s 0 100), ((nmb s 3).1 : Nat), (s.getD 156 0).toNat, ((nmb s 0).1 : Nat), ((nmb s 4).1 : Nat), cut (sl s 157 100), cut (sl s 265 32), cut (sl s 297 32), ((nmb s 1).1 : Nat), ((nmb s 2).1 : Nat)⟩) := hha
            refine OW.call rfl rfl rfl (refCut_s (sl s 345 155) (by omega) wa) ?_
            rintro _ _ ⟨rfl, rfl⟩
            refine OW.val rfl rfl (EX.assign rfl) ?_
            refine OW.nil ?_
            refine KW.seq (KW.seq (KW.region ?_))
            refine OW.val rfl rfl (EX.move rfl) ?_
            refine OW.val rfl rfl (EX.neqS (r := []) rfl rfl) ?_
            refine OW.nil ?_
            refine KW.cut1 (fun (wb : World) => Ext w wb ∧ Bk wb rb 25 hd0.cells ∧ Bk wb g 3 (six s ++ rest) ∧ Bk wb hb 25 (Hd.cells ⟨pathD s, ((nmb s 3).1 : Nat), (s.getD 156 0).toNat, ((nmb s 0).1 : Nat), ((nmb s 4).1 : Nat), cut (sl s 157 100), cut (sl s 265 32), cut (sl s 297 32), ((nmb s 1).1 : Nat), ((nmb s 2).1 : Nat)⟩)) (fun (wb : World) => [(0, str (s)), (2, .pointer (some ⟨rb, 0, none⟩)), (4, .slice (some ⟨g, 0, none⟩) 6 cap), (9, .int .i64 (((sumTo s 512) : Nat) : Int)), (11, .pointer (some ⟨hb, 0, none⟩))]) (fun (wb : World) => wb) ?_ ?_
            · refine KW.condD rfl (fun hpre => ?_) (fun hpre => ?_)
              · have e : pathD s = cut (sl s 345 155) ++ [47] ++ cut (sl s 0 100) := by unfold pathD; rw [if_pos hpre]
                refine KW.region ?_
                refine OW.val rfl rfl (EX.move rfl) ?_
                refine OW.val rfl rfl (EX.addS (r := [47]) rfl rfl (by first | omega | (simp only [List.length_append, List.length_cons, List.length_nil, List.length_take, List.length_drop, List.length_replicate]; omega))) ?_
                refine OW.val rfl rfl (EX.fieldAddr (off := 0) Try.underlying25 rfl rfl ti9 rfl rfl) ?_
                refine OW.val rfl rfl (EX.load Try.underlying9 rfl rfl (hha.cell_of rfl)) ?_
                refine OW.val rfl rfl (EX.addS rfl rfl (by first | omega | (simp only [List.length_append, List.length_cons, List.length_nil, List.length_take, List.length_drop, List.length_replicate]; omega))) ?_
                refine OW.val rfl rfl (EX.fieldAddr (off := 0) Try.underlying25 rfl rfl ti9 rfl rfl) ?_
                refine OW.storeB rfl ti9 rfl rfl (by first | rfl | assumption | exact Own.one (by assumption)) (hha) (of_decide_eq_true rfl) ?_
                rintro wb hhb hmb
                refine OW.nil ?_
                refine KW.meet1 (wb) ⟨rfl, rfl, rfl, rfl, rfl, trivial⟩ rfl ?_
                rw [e]
                exact hgo wa wb _ xa hra hga hhb hmb _ hha
              · have e : pathD s = cut (sl s 0 100) := by unfold pathD; rw [if_neg hpre]
                refine KW.skip ?_
                refine KW.meet1 (wa) ⟨rfl, rfl, rfl, rfl, rfl, trivial⟩ rfl ?_
                rw [e]
                exact ⟨xa, hra, hga, hha⟩
            · rintro wb ⟨xb, hrb, hgb, hhb⟩
              refine KW.seq (KW.seq (KW.region ?_))
              refine OW.val rfl rfl (EX.fieldAddr (off := 2) Try.underlying25 rfl rfl ti5 rfl rfl) ?_
              refine OW.val rfl rfl (EX.load Try.underlying5 rfl rfl (hhb.cell_of rfl)) ?_
              refine OW.val rfl rfl (by first | exact EX.eqlN (b := 0) rfl rfl | exact EX.eqlZ rfl rfl) ?_
              refine OW.nil ?_
              refine KW.cut1 (fun (wc : World) => Ext w wc ∧ Bk wc rb 25 hd0.cells ∧ Bk wc g 3 (six s ++ rest) ∧ Bk wc hb 25 (hdD s).cells) (fun (wc : World) => [(0, str (s)), (2, .pointer (some ⟨rb, 0, none⟩)), (4, .slice (some ⟨g, 0, none⟩) 6 cap), (9, .int .i64 (((sumTo s 512) : Nat) : Int)), (11, .pointer (some ⟨hb, 0, none⟩))]) (fun (wc : World) => wc) ?_ ?_
              · refine KW.condD rfl (fun hk0 => ?_) (fun hk0 => ?_)
                · have e : kindD s = 48 := by unfold kindD; rw [if_pos (by omega)]
                  refine KW.region ?_
                  refine OW.val rfl rfl (EX.fieldAddr (off := 2) Try.underlying25 rfl rfl ti5 rfl rfl) ?_
                  refine OW.storeB rfl ti5 rfl rfl (by first | rfl | assumption | exact Own.one (by assumption)) (hhb) (of_decide_eq_true rfl) ?_
                  rintro wc hhc hmc
                  refine OW.nil ?_
                  refine KW.meet1 (wc) ⟨rfl, rfl, rfl, rfl, rfl, trivial⟩ rfl ?_
                  unfold hdD
                  rw [e]
                  exact hgo wb wc _ xb hrb hgb hhc hmc _ hhb
                · have e : kindD s = (s.getD 156 0).toNat := by unfold kindD; rw [if_neg (by omega)]
                  refine KW.skip ?_
                  refine KW.meet1 (wb) ⟨rfl, rfl, rfl, rfl, rfl, trivial⟩ rfl ?_
                  unfold hdD
                  rw [e]
                  exact ⟨xb, hrb, hgb, hhb⟩
              · rintro wc ⟨xc, hrc, hgc, hhc⟩
                have z0 := hz 0 (by decide)
                have z1 := hz 1 (by decide)
                have z2 := hz 2 (by decide)
                have z3 := hz 3 (by decide)
                have z4 := hz 4 (by decide)
                have z5 := hz 5 (by decide)
                refine KW.seq (KW.seq ?_)
                refine KW.region ?_
                refine OW.val rfl rfl (EX.move rfl) ?_
                refine OW.val rfl rfl (by first | exact EX.indexAddrS0 (i := 5) Try.underlying64 ti3 rfl rfl (by omega) | exact EX.indexAddrS1 (i := 5) Try.underlying64 ti3 rfl rfl (by omega)) ?_
                refine OW.val rfl rfl (EX.load Try.underlying3 rfl rfl (hgc.cell_of rfl)) ?_
                refine OW.val rfl rfl (EX.move rfl) ?_
                refine OW.val rfl rfl (by first | exact EX.neqN rfl rfl | exact EX.neqZ rfl rfl) ?_
                refine OW.val rfl rfl (EX.move rfl) ?_
                refine OW.splitD 108 rfl (fun c1 => ?_) (fun c1 => ?_)
                · refine OW.pass rfl rfl ?_
                  refine OW.pass rfl rfl ?_
                  refine OW.pass rfl rfl ?_
                  refine OW.val rfl rfl (EX.pickT rfl rfl) ?_
                  refine OW.nil ?_
                  refine KW.condT rfl (KW.seq (KW.region ?_))
                  refine OW.val rfl rfl (EX.buildS (pl := [(0, 1), (1, 1), (2, 1), (3, 1), (4, 1), (5, 1), (6, 2), (8, 2)]) (ks := []) (is := []) (zs := [str [], .int .i64 0, .int .u8 0, .int .i64 0, .int .i64 0, str [], str [], str [], .int .i64 0, .int .i64 0]) Try.underlying25 ti25 (by kernel_rfl) rfl rfl rfl (by first | rfl | (simp only [List.all_cons, List.all_nil, Bool.and_true, Bool.true_and, Bool.and_eq_true, Value.oneCell']; repeat (first | assumption | exact Own.one (by assumption) | constructor))) (by simp only [setAll, List.set_cons_zero, List.set_cons_succ]; rfl)) ?_
                  refine OW.storeS rfl ti25 rfl rfl rfl (by first | rfl | (simp only [List.all_cons, List.all_nil, Bool.and_true, Bool.true_and, Bool.and_eq_true, Value.oneCell']; repeat (first | assumption | exact Own.one (by assumption) | constructor))) (hrc) (Nat.le_refl _) ?_
                  rintro wd hrd hmd
                  refine OW.val rfl rfl (EX.assign rfl) ?_
                  refine OW.nil ?_
                  refine KW.ret (retC2 rfl Try.underlying25 rfl ti25 rfl rfl (hrd) rfl ?_)
                  exact bye (fun h => c1 h.sums) _ _ xc hmd
                · refine OW.val rfl rfl (EX.fieldAddr (off := 0) Try.underlying25 rfl rfl ti9 rfl rfl) ?_
                  refine OW.val rfl rfl (EX.load Try.underlying9 rfl rfl (hhc.cell_of rfl)) ?_
                  refine OW.val rfl rfl (EX.eqlS (r := []) rfl rfl) ?_
                  refine OW.val rfl rfl (EX.pickF rfl rfl) ?_
                  refine OW.nil ?_
                  refine KW.condD rfl (fun c3 => ?_) (fun c3 => ?_)
                  · refine KW.seq (KW.region ?_)
                    refine OW.val rfl rfl (EX.buildS (pl := [(0, 1), (1, 1), (2, 1), (3, 1), (4, 1), (5, 1), (6, 2), (8, 2)]) (ks := []) (is := []) (zs := [str [], .int .i64 0, .int .u8 0, .int .i64 0, .int .i64 0, str [], str [], str [], .int .i64 0, .int .i64 0]) Try.underlying25 ti25 (by kernel_rfl) rfl rfl rfl (by first | rfl | (simp only [List.all_cons, List.all_nil, Bool.and_true, Bool.true_and, Bool.and_eq_true, Value.oneCell']; repeat (first | assumption | exact Own.one (by assumption) | constructor))) (by simp only [setAll, List.set_cons_zero, List.set_cons_succ]; rfl)) ?_
                    refine OW.storeS rfl ti25 rfl rfl rfl (by first | rfl | (simp only [List.all_cons, List.all_nil, Bool.and_true, Bool.true_and, Bool.and_eq_true, Value.oneCell']; repeat (first | assumption | exact Own.one (by assumption) | constructor))) (hrc) (Nat.le_refl _) ?_
                    rintro wd hrd hmd
                    refine OW.val rfl rfl (EX.assign rfl) ?_
                    refine OW.nil ?_
                    refine KW.ret (retC2 rfl Try.underlying25 rfl ti25 rfl rfl (hrd) rfl ?_)
                    exact bye (fun h => h.path c3) _ _ xc hmd
                  · have ok : OkD s := ⟨h512, hmg, z0, z1, z2, z3, z4, z5, by have := Classical.not_not.1 c1; exact_mod_cast this, c3⟩
                    refine KW.skip (KW.seq (KW.region ?_))
                    refine OW.val rfl rfl (EX.loadBk Try.underlying25 rfl ti25 rfl (hhc) (rfl)) ?_
                    refine OW.storeS rfl ti25 rfl rfl rfl (by first | rfl | (simp only [List.all_cons, List.all_nil, Bool.and_true, Bool.true_and, Bool.and_eq_true, Value.oneCell']; repeat (first | assumption | exact Own.one (by assumption) | constructor))) (hrc) (Nat.le_refl _) ?_
                    rintro wd hrd hmd
                    refine OW.val rfl rfl (EX.assign rfl) ?_
                    refine OW.nil ?_
                    refine KW.ret (retC2 rfl Try.underlying25 rfl ti25 rfl rfl (hrd) rfl ?_)
                    rw [dec_yes ok]
                    exact ⟨rfl, below_mo xc hmd xc.size (fun k hk => by simp at hk; omega)⟩
end Go.Proofs.Ytaoieiiggbpjeaa
