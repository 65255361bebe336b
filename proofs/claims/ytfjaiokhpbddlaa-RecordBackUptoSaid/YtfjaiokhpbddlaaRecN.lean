/-
  record: records and members are read as they were laid.
-/
import Derived.Test.YtfjaiokhpbddlaaRecB2
import Derived.Test.YtfjaiokhpbddlaaRecL
import Derived.Test.YtfjaiokhpbddlaaRecI
namespace Go.Proofs.Ytfjaiokhpbddlaa
open Go.ChangeShapes Go.WideShapes Go.ChangeAt Go.RowKit Go.Deep Rec
set_option linter.unusedVariables false
set_option linter.unusedSimpArgs false

theorem rec_eq (a b : R) : ([decide ((a.kind : Int) = (b.kind : Int)), decide (a.gen = b.gen), decide (a.index = b.index), decide (a.data = b.data)].all id) = decide (a = b) := by
  obtain ⟨a1, a2, a3, a4⟩ := a
  obtain ⟨b1, b2, b3, b4⟩ := b
  have e : ((a1 : Int) = (b1 : Int)) ↔ a1 = b1 := by omega
  rw [Bool.eq_iff_iff]
  simp only [e, List.all_cons, List.all_nil, id, Bool.and_true, Bool.and_eq_true, decide_eq_true_eq, R.mk.injEq]
theorem dec_enc2 {s : List UInt8} {y : R} (h : decodeR s = (y, 0)) : encodeR y.kind y.gen y.index y.data = (s, 0) ∧ y.kind ≤ 255 ∧ y.data.length ≤ 512 := by
  unfold decodeR at h
  split at h
  · rename_i hc
    simp only [Prod.mk.injEq, and_true] at h
    subst h
    refine ⟨hc.2.2, ?_, ?_⟩
    · have := (s.getD 4 0).toNat_lt
      show (s.getD 4 0).toNat ≤ 255
      omega
    · show ((s.drop 19).take _).length ≤ 512
      rw [List.length_take, List.length_drop]
      omega
  · simp at h
set_option maxRecDepth 20000 in
theorem recordBack_s (x : R) (hx : x.Ok) (s : List UInt8) (hs : s.length ≤ 140737488355328) (l : List M) (hl : ∀ m ∈ l, m.Ok) (A : Option Addr) (k : Nat) (w : World) (C : Nat) (hsl : Sl w C A (memsV l)) :
    Ret Try.prog 8 [.agg x.cells.toArray, str s, .slice A l.length k] w fun v w' => v = .bool true ∧ Ext w w' := by
  have hk := hx.kind
  have hd := hx.data
  refine Ret.enter Try.func8 rfl Try.ntmps8 (by kernel_rfl) rfl ?_
  refine KW.seq (KW.region ?_)
  refine OW.boxS rfl rfl rfl ?_
  rintro xb w1 hge1 hb1 hx1
  refine OW.val rfl rfl (EX.assign rfl) ?_
  refine OW.nil ?_
  refine KW.seq (KW.region ?_)
  refine OW.val rfl rfl (EX.fieldAddr (off := 0) Try.underlying31 rfl rfl ti5 rfl rfl) ?_
  replace hb1 : Bk w1 xb 31 x.cells := hb1
  refine OW.val rfl rfl (EX.load Try.underlying5 rfl rfl (hb1.cell_of rfl)) ?_
  refine OW.val rfl rfl (EX.fieldAddr (off := 1) Try.underlying31 rfl rfl ti3 rfl rfl) ?_
  refine OW.val rfl rfl (EX.load Try.underlying3 rfl rfl (hb1.cell_of rfl)) ?_
  refine OW.val rfl rfl (EX.fieldAddr (off := 2) Try.underlying31 rfl rfl ti3 rfl rfl) ?_
  refine OW.val rfl rfl (EX.load Try.underlying3 rfl rfl (hb1.cell_of rfl)) ?_
  refine OW.val rfl rfl (EX.fieldAddr (off := 3) Try.underlying31 rfl rfl ti9 rfl rfl) ?_
  refine OW.val rfl rfl (EX.load Try.underlying9 rfl rfl (hb1.cell_of rfl)) ?_
  refine OW.call rfl rfl rfl (encode_s x.kind hk x.gen x.index x.data (by omega) w1) ?_
  rintro _ w2 ⟨rfl, hx2⟩
  refine OW.val rfl rfl (EX.move rfl) ?_
  refine OW.val rfl rfl (EX.extract rfl rfl) ?_
  refine OW.val rfl rfl (EX.extract rfl rfl) ?_
  refine OW.val rfl rfl (EX.assign rfl) ?_
  refine OW.val rfl rfl (EX.assign rfl) ?_
  refine OW.nil ?_
  refine KW.seq (KW.seq (KW.region ?_))
  refine OW.val rfl rfl (EX.move rfl) ?_
  refine OW.val rfl rfl (by first | exact EX.eqlN (b := 0) rfl rfl | exact EX.eqlZ rfl rfl) ?_
  refine OW.nil ?_
  have x2 := hx1.trans hx2
  have hb2 := hb1.ext hx2
  refine KW.cut1 (fun (wr : World) => Ext w wr) (fun (wr : World) => [(1, str (s)), (2, .slice A l.length k)]) (fun (wr : World) => wr) ?_ ?_
  · have hcopy := 0
    rcases he : encodeR x.kind x.gen x.index x.data with ⟨t, e⟩
    · refine KW.condD rfl (fun a1 => ?_) (fun a1 => ?_)
      · obtain rfl : e = 0 := by omega
        have hdc := decode_s t w2
        rw [dec_enc hk he] at hdc
        refine KW.seq (KW.region ?_)
        refine OW.val rfl rfl (EX.move rfl) ?_
        refine OW.call rfl rfl rfl (hdc) ?_
        rintro _ w3 ⟨rfl, hx3⟩
        refine OW.val rfl rfl (EX.move rfl) ?_
        refine OW.val rfl rfl (EX.extract rfl rfl) ?_
        refine OW.val rfl rfl (EX.extract rfl rfl) ?_
        refine OW.allocB (l := [.int .u8 0, .int .i64 0, .int .i64 0, str []]) rfl rfl ti31 rfl ?_
        rintro yb w4 hge4 hy4 hx4
        refine OW.storeS rfl ti31 rfl rfl rfl (by first | rfl | (simp only [List.all_cons, List.all_nil, Bool.and_true, Bool.true_and, Bool.and_eq_true, Value.oneCell']; repeat (first | assumption | exact Own.one (by assumption) | constructor))) (hy4) (Nat.le_refl _) ?_
        rintro w5 hy5 hm5
        refine OW.val rfl rfl (EX.assign rfl) ?_
        refine OW.nil ?_
        refine KW.seq ?_
        have x4 := (x2.trans hx3).trans hx4
        have x5 : Ext w w5 := below_mo x4 hm5 x4.size (fun k hk => by simp at hk; have := (x2.trans hx3).size; omega)
        have hb5 := ((hb2.ext hx3).ext hx4).mo hm5 (by simp; exact fun z => by have h1 := (hb2.ext hx3).lt; omega)
        refine KW.region ?_
        refine OW.val rfl rfl (EX.move rfl) ?_
        refine OW.val rfl rfl (by first | exact EX.neqN (b := 0) rfl rfl | exact EX.neqZ rfl rfl) ?_
        refine OW.val rfl rfl (EX.move rfl) ?_
        refine OW.as 43 (.bool false) rfl (congrArg Value.bool (decide_eq_false (fun z => z rfl))) ?_
        refine OW.val rfl rfl (EX.loadBk Try.underlying31 rfl ti31 rfl (hy5) (rfl)) ?_
        refine OW.val rfl rfl (EX.loadBk Try.underlying31 rfl ti31 rfl (hb5) (rfl)) ?_
        refine OW.val rfl rfl (EX.neqG Try.underlying31 (by kernel_rfl) (by kernel_rfl) rfl rfl (.cons (by decide) Try.underlying5 rfl rfl rfl (eq_int Try.underlying5) (.cons (by decide) Try.underlying3 rfl rfl rfl (eq_int Try.underlying3) (.cons (by decide) Try.underlying3 rfl rfl rfl (eq_int Try.underlying3) (.cons (by decide) Try.underlying9 rfl rfl rfl (eq_str Try.underlying9) .nil)))) rfl) ?_
        refine OW.val rfl rfl (EX.pickF rfl rfl) ?_
        refine OW.nil ?_
        refine KW.as 47 (.bool false) rfl (by simp) ?_
        refine KW.condF rfl (KW.skip ?_)
        refine KW.meet1 (w5) ⟨rfl, rfl, trivial⟩ rfl ?_
        exact x5
      · refine KW.skip ?_
        refine KW.meet1 (w2) ⟨rfl, rfl, trivial⟩ rfl ?_
        exact x2
  · rintro wr xr
    refine KW.seq (KW.region ?_)
    refine OW.val rfl rfl (EX.move rfl) ?_
    refine OW.call rfl rfl rfl (decode_s s wr) ?_
    rintro _ w3 ⟨rfl, hx3⟩
    refine OW.val rfl rfl (EX.move rfl) ?_
    refine OW.val rfl rfl (EX.extract rfl rfl) ?_
    refine OW.val rfl rfl (EX.extract rfl rfl) ?_
    have x3 := xr.trans hx3
    refine OW.allocB (l := [.int .u8 0, .int .i64 0, .int .i64 0, str []]) rfl rfl ti31 rfl ?_
    rintro yb w4 hge4 hy4 hx4
    refine OW.storeS rfl ti31 rfl rfl rfl (by first | rfl | (simp only [List.all_cons, List.all_nil, Bool.and_true, Bool.true_and, Bool.and_eq_true, Value.oneCell']; repeat (first | assumption | exact Own.one (by assumption) | constructor))) (hy4) (Nat.le_refl _) ?_
    rintro w5 hy5 hm5
    refine OW.val rfl rfl (EX.assign rfl) ?_
    refine OW.nil ?_
    refine KW.seq (KW.seq (KW.region ?_))
    refine OW.val rfl rfl (EX.move rfl) ?_
    refine OW.val rfl rfl (by first | exact EX.eqlN (b := 0) rfl rfl | exact EX.eqlZ rfl rfl) ?_
    refine OW.nil ?_
    have x4 := x3.trans hx4
    have x5 : Ext w w5 := below_mo x4 hm5 x4.size (fun k hk => by simp at hk; have := x3.size; omega)
    refine KW.cut1 (fun (wr : World) => Ext w wr) (fun (wr : World) => [(2, .slice A l.length k)]) (fun (wr : World) => wr) ?_ ?_
    · have hcopy := 0
      rcases he : decodeR s with ⟨y, e⟩
      · rw [he] at hy5
        replace hy5 : Bk w5 yb 31 y.cells := hy5
        refine KW.condD rfl (fun a1 => ?_) (fun a1 => ?_)
        · obtain rfl : e = 0 := by omega
          obtain ⟨d1, d2, d3⟩ := dec_enc2 he
          have henc := encode_s y.kind d2 y.gen y.index y.data (by omega) w5
          rw [d1] at henc
          refine KW.seq (KW.region ?_)
          refine OW.val rfl rfl (EX.fieldAddr (off := 0) Try.underlying31 rfl rfl ti5 rfl rfl) ?_
          refine OW.val rfl rfl (EX.load Try.underlying5 rfl rfl (hy5.cell_of rfl)) ?_
          refine OW.val rfl rfl (EX.fieldAddr (off := 1) Try.underlying31 rfl rfl ti3 rfl rfl) ?_
          refine OW.val rfl rfl (EX.load Try.underlying3 rfl rfl (hy5.cell_of rfl)) ?_
          refine OW.val rfl rfl (EX.fieldAddr (off := 2) Try.underlying31 rfl rfl ti3 rfl rfl) ?_
          refine OW.val rfl rfl (EX.load Try.underlying3 rfl rfl (hy5.cell_of rfl)) ?_
          refine OW.val rfl rfl (EX.fieldAddr (off := 3) Try.underlying31 rfl rfl ti9 rfl rfl) ?_
          refine OW.val rfl rfl (EX.load Try.underlying9 rfl rfl (hy5.cell_of rfl)) ?_
          refine OW.call rfl rfl rfl (henc) ?_
          rintro _ w6 ⟨rfl, hx6⟩
          refine OW.val rfl rfl (EX.move rfl) ?_
          refine OW.val rfl rfl (EX.extract rfl rfl) ?_
          refine OW.val rfl rfl (EX.extract rfl rfl) ?_
          refine OW.val rfl rfl (EX.assign rfl) ?_
          refine OW.val rfl rfl (EX.assign rfl) ?_
          refine OW.nil ?_
          refine KW.seq ?_
          refine KW.region ?_
          refine OW.val rfl rfl (EX.move rfl) ?_
          refine OW.val rfl rfl (by first | exact EX.neqN (b := 0) rfl rfl | exact EX.neqZ rfl rfl) ?_
          refine OW.val rfl rfl (EX.move rfl) ?_
          refine OW.as 69 (.bool false) rfl (congrArg Value.bool (decide_eq_false (fun z => z rfl))) ?_
          refine OW.val rfl rfl (EX.move rfl) ?_
          refine OW.val rfl rfl (EX.move rfl) ?_
          refine OW.val rfl rfl (EX.neqS rfl rfl) ?_
          refine OW.val rfl rfl (EX.pickF rfl rfl) ?_
          refine OW.nil ?_
          refine KW.as 73 (.bool false) rfl (congrArg Value.bool (decide_eq_false (fun z => z rfl))) ?_
          refine KW.condF rfl (KW.skip ?_)
          refine KW.meet1 (w6) ⟨rfl, trivial⟩ rfl ?_
          exact x5.trans hx6
        · refine KW.skip ?_
          refine KW.meet1 (w5) ⟨rfl, trivial⟩ rfl ?_
          exact x5
    · rintro wr xr
      refine KW.seq (KW.region ?_)
      refine OW.val rfl rfl (EX.assign rfl) ?_
      refine OW.nil ?_
      refine KW.seq (KW.region ?_)
      refine OW.val rfl rfl (EX.assign rfl) ?_
      refine OW.nil ?_
      refine KW.seq (KW.seq (KW.region ?_))
      refine OW.val rfl rfl (EX.assign rfl) ?_
      refine OW.nil ?_
      refine KW.block ?_
      refine KW.loop4 (fun (i : Nat) (q : (List UInt8)) (v : Value) (w6 : World) => i ≤ l.length ∧ i ≤ 100 ∧ q = allT (mays (l.take i)) ∧ Own w6 w.heap.size 40 5 v (mays (l.take i)).length (memsV (mays (l.take i))) ∧ Ext w w6) (fun (i : Nat) (q : (List UInt8)) (v : Value) (w6 : World) => [(2, .slice A l.length k), (15, str (q)), (16, v), (17, .int .i64 ((i : Nat) : Int))]) (fun (i : Nat) (q : (List UInt8)) (v : Value) (w6 : World) => w6) (fun (i : Nat) (q : (List UInt8)) (v : Value) (w6 : World) => l.length - i) (0) ([]) (.slice none 0 0) (wr) ⟨rfl, rfl, rfl, rfl, trivial⟩ rfl ?_ ?_
      · exact ⟨by omega, by omega, rfl, Own.nil _ _ _ _, xr⟩
      · rintro i q v w6 ⟨hi, hi2, hq, hown, x6⟩
        have hml : (mays (l.take i)).length ≤ i := Nat.le_trans (List.length_filter_le _ _) (by rw [List.length_take]; omega)
        have hql : q.length ≤ i * 131 := by
          rw [hq]
          refine Nat.le_trans (allT_len _ (mays_may _)) (Nat.mul_le_mul_right _ hml)
        refine KW.seq (KW.seq ?_)
        refine KW.region ?_
        refine OW.val rfl rfl (EX.move rfl) ?_
        refine OW.val rfl rfl (EX.move rfl) ?_
        refine OW.val rfl rfl (EX.lenA Try.underlying48 rfl) ?_
        refine OW.val rfl rfl (by first | exact EX.lssN rfl rfl | exact EX.lssZ rfl rfl) ?_
        refine OW.val rfl rfl (EX.move rfl) ?_
        refine OW.splitD 78 rfl (fun b1 => ?_) (fun b1 => ?_)
        · refine OW.val rfl rfl (EX.move rfl) ?_
          refine OW.val rfl rfl (by first | exact EX.lssN (b := 100) rfl rfl | exact EX.lssZ rfl rfl) ?_
          refine OW.val rfl rfl (EX.pickT rfl rfl) ?_
          refine OW.nil ?_
          refine KW.condD rfl (fun b2 => ?_) (fun b2 => ?_)
          · obtain ⟨ba, o, rfl, _, hcell⟩ := mems_cell (hsl.ext x6) b1
            have hsn := mays_snoc l b1
            have hmo := hl _ (List.getElem_mem b1)
            refine KW.skip (KW.seq (KW.block (KW.seq (KW.region ?_))))
            refine OW.val rfl rfl (EX.move rfl) ?_
            refine OW.val rfl rfl (EX.move rfl) ?_
            refine OW.val rfl rfl (EX.indexAddrS Try.underlying48 ti40 rfl rfl (by omega)) ?_
            refine OW.val rfl rfl (EX.loadA (l := (l[i]).cells) Try.underlying40 rfl ti40 rfl rfl hcell) ?_
            refine OW.call rfl rfl rfl (member_s (l[i]) hmo w6) ?_
            rintro _ w7 ⟨rfl, hx7⟩
            refine OW.val rfl rfl (EX.move rfl) ?_
            refine OW.val rfl rfl (EX.extract rfl rfl) ?_
            refine OW.val rfl rfl (EX.extract rfl rfl) ?_
            refine OW.val rfl rfl (EX.assign rfl) ?_
            refine OW.val rfl rfl (EX.assign rfl) ?_
            refine OW.nil ?_
            refine KW.seq (KW.region ?_)
            refine OW.val rfl rfl (EX.move rfl) ?_
            refine OW.val rfl rfl (by first | exact EX.eqlN (b := 0) rfl rfl | exact EX.eqlZ rfl rfl) ?_
            refine OW.nil ?_
            have x7 := x6.trans hx7
            have hown7 := hown.ext hx7
            have hcell7 : ∀ j u, (l[i]).cells[j]? = some u → w7.cell? ⟨ba, o + i * 5 + j, none⟩ = some u := fun j u hu => by
              obtain ⟨b', o', e', _, hc'⟩ := mems_cell (hsl.ext x7) b1
              cases e'
              exact hc' j u hu
            have hcopy := 0
            by_cases hmay : mayM l[i]
            · rw [memberM_some hmay]
              rw [if_pos hmay] at hsn
              have hpl := (may_path hmay).1
              have hmtl := memberT_length l[i]
              refine KW.condD rfl (fun c1 => ?_) (fun c1 => ?_)
              · refine KW.seq (KW.region ?_)
                refine OW.val rfl rfl (EX.move rfl) ?_
                refine OW.val rfl rfl (EX.move rfl) ?_
                refine OW.val rfl rfl (EX.addS rfl rfl (by first | omega | (simp only [List.length_append, List.length_cons, List.length_nil, List.length_take, List.length_drop, List.length_replicate]; omega))) ?_
                refine OW.val rfl rfl (EX.assign rfl) ?_
                refine OW.nil ?_
                refine KW.region ?_
                refine OW.val rfl rfl (EX.move rfl) ?_
                refine OW.val rfl rfl (EX.move rfl) ?_
                refine OW.val rfl rfl (EX.move rfl) ?_
                refine OW.val rfl rfl (EX.indexAddrS Try.underlying48 ti40 rfl rfl (by omega)) ?_
                refine OW.val rfl rfl (EX.loadA (l := (l[i]).cells) Try.underlying40 rfl ti40 rfl rfl hcell7) ?_
                refine OW.pushS rfl rfl (fun _ => rfl) rfl Try.underlying48 ti40 rfl (by decide) (by decide) rfl rfl (fun _ => rfl) (by first | rfl | assumption | (simp only [List.all_cons, List.all_nil, Bool.and_true, Bool.true_and, Bool.and_eq_true, Value.oneCell']; repeat (first | assumption | constructor))) (x7) (hown7) (by simp only [maxLen]; omega) (by omega) ?_
                rintro _ v2 w8 hown8 x8 hg8
                refine OW.val rfl rfl (EX.assign rfl) ?_
                refine OW.nil ?_
                refine KW.leave (KW.region ?_)
                refine OW.val rfl rfl (EX.move rfl) ?_
                refine OW.val rfl rfl (by first | exact EX.addN (b := 1) (m := 9223372036854775807) rfl rfl rfl (by omega) | exact EX.addZ (m := 9223372036854775807) rfl rfl rfl rfl (by omega)) ?_
                refine OW.val rfl rfl (EX.assign rfl) ?_
                refine OW.nil ?_
                refine KW.back4 (i + 1) (q ++ memberT l[i]) (v2) (w8) ⟨rfl, rfl, rfl, rfl, trivial⟩ rfl ?_ (by omega)
                exact ⟨by omega, by omega, by rw [hsn, allT_snoc, hq], by rw [hsn, List.length_append, memsV_snoc]; exact hown8, x8⟩
              · exact absurd rfl c1
            · rw [memberM_none hmay]
              rw [if_neg hmay] at hsn
              refine KW.condD rfl (fun c1 => ?_) (fun c1 => ?_)
              · omega
              · refine KW.skip (KW.leave (KW.region ?_))
                refine OW.val rfl rfl (EX.move rfl) ?_
                refine OW.val rfl rfl (by first | exact EX.addN (b := 1) (m := 9223372036854775807) rfl rfl rfl (by omega) | exact EX.addZ (m := 9223372036854775807) rfl rfl rfl rfl (by omega)) ?_
                refine OW.val rfl rfl (EX.assign rfl) ?_
                refine OW.nil ?_
                refine KW.back4 (i + 1) (q) (v) (w7) ⟨rfl, rfl, rfl, rfl, trivial⟩ rfl ?_ (by omega)
                exact ⟨by omega, by omega, by rw [hsn]; exact hq, by rw [hsn]; exact hown7, x7⟩
          · have hback : memL (q.length + 1) q [] = (mays (l.take i), 0) := by
              rw [hq]
              exact memL_back _ _ [] (fun m hm => ⟨mays_may _ m hm, (hl m (List.mem_of_mem_take (List.mem_filter.1 hm).1)).sum⟩) (by omega)
            have m1 := members_s q (by omega) w6
            rw [hback] at m1
            refine KW.exit rfl (KW.seq (KW.region ?_))
            refine OW.val rfl rfl (EX.move rfl) ?_
            refine OW.call rfl rfl rfl (m1) ?_
            rintro _ w7 ⟨v7, rfl, hown7, hx7⟩
            refine OW.val rfl rfl (EX.move rfl) ?_
            refine OW.val rfl rfl (EX.extract rfl rfl) ?_
            refine OW.val rfl rfl (EX.extract rfl rfl) ?_
            refine OW.val rfl rfl (EX.assign rfl) ?_
            refine OW.val rfl rfl (EX.assign rfl) ?_
            refine OW.nil ?_
            refine KW.seq ?_
            obtain ⟨A1, k1, rfl, _, hs1⟩ := hown7.slice
            obtain ⟨A2, k2, rfl, _, hs2⟩ := (hown.ext hx7).slice
            refine KW.region ?_
            refine OW.val rfl rfl (EX.move rfl) ?_
            refine OW.val rfl rfl (by first | exact EX.eqlN (b := 0) rfl rfl | exact EX.eqlZ rfl rfl) ?_
            refine OW.val rfl rfl (EX.move rfl) ?_
            refine OW.as 111 (.bool true) rfl (congrArg Value.bool (decide_eq_true (rfl))) ?_
            refine OW.val rfl rfl (EX.move rfl) ?_
            refine OW.val rfl rfl (EX.move rfl) ?_
            refine OW.call rfl rfl rfl (same_s (mays (l.take i)) (mays (l.take i)) A1 A2 k1 k2 w7 _ _ hs1 hs2 (by omega)) ?_
            rintro _ w8 ⟨rfl, hx8⟩
            refine OW.val rfl rfl (EX.pickT rfl rfl) ?_
            refine OW.val rfl rfl (EX.move rfl) ?_
            refine OW.as 116 (.bool true) rfl (congrArg Value.bool (decide_eq_true (rfl))) ?_
            refine OW.call rfl rfl rfl (awake_s w8) ?_
            rintro _ w9 ⟨rfl, hx9⟩
            refine OW.val rfl rfl (EX.pickT rfl rfl) ?_
            refine OW.val rfl rfl (EX.assign rfl) ?_
            refine OW.nil ?_
            refine KW.ret (ret1 rfl rfl ?_)
            exact ⟨rfl, ((x6.trans hx7).trans hx8).trans hx9⟩
        · have hback : memL (q.length + 1) q [] = (mays (l.take i), 0) := by
            rw [hq]
            exact memL_back _ _ [] (fun m hm => ⟨mays_may _ m hm, (hl m (List.mem_of_mem_take (List.mem_filter.1 hm).1)).sum⟩) (by omega)
          have m1 := members_s q (by omega) w6
          rw [hback] at m1
          refine OW.pass rfl rfl ?_
          refine OW.pass rfl rfl ?_
          refine OW.val rfl rfl (EX.pickF rfl rfl) ?_
          refine OW.nil ?_
          refine KW.condF rfl (KW.exit rfl (KW.seq (KW.region ?_)))
          refine OW.val rfl rfl (EX.move rfl) ?_
          refine OW.call rfl rfl rfl (m1) ?_
          rintro _ w7 ⟨v7, rfl, hown7, hx7⟩
          refine OW.val rfl rfl (EX.move rfl) ?_
          refine OW.val rfl rfl (EX.extract rfl rfl) ?_
          refine OW.val rfl rfl (EX.extract rfl rfl) ?_
          refine OW.val rfl rfl (EX.assign rfl) ?_
          refine OW.val rfl rfl (EX.assign rfl) ?_
          refine OW.nil ?_
          refine KW.seq ?_
          obtain ⟨A1, k1, rfl, _, hs1⟩ := hown7.slice
          obtain ⟨A2, k2, rfl, _, hs2⟩ := (hown.ext hx7).slice
          refine KW.region ?_
          refine OW.val rfl rfl (EX.move rfl) ?_
          refine OW.val rfl rfl (by first | exact EX.eqlN (b := 0) rfl rfl | exact EX.eqlZ rfl rfl) ?_
          refine OW.val rfl rfl (EX.move rfl) ?_
          refine OW.as 111 (.bool true) rfl (congrArg Value.bool (decide_eq_true (rfl))) ?_
          refine OW.val rfl rfl (EX.move rfl) ?_
          refine OW.val rfl rfl (EX.move rfl) ?_
          refine OW.call rfl rfl rfl (same_s (mays (l.take i)) (mays (l.take i)) A1 A2 k1 k2 w7 _ _ hs1 hs2 (by omega)) ?_
          rintro _ w8 ⟨rfl, hx8⟩
          refine OW.val rfl rfl (EX.pickT rfl rfl) ?_
          refine OW.val rfl rfl (EX.move rfl) ?_
          refine OW.as 116 (.bool true) rfl (congrArg Value.bool (decide_eq_true (rfl))) ?_
          refine OW.call rfl rfl rfl (awake_s w8) ?_
          rintro _ w9 ⟨rfl, hx9⟩
          refine OW.val rfl rfl (EX.pickT rfl rfl) ?_
          refine OW.val rfl rfl (EX.assign rfl) ?_
          refine OW.nil ?_
          refine KW.ret (ret1 rfl rfl ?_)
          exact ⟨rfl, ((x6.trans hx7).trans hx8).trans hx9⟩
section
variable {H : Type} {enc : TypeId × Value → H} {W : World} {base : Nat} {v : Value} {d : DataW H} {p : List MemPlace} {r : Reach} {b0 : Nat}
instance : Inhabited M := ⟨⟨[], 0, 0, 0, 0⟩⟩
theorem bulk_mem : ∀ {es : List (DataW H)} {x : DataW H}, x ∈ es → Rows.uptoBulk x ≤ Rows.uptoBulkAll es
  | y :: es, x, h => by
    simp only [Rows.uptoBulkAll]
    rcases List.mem_cons.1 h with rfl | h
    · omega
    · have := bulk_mem h; omega
set_option maxRecDepth 20000 in
theorem openUs_Member (hval : Value.okWide Try.prog W r b0 48 v) (hd : DataW.Trod enc Try.prog W base (fun _ => true) true 48 v d p)
    {ts : List TypeId} {ds : List (DataW H)} (hsz : (DataW.weightsEach Try.prog ts ds).all (· ≤ reachBytes) = true) {j : Nat} (hj : ts[j]? = some 48) (hdj : ds[j]? = some d) (hb : Rows.uptoBulk d ≤ 1048576) :
    ∃ (l : List M) (A : Option Addr) (cap : Nat), v = .slice A l.length cap ∧ (∀ m ∈ l, m.Ok) ∧ Sl W W.heap.size A (memsV l) := by
  obtain ⟨l, A, cap, h1, h2, _, _, _, h3⟩ := open_slG M.cells M.Ok (c := 5) (fun _ => rfl) Try.underlying48 (by kernel_rfl) (fun n cs x hx _ hm => mem_stepU n cs x hx (by
    obtain ⟨es, sp, rfl, hm⟩ := hm
    have h1 := bulk_mem hm
    simp only [Rows.uptoBulk] at hb
    omega)) hval hd hsz hj hdj
  exact ⟨l, A, cap, h1, h2, h3⟩
end
end Go.Proofs.Ytfjaiokhpbddlaa
