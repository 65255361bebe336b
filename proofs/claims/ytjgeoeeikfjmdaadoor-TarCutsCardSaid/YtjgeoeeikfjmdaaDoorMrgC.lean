/-
  What the statements rest on, part 3 of 5: many small texts, one behind the other.
-/
import Derived.Test.YtjgeoeeikfjmdaaDoorMrgB
import Derived.Scope
import Derived.RangeFuncFrom
import Derived.RangeFuncLeaves
import Derived.RangeFuncCalls
import Derived.RangeFuncBound
/- ustar: fields are made, and joined. -/
namespace Go.Proofs.YtjgeoeeikfjmdaaDoor
set_option linter.unnecessarySimpa false
open Go.RowKit Fld Ust
set_option linter.unusedVariables false
set_option linter.unusedSimpArgs false

abbrev Fd := List UInt8 × Nat
def fdV (f : Fd) : List Value := [str f.1, .int .i64 ((f.2 : Nat) : Int)]
def fieldT (s : List UInt8) (width most : Int) : Fd := ((text s width).1, if most < (s.length : Int) then 150 else (text s width).2)
theorem utext_s (s : List UInt8) (hs : s.length ≤ 140737488355328) (n : Int) (h0 : -9223372036854775808 ≤ n) (h1 : n ≤ 9223372036854775807) (m : Int) (w : World) :
    Ret Tryd.prog 67 [str s, .int .i64 n, .int .i64 m] w fun v w' => v = .agg (fdV (fieldT s n m)).toArray ∧ Ext w w' := by
  refine Ret.enter Tryd.func67 rfl Tryd.ntmps67 (by kernel_rfl) rfl ?_
  refine KW.seq (KW.region ?_)
  refine OW.allocB (l := [str [], .int .i64 0]) rfl rfl ti116 rfl ?_
  rintro fb w1 hge1 hb1 hx1
  refine OW.nil ?_
  refine KW.seq (KW.region ?_)
  refine OW.val rfl rfl (EX.move rfl) ?_
  refine OW.val rfl rfl (EX.move rfl) ?_
  refine OW.call rfl rfl rfl (text_s s hs n h0 h1 w1) ?_
  rintro _ w2 ⟨rfl, hx2⟩
  refine OW.val rfl rfl (EX.move rfl) ?_
  refine OW.val rfl rfl (EX.extract rfl rfl) ?_
  refine OW.val rfl rfl (EX.extract rfl rfl) ?_
  refine OW.val rfl rfl (EX.assign rfl) ?_
  refine OW.val rfl rfl (EX.assign rfl) ?_
  refine OW.nil ?_
  refine KW.seq (KW.seq (KW.region ?_))
  refine OW.val rfl rfl (EX.move rfl) ?_
  refine OW.val rfl rfl (EX.lenS Tryd.underlying9 rfl) ?_
  refine OW.val rfl rfl (EX.move rfl) ?_
  refine OW.val rfl rfl (by first | exact EX.gtrN rfl rfl | exact EX.gtrZ rfl rfl) ?_
  refine OW.nil ?_
  have hb2 := hb1.ext hx2
  have x2 := hx1.trans hx2
  refine KW.condD rfl (fun hm => ?_) (fun hm => ?_)
  · have e : fieldT s n m = ((text s n).1, 150) := by unfold fieldT; rw [if_pos hm]
    refine KW.region ?_
    refine OW.val rfl rfl (EX.assign rfl) ?_
    refine OW.nil ?_
    refine KW.seq (KW.region ?_)
    refine OW.val rfl rfl (EX.move rfl) ?_
    refine OW.val rfl rfl (EX.move rfl) ?_
    refine OW.val rfl rfl (EX.buildS (pl := [(0, 1), (1, 1)]) (ks := [0, 1]) (is := [0, 1]) (zs := [str [], .int .i64 0]) Tryd.underlying116 ti116 (by kernel_rfl) rfl rfl rfl (by first | rfl | (simp only [List.all_cons, List.all_nil, Bool.and_true, Bool.true_and, Bool.and_eq_true, Value.oneCell']; repeat (first | assumption | exact Own.one (by assumption) | constructor))) (by simp only [setAll, List.set_cons_zero, List.set_cons_succ]; rfl)) ?_
    refine OW.storeS rfl ti116 rfl rfl rfl (by first | rfl | (simp only [List.all_cons, List.all_nil, Bool.and_true, Bool.true_and, Bool.and_eq_true, Value.oneCell']; repeat (first | assumption | exact Own.one (by assumption) | constructor))) (hb2) (Nat.le_refl _) ?_
    rintro w3 hb3 hm3
    refine OW.nil ?_
    refine KW.ret (retC1 rfl Tryd.underlying116 rfl ti116 rfl (hb3) rfl ?_)
    rw [e]
    exact ⟨rfl, below_mo x2 hm3 x2.size (fun k hk => by simp at hk; omega)⟩
  · have e : fieldT s n m = ((text s n).1, (text s n).2) := by unfold fieldT; rw [if_neg hm]
    refine KW.skip (KW.seq (KW.region ?_))
    refine OW.val rfl rfl (EX.move rfl) ?_
    refine OW.val rfl rfl (EX.move rfl) ?_
    refine OW.val rfl rfl (EX.buildS (pl := [(0, 1), (1, 1)]) (ks := [0, 1]) (is := [0, 1]) (zs := [str [], .int .i64 0]) Tryd.underlying116 ti116 (by kernel_rfl) rfl rfl rfl (by first | rfl | (simp only [List.all_cons, List.all_nil, Bool.and_true, Bool.true_and, Bool.and_eq_true, Value.oneCell']; repeat (first | assumption | exact Own.one (by assumption) | constructor))) (by simp only [setAll, List.set_cons_zero, List.set_cons_succ]; rfl)) ?_
    refine OW.storeS rfl ti116 rfl rfl rfl (by first | rfl | (simp only [List.all_cons, List.all_nil, Bool.and_true, Bool.true_and, Bool.and_eq_true, Value.oneCell']; repeat (first | assumption | exact Own.one (by assumption) | constructor))) (hb2) (Nat.le_refl _) ?_
    rintro w3 hb3 hm3
    refine OW.nil ?_
    refine KW.ret (retC1 rfl Tryd.underlying116 rfl ti116 rfl (hb3) rfl ?_)
    rw [e]
    exact ⟨rfl, below_mo x2 hm3 x2.size (fun k hk => by simp at hk; omega)⟩
theorem unumber_s (n : Int) (h0 : -9223372036854775808 ≤ n) (h1 : n ≤ 9223372036854775807) (m : Int) (g0 : -9223372036854775808 ≤ m) (g1 : m ≤ 9223372036854775807) (w : World) :
    Ret Tryd.prog 68 [.int .i64 n, .int .i64 m] w fun v w' => v = .agg (fdV (octal n m)).toArray ∧ Ext w w' := by
  refine Ret.enter Tryd.func68 rfl Tryd.ntmps68 (by kernel_rfl) rfl ?_
  refine KW.seq (KW.region ?_)
  refine OW.allocB (l := [str [], .int .i64 0]) rfl rfl ti116 rfl ?_
  rintro fb w1 hge1 hb1 hx1
  refine OW.nil ?_
  refine KW.seq (KW.region ?_)
  refine OW.val rfl rfl (EX.move rfl) ?_
  refine OW.val rfl rfl (EX.move rfl) ?_
  refine OW.call rfl rfl rfl (octal_s n h0 h1 m g0 g1 w1) ?_
  rintro _ w2 ⟨rfl, hx2⟩
  refine OW.val rfl rfl (EX.move rfl) ?_
  refine OW.val rfl rfl (EX.extract rfl rfl) ?_
  refine OW.val rfl rfl (EX.extract rfl rfl) ?_
  refine OW.val rfl rfl (EX.assign rfl) ?_
  refine OW.val rfl rfl (EX.assign rfl) ?_
  refine OW.nil ?_
  refine KW.seq (KW.region ?_)
  refine OW.val rfl rfl (EX.move rfl) ?_
  refine OW.val rfl rfl (EX.move rfl) ?_
  refine OW.val rfl rfl (EX.buildS (pl := [(0, 1), (1, 1)]) (ks := [0, 1]) (is := [0, 1]) (zs := [str [], .int .i64 0]) Tryd.underlying116 ti116 (by kernel_rfl) rfl rfl rfl (by first | rfl | (simp only [List.all_cons, List.all_nil, Bool.and_true, Bool.true_and, Bool.and_eq_true, Value.oneCell']; repeat (first | assumption | exact Own.one (by assumption) | constructor))) (by simp only [setAll, List.set_cons_zero, List.set_cons_succ]; rfl)) ?_
  have hb2 := hb1.ext hx2
  have x2 := hx1.trans hx2
  refine OW.storeS rfl ti116 rfl rfl rfl (by first | rfl | (simp only [List.all_cons, List.all_nil, Bool.and_true, Bool.true_and, Bool.and_eq_true, Value.oneCell']; repeat (first | assumption | exact Own.one (by assumption) | constructor))) (hb2) (Nat.le_refl _) ?_
  rintro w3 hb3 hm3
  refine OW.nil ?_
  refine KW.ret (retC1 rfl Tryd.underlying116 rfl ti116 rfl (hb3) rfl ?_)
  exact ⟨rfl, below_mo x2 hm3 x2.size (fun k hk => by simp at hk; omega)⟩
def joinF (l : List Fd) : List UInt8 × Bool := if ∀ f ∈ l, f.2 = 0 then (l.flatMap (·.1), true) else ([], false)
theorem joined_s (l : List Fd) (hne : ∀ f ∈ l, f.2 = 0 → f.1 ≠ []) (hlen : ∀ f ∈ l, f.1.length ≤ 1000) (hl : l.length ≤ 1000) (A : Option Addr) (k B : Nat) (w : World) (hs : Sl w B A (l.flatMap fdV)) :
    Ret Tryd.prog 66 [.slice A l.length k] w fun v w' => v = .tuple #[str (joinF l).1, .bool (joinF l).2] ∧ Ext w w' := by
  have htot : ∀ i, ((l.take i).flatMap (·.1)).length ≤ 1000 * i := by
    intro i
    induction i with
    | zero => simp
    | succ i ih =>
      rw [List.take_add_one]
      rcases hq : l[i]? with _ | f
      · simp; simp at ih; omega
      · have := hlen f (List.mem_of_getElem? hq)
        simp at ih ⊢
        omega
  refine Ret.enter Tryd.func66 rfl Tryd.ntmps66 (by kernel_rfl) rfl ?_
  refine KW.seq (KW.region ?_)
  refine OW.val rfl rfl (EX.assign rfl) ?_
  refine OW.val rfl rfl (EX.assign rfl) ?_
  refine OW.nil ?_
  refine KW.seq (KW.region ?_)
  refine OW.allocB (l := [.pointer none, .slice none 0 0]) rfl rfl ti71 rfl ?_
  rintro bb w1 hge1 hb1 hx1
  refine OW.nil ?_
  refine KW.seq (KW.seq (KW.region ?_))
  refine OW.val rfl rfl (EX.move rfl) ?_
  refine OW.val rfl rfl (EX.lenA Tryd.underlying122 rfl) ?_
  refine OW.val rfl rfl (EX.move rfl) ?_
  refine OW.nil ?_
  refine KW.block ?_
  refine KW.loop2 (fun (i : Nat) (wr : World) => i ≤ l.length ∧ (∀ j f, j < i → l[j]? = some f → f.2 = 0) ∧ Bd wr w.heap.size bb ((l.take i).flatMap (·.1)) ∧ Ext w wr) (fun (i : Nat) (wr : World) => [(4, .pointer (some ⟨bb, 0, none⟩)), (7, .slice A l.length k), (8, .int .i64 ((l.length : Nat) : Int)), (9, .int .i64 ((i : Nat) : Int))]) (fun (i : Nat) (wr : World) => wr) (fun (i : Nat) (wr : World) => l.length - i) (0) (w1) ⟨rfl, rfl, rfl, rfl, trivial⟩ rfl ?_ ?_
  · exact ⟨by omega, fun j f hj => by omega, Bd.new hge1 hb1, hx1⟩
  · rintro i wr ⟨hi, hz, hbd, hx⟩
    have hti := htot i
    refine KW.seq (KW.region ?_)
    refine OW.val rfl rfl (by first | exact EX.lssN rfl rfl | exact EX.lssZ rfl rfl) ?_
    refine OW.nil ?_
    refine KW.seq ?_
    refine KW.condD rfl (fun hlt => ?_) (fun hlt => ?_)
    · obtain ⟨b, o, rfl, _, hcell⟩ := (hs.ext hx).flat (c := 2) (fun _ => rfl) (by decide) hlt
      have hmem := List.getElem_mem hlt
      have hsn : l.take (i + 1) = l.take i ++ [l[i]] := (List.take_append_getElem hlt).symm
      have hgi : l[i]? = some l[i] := List.getElem?_eq_getElem hlt
      have hfl := hlen _ hmem
      have hfn := hne _ hmem
      generalize l[i] = f at hcell hsn hgi hfl hfn
      refine KW.skip (KW.seq (KW.block (KW.seq (KW.region ?_))))
      refine OW.val rfl rfl (EX.indexAddrS Tryd.underlying122 ti116 rfl rfl (by omega)) ?_
      refine OW.val rfl rfl (EX.loadA (l := fdV f) Tryd.underlying116 rfl ti116 rfl rfl hcell) ?_
      refine OW.allocB (l := [str [], .int .i64 0]) rfl rfl ti116 rfl ?_
      rintro fb w2 hge2 hf2 hx2
      refine OW.storeS rfl ti116 rfl rfl rfl (by first | rfl | (simp only [List.all_cons, List.all_nil, Bool.and_true, Bool.true_and, Bool.and_eq_true, Value.oneCell']; repeat (first | assumption | exact Own.one (by assumption) | constructor))) (hf2) (Nat.le_refl _) ?_
      rintro w3 hf3 hm3
      refine OW.nil ?_
      refine KW.seq (KW.seq (KW.region ?_))
      refine OW.val rfl rfl (EX.fieldAddr (off := 1) Tryd.underlying116 rfl rfl ti25 rfl rfl) ?_
      replace hf3 : Bk w3 fb 116 (fdV f) := hf3
      have xr3 : Ext wr w3 := below_mo hx2 hm3 hx2.size (fun k hk => by simp at hk; omega)
      have x3 := hx.trans xr3
      have hbd3 := hbd.ext xr3
      refine OW.val rfl rfl (EX.load Tryd.underlying25 rfl rfl (hf3.cell_of rfl)) ?_
      refine OW.val rfl rfl (by first | exact EX.neqN (b := 0) rfl rfl | exact EX.neqZ rfl rfl) ?_
      refine OW.nil ?_
      refine KW.condD rfl (fun hbad => ?_) (fun hbad => ?_)
      · refine KW.seq (KW.region ?_)
        refine OW.val rfl rfl (EX.assign rfl) ?_
        refine OW.val rfl rfl (EX.assign rfl) ?_
        refine OW.nil ?_
        refine KW.ret (ret2 rfl rfl rfl ?_)
        have e : joinF l = ([], false) := by
          unfold joinF
          rw [if_neg]
          intro h
          have := h f (List.mem_of_getElem? hgi)
          omega
        rw [e]
        exact ⟨rfl, x3⟩
      · have h0 : f.2 = 0 := by omega
        refine KW.skip (KW.region ?_)
        refine OW.val rfl rfl (EX.fieldAddr (off := 0) Tryd.underlying116 rfl rfl ti9 rfl rfl) ?_
        refine OW.val rfl rfl (EX.load Tryd.underlying9 rfl rfl (hf3.cell_of rfl)) ?_
        refine OW.call rfl rfl rfl (writeString_b w.heap.size bb _ f.1 w3 hbd3 (hfn h0) (by omega) x3.size) ?_
        rintro _ w4 ⟨⟨q4, rfl⟩, hbd4, b4⟩
        refine OW.nil ?_
        refine KW.leave (KW.region ?_)
        refine OW.val rfl rfl (by first | exact EX.addN (b := 1) (m := 9223372036854775807) rfl rfl rfl (by omega) | exact EX.addZ (m := 9223372036854775807) rfl rfl rfl rfl (by omega)) ?_
        refine OW.val rfl rfl (EX.move rfl) ?_
        refine OW.nil ?_
        refine KW.back2 (i + 1) (w4) ⟨rfl, rfl, rfl, rfl, trivial⟩ rfl ?_ (by omega)
        refine ⟨by omega, fun j g hj hg => ?_, ?_, Below.trans x3 b4⟩
        · by_cases e : j = i
          · subst e
            rw [hgi] at hg
            cases hg
            exact h0
          · exact hz j g (by omega) hg
        · rw [hsn, List.flatMap_append]
          simpa using hbd4
    · obtain rfl : i = l.length := by omega
      rw [List.take_length] at hbd hti
      refine KW.exit rfl (KW.seq (KW.region ?_))
      refine OW.call rfl rfl rfl (bstring_b w.heap.size bb _ wr hbd (by omega) hx.size) ?_
      rintro _ w5 ⟨rfl, b5⟩
      refine OW.val rfl rfl (EX.assign rfl) ?_
      refine OW.val rfl rfl (EX.assign rfl) ?_
      refine OW.nil ?_
      refine KW.ret (ret2 rfl rfl rfl ?_)
      have e : joinF l = (l.flatMap (·.1), true) := by
        unfold joinF
        rw [if_pos]
        intro f hf
        obtain ⟨j, hj, rfl⟩ := List.getElem_of_mem hf
        exact hz j _ hj (List.getElem?_eq_getElem hj)
      rw [e]
      exact ⟨rfl, Below.trans hx b5⟩
end Go.Proofs.YtjgeoeeikfjmdaaDoor
/- paths: Split, by the program and by the document. -/
namespace Go.Proofs.YtjgeoeeikfjmdaaDoor
set_option linter.unnecessarySimpa false
open Go.RowKit
set_option linter.unusedVariables false
set_option linter.unusedSimpArgs false
theorem psplit_s (p : List UInt8) (hp : p.length ≤ 9223372036854775807) (w : World) : Ret Tryd.prog 32 [str p] w fun v w' => ∃ r, v = .tuple #[str r.1, str r.2.1, .bool r.2.2] ∧ IsSplit p r ∧ Ext w w' := by
  refine Ret.enter Tryd.func32 rfl Tryd.ntmps32 (by kernel_rfl) rfl ?_
  refine KW.seq (KW.region ?_)
  refine OW.val rfl rfl (EX.assign rfl) ?_
  refine OW.val rfl rfl (EX.assign rfl) ?_
  refine OW.val rfl rfl (EX.assign rfl) ?_
  refine OW.nil ?_
  refine KW.seq (KW.seq (KW.region ?_))
  refine OW.val rfl rfl (EX.move rfl) ?_
  refine OW.val rfl rfl (EX.lenS Tryd.underlying9 rfl) ?_
  refine OW.val rfl rfl (by first | exact EX.leqN (b := 100) rfl rfl | exact EX.leqZ rfl rfl) ?_
  refine OW.nil ?_
  refine KW.condD rfl (fun h100 => ?_) (fun h100 => ?_)
  · refine KW.seq (KW.region ?_)
    refine OW.val rfl rfl (EX.move rfl) ?_
    refine OW.val rfl rfl (EX.assign rfl) ?_
    refine OW.val rfl rfl (EX.assign rfl) ?_
    refine OW.val rfl rfl (EX.assign rfl) ?_
    refine OW.nil ?_
    refine KW.ret (ret3 rfl rfl rfl rfl ?_)
    exact ⟨([], p, true), rfl, .inl ⟨by omega, rfl⟩, Ext.refl _⟩
  · refine KW.skip (KW.seq (KW.seq (KW.region ?_)))
    refine OW.val rfl rfl (EX.assign rfl) ?_
    refine OW.nil ?_
    refine KW.block ?_
    refine KW.loop1 (fun (i : Nat) => 1 ≤ i ∧ i ≤ p.length ∧ ∀ j, j < i → ¬ good p j) (fun (i : Nat) => [(0, str (p)), (5, .int .i64 ((i : Nat) : Int))]) (fun (i : Nat) => w) (fun (i : Nat) => p.length - i) (1) ⟨rfl, rfl, trivial⟩ rfl ?_ ?_
    · exact ⟨by omega, by omega, fun j hj hg => by have := hg.2.1; omega⟩
    · rintro i ⟨hi1, hi, hn⟩
      have stop : ¬ (i < p.length - 1 ∧ i ≤ 155) → ∀ j, ¬ good p j := fun h j hg => by
        rcases Nat.lt_or_ge j i with hj | hj
        · exact hn j hj hg
        · have := hg.2.2
          omega
      have step : ¬ good p i → ∀ j, j < i + 1 → ¬ good p j := fun h j hj => by
        rcases Nat.lt_or_ge j i with hj' | hj'
        · exact hn j hj'
        · obtain rfl : j = i := by omega
          exact h
      refine KW.seq (KW.seq ?_)
      refine KW.region ?_
      refine OW.val rfl rfl (EX.move rfl) ?_
      refine OW.val rfl rfl (EX.move rfl) ?_
      refine OW.val rfl rfl (EX.lenS Tryd.underlying9 rfl) ?_
      refine OW.val rfl rfl (by first | exact EX.subN (b := 1) (m := 9223372036854775807) rfl rfl rfl (by omega) | exact EX.subZ (m := 9223372036854775807) rfl rfl rfl rfl (by omega)) ?_
      refine OW.val rfl rfl (by first | exact EX.lssN rfl rfl | exact EX.lssZ rfl rfl) ?_
      refine OW.val rfl rfl (EX.move rfl) ?_
      refine OW.splitD 15 rfl (fun c1 => ?_) (fun c1 => ?_)
      · refine OW.val rfl rfl (EX.move rfl) ?_
        refine OW.val rfl rfl (by first | exact EX.leqN (b := 155) rfl rfl | exact EX.leqZ rfl rfl) ?_
        refine OW.val rfl rfl (EX.pickT rfl rfl) ?_
        refine OW.nil ?_
        refine KW.condD rfl (fun c2 => ?_) (fun c2 => ?_)
        · have hlt : i < p.length := by omega
          have hga := good_at hlt
          refine KW.skip (KW.seq (KW.block (KW.seq ?_)))
          refine KW.region ?_
          refine OW.val rfl rfl (EX.move rfl) ?_
          refine OW.val rfl rfl (EX.move rfl) ?_
          refine OW.val rfl rfl (EX.indexS Tryd.underlying9 rfl rfl (List.getElem?_eq_getElem (by omega))) ?_
          refine OW.val rfl rfl (by first | exact EX.eqlN (b := 47) rfl rfl | exact EX.eqlZ rfl rfl) ?_
          refine OW.val rfl rfl (EX.move rfl) ?_
          refine OW.splitD 25 rfl (fun d1 => ?_) (fun d1 => ?_)
          · refine OW.val rfl rfl (EX.move rfl) ?_
            refine OW.val rfl rfl (EX.lenS Tryd.underlying9 rfl) ?_
            refine OW.val rfl rfl (EX.move rfl) ?_
            refine OW.val rfl rfl (by first | exact EX.subN (m := 9223372036854775807) rfl rfl rfl (by omega) | exact EX.subZ (m := 9223372036854775807) rfl rfl rfl rfl (by omega)) ?_
            refine OW.val rfl rfl (by first | exact EX.subN (b := 1) (m := 9223372036854775807) rfl rfl rfl (by omega) | exact EX.subZ (m := 9223372036854775807) rfl rfl rfl rfl (by omega)) ?_
            refine OW.val rfl rfl (by first | exact EX.leqN (b := 100) rfl rfl | exact EX.leqZ rfl rfl) ?_
            refine OW.val rfl rfl (EX.pickT rfl rfl) ?_
            refine OW.nil ?_
            refine KW.condD rfl (fun d2 => ?_) (fun d2 => ?_)
            · have hg : good p i := hga.2 ⟨d1, by omega, by omega, by omega, by omega⟩
              refine KW.seq ?_
              refine KW.regionQ (by kernel_rfl) (by kernel_rfl) ?_
              refine QW.val rfl rfl (fun _ => EX.move rfl) ?_
              refine QW.val rfl rfl (fun _ => EX.move rfl) ?_
              refine QW.val rfl rfl (fun _ => EX.sliceFH Tryd.underlying9 rfl rfl (by omega)) ?_
              refine QW.val rfl rfl (fun _ => EX.move rfl) ?_
              refine QW.val rfl rfl (fun _ => EX.move rfl) ?_
              refine QW.val rfl rfl (fun _ => by first | exact EX.addN (b := 1) (m := 9223372036854775807) rfl rfl rfl (by omega) | exact EX.addZ (m := 9223372036854775807) rfl rfl rfl rfl (by omega)) ?_
              refine QW.val rfl rfl (fun _ => EX.sliceLE Tryd.underlying9 rfl rfl (by omega)) ?_
              refine QW.val rfl rfl (fun _ => EX.assign rfl) ?_
              refine QW.val rfl rfl (fun _ => EX.assign rfl) ?_
              refine QW.val rfl rfl (fun _ => EX.assign rfl) ?_
              refine QW.nil (fun nq => ?_)
              refine KW.ret (ret3 rfl rfl rfl rfl ?_)
              exact ⟨(p.take i, p.drop (i + 1), true), rfl, .inr (.inl ⟨by omega, i, hg, hn, rfl⟩), Ext.drewN _ _⟩
            · refine KW.skip (KW.leave (KW.region ?_))
              refine OW.val rfl rfl (EX.move rfl) ?_
              refine OW.val rfl rfl (by first | exact EX.addN (b := 1) (m := 9223372036854775807) rfl rfl rfl (by omega) | exact EX.addZ (m := 9223372036854775807) rfl rfl rfl rfl (by omega)) ?_
              refine OW.val rfl rfl (EX.assign rfl) ?_
              refine OW.nil ?_
              refine KW.back1 (i + 1) ⟨rfl, rfl, trivial⟩ rfl ?_ (by omega)
              exact ⟨by omega, by omega, step (fun h => by have := (hga.1 h).2; omega)⟩
          · refine OW.pass rfl rfl ?_
            refine OW.pass rfl rfl ?_
            refine OW.pass rfl rfl ?_
            refine OW.pass rfl rfl ?_
            refine OW.pass rfl rfl ?_
            refine OW.pass rfl rfl ?_
            refine OW.val rfl rfl (EX.pickF rfl rfl) ?_
            refine OW.nil ?_
            refine KW.condF rfl (KW.skip (KW.leave (KW.region ?_)))
            refine OW.val rfl rfl (EX.move rfl) ?_
            refine OW.val rfl rfl (by first | exact EX.addN (b := 1) (m := 9223372036854775807) rfl rfl rfl (by omega) | exact EX.addZ (m := 9223372036854775807) rfl rfl rfl rfl (by omega)) ?_
            refine OW.val rfl rfl (EX.assign rfl) ?_
            refine OW.nil ?_
            refine KW.back1 (i + 1) ⟨rfl, rfl, trivial⟩ rfl ?_ (by omega)
            exact ⟨by omega, by omega, step (fun h => d1 (hga.1 h).1)⟩
        · refine KW.exit rfl (KW.seq (KW.region ?_))
          refine OW.val rfl rfl (EX.assign rfl) ?_
          refine OW.val rfl rfl (EX.assign rfl) ?_
          refine OW.val rfl rfl (EX.assign rfl) ?_
          refine OW.nil ?_
          refine KW.ret (ret3 rfl rfl rfl rfl ?_)
          exact ⟨([], [], false), rfl, .inr (.inr ⟨by omega, stop (by omega), rfl⟩), Ext.refl _⟩
      · refine OW.pass rfl rfl ?_
        refine OW.pass rfl rfl ?_
        refine OW.val rfl rfl (EX.pickF rfl rfl) ?_
        refine OW.nil ?_
        refine KW.condF rfl (KW.exit rfl (KW.seq (KW.region ?_)))
        refine OW.val rfl rfl (EX.assign rfl) ?_
        refine OW.val rfl rfl (EX.assign rfl) ?_
        refine OW.val rfl rfl (EX.assign rfl) ?_
        refine OW.nil ?_
        refine KW.ret (ret3 rfl rfl rfl rfl ?_)
        exact ⟨([], [], false), rfl, .inr (.inr ⟨by omega, stop (by omega), rfl⟩), Ext.refl _⟩
end Go.Proofs.YtjgeoeeikfjmdaaDoor
/- ustar: headers are laid, by the program. -/
namespace Go.Proofs.YtjgeoeeikfjmdaaDoor
set_option linter.unnecessarySimpa false
open Go.RowKit Fld Ust
set_option linter.unusedVariables false
set_option linter.unusedSimpArgs false

def _root_.Go.Proofs.YtjgeoeeikfjmdaaDoor.Ust.Hd.cells (h : Hd) : List Value := [str h.path, .int .i64 h.size, .int .u8 (h.kind : Int), .int .i64 h.mode, .int .i64 h.time, str h.link, str h.n0, str h.n1, .int .i64 h.i0, .int .i64 h.i1]
def I64 (n : Int) : Prop := -9223372036854775808 ≤ n ∧ n ≤ 9223372036854775807
structure _root_.Go.Proofs.YtjgeoeeikfjmdaaDoor.Ust.Hd.Ok (h : Hd) : Prop where
  kind : h.kind ≤ 255
  path : h.path.length ≤ 140737488351232
  link : h.link.length ≤ 140737488351232
  n0 : h.n0.length ≤ 140737488351232
  n1 : h.n1.length ≤ 140737488351232
  size : I64 h.size
  mode : I64 h.mode
  time : I64 h.time
  i0 : I64 h.i0
  i1 : I64 h.i1
/-! ### In plain words -/
theorem fieldT_ok {s : List UInt8} {n m : Nat} (h : mayT s m) (hm : m ≤ n) (hn : n ≤ 512) : fieldT s (n : Int) (m : Int) = (lay s n, 0) := by
  have h1 := h.1
  unfold fieldT
  rw [if_neg (by omega), text_yes (by omega) (by rw [not_or, Classical.not_not]; exact ⟨by omega, cut_none h.2⟩)]
  simp [lay]
theorem fieldT_no {s : List UInt8} {n m : Nat} (h : ¬ mayT s m) (hn : n ≤ 512) : (fieldT s (n : Int) (m : Int)).2 ≠ 0 := by
  unfold fieldT
  simp only
  split
  · decide
  · rename_i h1
    rw [text_no (by omega) (.inr fun e => h ⟨by omega, (cut_eq_iff s).1 e⟩)]
    decide
theorem octal_may {n : Int} {k : Nat} (hk : 1 ≤ k) (hk2 : k ≤ 19) {m : Int} (h : mayN n m) (hm : m < ((8 ^ k : Nat) : Int)) : octal n ((k + 1 : Nat) : Int) = (oc n k, 0) := by
  obtain ⟨a, rfl⟩ := Int.eq_ofNat_of_zero_le h.1
  have := div_zero h hm
  rw [octal_yes hk hk2 (by simpa using this)]
  rfl
theorem octal_not {n : Int} {k : Nat} (hk : 1 ≤ k) (hk2 : k ≤ 19) {m : Int} (h : ¬ mayN n m) (hm : m + 1 = ((8 ^ k : Nat) : Int)) : (octal n ((k + 1 : Nat) : Int)).2 ≠ 0 := by
  rw [octal_no hk hk2]
  · decide
  · by_cases h0 : n < 0
    · exact .inl h0
    · refine .inr fun hz => h ⟨by omega, ?_⟩
      obtain ⟨a, rfl⟩ := Int.eq_ofNat_of_zero_le (show 0 ≤ n by omega)
      have h2 : (((a / 8 ^ k : Nat)) : Int) = 0 := by simpa using hz
      have h3 : a / 8 ^ k = 0 := by exact_mod_cast h2
      have h4 : a < 8 ^ k := by
        rcases Nat.div_eq_zero_iff.1 h3 with h | h
        · exact absurd h (Nat.pos_iff_ne_zero.1 (Nat.pow_pos (by decide)))
        · exact h
      omega
def L1 (h : Hd) (name : List UInt8) : List Fd := [fieldT name 100 100, octal h.mode 8, octal h.i0 8, octal h.i1 8, octal h.size 12, octal h.time 12, fieldT [] 8 8]
def L2 (h : Hd) (pre : List UInt8) : List Fd := [([UInt8.ofNat h.kind], 0), fieldT h.link 100 100, (magic, 0), fieldT h.n0 32 31, fieldT h.n1 32 31, octal 0 8, octal 0 8, fieldT pre 155 155, fieldT [] 12 12]
theorem fieldT_nil (n : Nat) (h : n ≤ 512) : fieldT [] (n : Int) (n : Int) = (nul n, 0) := by
  rw [fieldT_ok (s := []) (n := n) (m := n) ⟨by simp, by simp⟩ (Nat.le_refl _) h]
  simp [lay]
theorem joinF_yes {h : Hd} (hm : May h) {pre name : List UInt8} (hn : name.length ≤ 100) (hp : pre.length ≤ 155) (zn : (0 : UInt8) ∉ name) (zp : (0 : UInt8) ∉ pre) :
    joinF (L1 h name) = ((headL h name).flatten ++ nul 8, true) ∧ joinF (L2 h pre) = ((tailL h pre).flatten, true) := by
  have a1 := fieldT_ok (s := name) (n := 100) (m := 100) ⟨hn, zn⟩ (by decide) (by decide)
  have a2 := octal_may (k := 7) (by decide) (by decide) hm.mode (by decide)
  have a3 := octal_may (k := 7) (by decide) (by decide) hm.i0 (by decide)
  have a4 := octal_may (k := 7) (by decide) (by decide) hm.i1 (by decide)
  have a5 := octal_may (k := 11) (by decide) (by decide) hm.size (by decide)
  have a6 := octal_may (k := 11) (by decide) (by decide) hm.time (by decide)
  have a7 := fieldT_nil 8 (by decide)
  have b1 := fieldT_ok (s := h.link) (n := 100) (m := 100) hm.link (by decide) (by decide)
  have b2 := fieldT_ok (s := h.n0) (n := 32) (m := 31) hm.n0 (by decide) (by decide)
  have b3 := fieldT_ok (s := h.n1) (n := 32) (m := 31) hm.n1 (by decide) (by decide)
  have b4 := octal_may (n := 0) (m := 0) (k := 7) (by decide) (by decide) ⟨by decide, by decide⟩ (by decide)
  have b5 := fieldT_ok (s := pre) (n := 155) (m := 155) ⟨hp, zp⟩ (by decide) (by decide)
  have b6 := fieldT_nil 12 (by decide)
  have e1 : L1 h name = [(lay name 100, 0), (oc h.mode 7, 0), (oc h.i0 7, 0), (oc h.i1 7, 0), (oc h.size 11, 0), (oc h.time 11, 0), (nul 8, 0)] := by
    rw [← a1, ← a2, ← a3, ← a4, ← a5, ← a6, ← a7]; rfl
  have e2 : L2 h pre = [([UInt8.ofNat h.kind], 0), (lay h.link 100, 0), (magic, 0), (lay h.n0 32, 0), (lay h.n1 32, 0), (oc 0 7, 0), (oc 0 7, 0), (lay pre 155, 0), (nul 12, 0)] := by
    rw [← b1, ← b2, ← b3, ← b4, ← b5, ← b6]; rfl
  constructor
  · rw [e1]
    unfold joinF
    rw [if_pos (by simp)]
    simp [headL]
  · rw [e2]
    unfold joinF
    rw [if_pos (by simp)]
    simp [tailL]
theorem joinF_two {l : List Fd} (h : (joinF l).2 = true) : ∀ f ∈ l, f.2 = 0 := by
  unfold joinF at h
  split at h
  · assumption
  · cases h
theorem joinF_no {h : Hd} {pre name : List UInt8} (hk : mayK h.kind) (hz : (0 : UInt8) ∉ h.path) (h1 : (joinF (L1 h name)).2 = true) (h2 : (joinF (L2 h pre)).2 = true) : May h := by
  have g1 := joinF_two h1
  have g2 := joinF_two h2
  have p : ∀ {n : Int} {k : Nat} {m : Int}, 1 ≤ k → k ≤ 19 → m + 1 = ((8 ^ k : Nat) : Int) → (octal n ((k + 1 : Nat) : Int)).2 = 0 → mayN n m := fun hk hk2 hm hz => Classical.byContradiction fun hn => octal_not hk hk2 hn hm hz
  have q : ∀ {s : List UInt8} {n m : Nat}, n ≤ 512 → (fieldT s (n : Int) (m : Int)).2 = 0 → mayT s m := fun hn hz => Classical.byContradiction fun h => fieldT_no h hn hz
  exact ⟨hk, hz, q (n := 100) (by decide) (g2 _ (by simp [L2])), q (n := 32) (by decide) (g2 (fieldT h.n0 32 31) (by simp [L2])), q (n := 32) (by decide) (g2 (fieldT h.n1 32 31) (by simp [L2])),
    p (k := 7) (by decide) (by decide) (by decide) (g1 (octal h.mode 8) (by simp [L1])), p (k := 7) (by decide) (by decide) (by decide) (g1 (octal h.i0 8) (by simp [L1])), p (k := 7) (by decide) (by decide) (by decide) (g1 (octal h.i1 8) (by simp [L1])),
    p (k := 11) (by decide) (by decide) (by decide) (g1 (octal h.size 12) (by simp [L1])), p (k := 11) (by decide) (by decide) (by decide) (g1 (octal h.time 12) (by simp [L1]))⟩
/-- what joined asks -/
structure FdOk (f : Fd) : Prop where
  ne : f.2 = 0 → f.1 ≠ []
  len : f.1.length ≤ 1000
theorem fdOk_text {s : List UInt8} {n : Nat} {m : Int} (h0 : 1 ≤ n) : FdOk (fieldT s (n : Int) m) := by
  refine ⟨fun h e => ?_, ?_⟩
  · unfold fieldT at h e
    simp only at h e
    split at h
    · exact absurd h (by decide)
    · have := (text_ok h).2
      rw [e] at this
      simp at this
      omega
  · have := text_len s n
    show (text s n).1.length ≤ 1000
    omega
theorem fdOk_octal (n : Int) (m : Nat) (hm : 2 ≤ m) : FdOk (octal n (m : Int)) := by
  refine ⟨fun h e => ?_, ?_⟩
  · unfold octal at h e
    split at h
    · exact absurd h (by decide)
    · rename_i h1
      rw [if_neg h1] at e
      split at h
      · exact absurd h (by decide)
      · rename_i h2
        rw [if_neg h2] at e
        simp at e
  · have := octal_len n m
    omega
theorem l1_ok (h : Hd) (name : List UInt8) : ∀ f ∈ L1 h name, FdOk f := by
  intro f hf
  simp only [L1, List.mem_cons, List.not_mem_nil, or_false] at hf
  rcases hf with rfl | rfl | rfl | rfl | rfl | rfl | rfl
  · exact fdOk_text (n := 100) (by decide)
  · exact fdOk_octal _ 8 (by decide)
  · exact fdOk_octal _ 8 (by decide)
  · exact fdOk_octal _ 8 (by decide)
  · exact fdOk_octal _ 12 (by decide)
  · exact fdOk_octal _ 12 (by decide)
  · exact fdOk_text (n := 8) (by decide)
theorem l2_ok (h : Hd) (pre : List UInt8) : ∀ f ∈ L2 h pre, FdOk f := by
  intro f hf
  simp only [L2, List.mem_cons, List.not_mem_nil, or_false] at hf
  rcases hf with rfl | rfl | rfl | rfl | rfl | rfl | rfl | rfl | rfl
  · exact ⟨fun _ => by simp, by simp⟩
  · exact fdOk_text (n := 100) (by decide)
  · exact ⟨fun _ => by decide, by decide⟩
  · exact fdOk_text (n := 32) (by decide)
  · exact fdOk_text (n := 32) (by decide)
  · exact fdOk_octal _ 8 (by decide)
  · exact fdOk_octal _ 8 (by decide)
  · exact fdOk_text (n := 155) (by decide)
  · exact fdOk_text (n := 12) (by decide)
theorem oneB {w : World} {b k : Nat} {T : TypeId} (h : Bk w b T [.int .u8 (k : Int)]) (hk : k ≤ 255) : Sl w w.heap.size (some ⟨b, 0, none⟩) (bytesV [UInt8.ofNat k]) := by
  have e : bytesV [UInt8.ofNat k] = [.int .u8 (k : Int)] := by
    have : (UInt8.ofNat k).toNat = k := by simp; omega
    simp [bytesV, this]
  rw [e]
  exact h.sl
/-! ### The library -/
theorem contains_c (c : Nat) (hc : c ≤ 255) (w : World) : Ret Tryd.prog 50 [str [48, 53, 120, 103], str [UInt8.ofNat c]] w fun v w' => v = .bool (decide (mayK c)) ∧ w = w' := by
  refine (Ret.of_calls Tryd.func50 (by kernel_rfl) (Tryd.strings_Contains_one ⟨#[48, 53, 120, 103]⟩ (UInt8.ofNat c) w)).mono ?_
  rintro v w' ⟨rfl, rfl⟩
  refine ⟨congrArg Value.bool (decide_eq_decide.2 ?_), rfl⟩
  have e : (UInt8.ofNat c).toNat = c := by simp; omega
  have key : UInt8.ofNat c ∈ ([48, 53, 120, 103] : List UInt8) ↔ mayK c := by
    unfold mayK
    simp only [List.mem_cons, List.not_mem_nil, or_false, ← UInt8.toNat_inj, e]
    rfl
  rcases indexByte_lt [48, 53, 120, 103] (UInt8.ofNat c) with ⟨h1, h2⟩ | ⟨i, h1, _, _, h2⟩
  · rw [show (⟨#[48, 53, 120, 103]⟩ : ByteArray).data.toList = [48, 53, 120, 103] from rfl, h1]
    exact ⟨fun h => absurd h (by decide), fun h => absurd (key.2 h) h2⟩
  · rw [show (⟨#[48, 53, 120, 103]⟩ : ByteArray).data.toList = [48, 53, 120, 103] from rfl, h1]
    exact ⟨fun _ => key.1 h2, fun _ => by omega⟩
set_option maxRecDepth 20000 in
theorem encode_s (h : Hd) (ho : h.Ok) (w : World) : Ret Tryd.prog 49 [.agg h.cells.toArray] w fun v w' => v = .tuple #[str (encH h).1, .int .i64 (((encH h).2 : Nat) : Int)] ∧ Ext w w' := by
  have hk := ho.kind
  have hpl := ho.path
  have q1 := ho.size
  have q2 := ho.mode
  have q3 := ho.time
  have q4 := ho.i0
  have q5 := ho.i1
  unfold I64 at q1 q2 q3 q4 q5
  refine Ret.enter Tryd.func49 rfl Tryd.ntmps49 (by kernel_rfl) rfl ?_
  refine KW.seq (KW.region ?_)
  refine OW.boxS rfl rfl rfl ?_
  rintro hb w0 hge0 hb0 hx0
  refine OW.val rfl rfl (EX.assign rfl) ?_
  refine OW.val rfl rfl (EX.assign rfl) ?_
  refine OW.nil ?_
  refine KW.seq (KW.region ?_)
  refine OW.val rfl rfl (EX.fieldAddr (off := 0) Tryd.underlying45 rfl rfl ti9 rfl rfl) ?_
  replace hb0 : Bk w0 hb 45 h.cells := hb0
  refine OW.val rfl rfl (EX.load Tryd.underlying9 rfl rfl (hb0.cell_of rfl)) ?_
  refine OW.call rfl rfl rfl (psplit_s h.path (by omega) w0) ?_
  rintro _ w1 ⟨r, rfl, hr, hx1⟩
  refine OW.val rfl rfl (EX.move rfl) ?_
  refine OW.val rfl rfl (EX.extract rfl rfl) ?_
  refine OW.val rfl rfl (EX.extract rfl rfl) ?_
  refine OW.val rfl rfl (EX.extract rfl rfl) ?_
  refine OW.val rfl rfl (EX.assign rfl) ?_
  refine OW.val rfl rfl (EX.assign rfl) ?_
  refine OW.val rfl rfl (EX.assign rfl) ?_
  refine OW.nil ?_
  refine KW.seq (KW.seq ?_)
  obtain rfl := split_val hr
  have x1 := hx0.trans hx1
  have hb1 := hb0.ext hx1
  rcases hs1 : (splitP h.path).2.2 with _ | _
  · skip
    have e : encH h = ([], 140) := by unfold encH; rw [if_pos (.inl hs1)]
    refine KW.region ?_
    refine OW.val rfl rfl (EX.move rfl) ?_
    refine OW.val rfl rfl (by first | exact EX.notD rfl | exact EX.notB rfl) ?_
    refine OW.val rfl rfl (EX.move rfl) ?_
    refine OW.pass rfl rfl ?_
    refine OW.pass rfl rfl ?_
    refine OW.pass rfl rfl ?_
    refine OW.val rfl rfl (EX.pickT rfl rfl) ?_
    refine OW.nil ?_
    refine KW.condT rfl (KW.seq (KW.region ?_))
    refine OW.val rfl rfl (EX.assign rfl) ?_
    refine OW.val rfl rfl (EX.assign rfl) ?_
    refine OW.nil ?_
    refine KW.ret (ret2 rfl rfl rfl ?_)
    rw [e]
    exact ⟨rfl, x1⟩
  · skip
    refine KW.region ?_
    refine OW.val rfl rfl (EX.move rfl) ?_
    refine OW.val rfl rfl (by first | exact EX.notD rfl | exact EX.notB rfl) ?_
    refine OW.val rfl rfl (EX.move rfl) ?_
    refine OW.val rfl rfl (EX.fieldAddr (off := 0) Tryd.underlying45 rfl rfl ti9 rfl rfl) ?_
    refine OW.val rfl rfl (EX.load Tryd.underlying9 rfl rfl (hb1.cell_of rfl)) ?_
    refine OW.val rfl rfl (EX.eqlS (r := []) rfl rfl) ?_
    refine OW.val rfl rfl (EX.pickF rfl rfl) ?_
    refine OW.nil ?_
    refine KW.condD rfl (fun hnil => ?_) (fun hnil => ?_)
    · have e : encH h = ([], 140) := by unfold encH; rw [if_pos (.inr hnil)]
      refine KW.seq (KW.region ?_)
      refine OW.val rfl rfl (EX.assign rfl) ?_
      refine OW.val rfl rfl (EX.assign rfl) ?_
      refine OW.nil ?_
      refine KW.ret (ret2 rfl rfl rfl ?_)
      rw [e]
      exact ⟨rfl, x1⟩
    · obtain ⟨p1, p2, p3, p4, p5, p6, p7⟩ := splitP_ok hs1 hnil
      have hno : ¬ ((splitP h.path).2.2 = false ∨ h.path = []) := by rw [hs1]; simp [hnil]
      have eno : ¬ May h → encH h = ([], 160) := fun hm => by unfold encH; rw [if_neg hno, if_neg hm]
      have eyes : May h → encH h = (hdText h, 0) := fun hm => by unfold encH; rw [if_neg hno, if_pos hm]
      refine KW.skip (KW.seq (KW.seq ?_))
      refine KW.region ?_
      refine OW.val rfl rfl (EX.fieldAddr (off := 2) Tryd.underlying45 rfl rfl ti5 rfl rfl) ?_
      refine OW.val rfl rfl (EX.load Tryd.underlying5 rfl rfl (hb1.cell_of rfl)) ?_
      refine OW.buildB 1 rfl rfl Tryd.underlying69 ti5 rfl rfl rfl rfl (by first | rfl | (simp only [List.all_cons, List.all_nil, Bool.and_true, Bool.and_eq_true]; assumption)) (by decide) ?_
      rintro kb w2 hge2 hk2 hx2
      have x2 := x1.trans hx2
      have hb2 := hb1.ext hx2
      refine OW.val rfl rfl (EX.strOf Tryd.underlying69 Tryd.underlying5 Tryd.underlying9 rfl (oneB hk2 hk) (rfl)) ?_
      refine OW.call rfl rfl rfl (contains_c h.kind hk w2) ?_
      rintro _ _ ⟨rfl, rfl⟩
      refine OW.val rfl rfl (by first | exact EX.notD rfl | exact EX.notB rfl) ?_
      refine OW.val rfl rfl (EX.move rfl) ?_
      refine OW.splitD 34 rfl (fun hmk => ?_) (fun hmk => ?_)
      · have hmk' : ¬ mayK h.kind := by simpa using hmk
        refine OW.pass rfl rfl ?_
        refine OW.pass rfl rfl ?_
        refine OW.pass rfl rfl ?_
        refine OW.pass rfl rfl ?_
        refine OW.val rfl rfl (EX.pickT rfl rfl) ?_
        refine OW.nil ?_
        refine KW.condT rfl (KW.seq (KW.region ?_))
        refine OW.val rfl rfl (EX.assign rfl) ?_
        refine OW.val rfl rfl (EX.assign rfl) ?_
        refine OW.nil ?_
        refine KW.ret (ret2 rfl rfl rfl ?_)
        rw [eno fun hm => hmk' hm.kind]
        exact ⟨rfl, x2⟩
      · have hmk' : mayK h.kind := by simpa using hmk
        refine OW.val rfl rfl (EX.fieldAddr (off := 0) Tryd.underlying45 rfl rfl ti9 rfl rfl) ?_
        refine OW.val rfl rfl (EX.load Tryd.underlying9 rfl rfl (hb2.cell_of rfl)) ?_
        refine OW.call rfl rfl rfl (indexByte0_c h.path w2) ?_
        rintro _ w3 ⟨rfl, rfl⟩
        refine OW.val rfl rfl (by first | exact EX.geqN (b := 0) rfl rfl | exact EX.geqZ rfl rfl) ?_
        refine OW.val rfl rfl (EX.pickF rfl rfl) ?_
        refine OW.nil ?_
        have hix := indexByte_lt h.path 0
        refine KW.condD rfl (fun hz => ?_) (fun hz => ?_)
        · have hz' : (0 : UInt8) ∈ h.path := by
            rcases hix with ⟨q, _⟩ | ⟨_, _, _, _, q⟩
            · omega
            · exact q
          refine KW.seq (KW.region ?_)
          refine OW.val rfl rfl (EX.assign rfl) ?_
          refine OW.val rfl rfl (EX.assign rfl) ?_
          refine OW.nil ?_
          refine KW.ret (ret2 rfl rfl rfl ?_)
          rw [eno fun hm => hm.path hz']
          exact ⟨rfl, x2⟩
        · have hz' : (0 : UInt8) ∉ h.path := by
            rcases hix with ⟨_, q⟩ | ⟨_, q, _⟩
            · exact q
            · omega
          have nl := l1_ok h (splitP h.path).2.1
          have nl2 := l2_ok h (splitP h.path).1
          refine KW.skip (KW.seq ?_)
          refine KW.cut1 (fun (wr : World) => Ext w wr ∧ Bk wr hb 45 h.cells) (fun (wr : World) => [(1, .pointer (some ⟨hb, 0, none⟩)), (4, str ((splitP h.path).1)), (7, str ((joinF (L1 h (splitP h.path).2.1)).1)), (6, .bool (joinF (L1 h (splitP h.path).2.1)).2)]) (fun (wr : World) => wr) ?_ ?_
          · skip
            refine KW.regionG (N := 27) (fun w' => Ext w w' ∧ Bk w' hb 45 h.cells) (by kernel_rfl) rfl ?_
            have hS : (fun w' => Ext w w' ∧ Bk w' hb 45 h.cells) w3.drew := ⟨x2.trans (Ext.drew w3), hb2.drew⟩
            refine GW.val 0 rfl (by kernel_rfl) (by kernel_rfl) (by kernel_rfl) rfl rfl hS (fun w' hS' => EX.move rfl) ?_
            refine GW.val 2 rfl (by kernel_rfl) (by kernel_rfl) (by kernel_rfl) rfl rfl hS (fun w' hS' => EX.fieldAddr (off := 3) Tryd.underlying45 rfl rfl ti3 rfl rfl) ?_
            refine GW.val 3 rfl (by kernel_rfl) (by kernel_rfl) (by kernel_rfl) rfl rfl hS (fun w' hS' => EX.load Tryd.underlying3 rfl rfl (hS'.2.cell_of rfl)) ?_
            refine GW.val 5 rfl (by kernel_rfl) (by kernel_rfl) (by kernel_rfl) rfl rfl hS (fun w' hS' => EX.fieldAddr (off := 8) Tryd.underlying45 rfl rfl ti43 rfl rfl) ?_
            refine GW.val 6 rfl (by kernel_rfl) (by kernel_rfl) (by kernel_rfl) rfl rfl hS (fun w' hS' => by first | exact EX.indexAddrA0 (i := 0) Tryd.underlying43 ti3 rfl rfl (by omega) | exact EX.indexAddrA1 (i := 0) Tryd.underlying43 ti3 rfl rfl (by omega)) ?_
            refine GW.val 7 rfl (by kernel_rfl) (by kernel_rfl) (by kernel_rfl) rfl rfl hS (fun w' hS' => EX.load Tryd.underlying3 rfl rfl (hS'.2.cell_of rfl)) ?_
            refine GW.val 9 rfl (by kernel_rfl) (by kernel_rfl) (by kernel_rfl) rfl rfl hS (fun w' hS' => EX.fieldAddr (off := 8) Tryd.underlying45 rfl rfl ti43 rfl rfl) ?_
            refine GW.val 10 rfl (by kernel_rfl) (by kernel_rfl) (by kernel_rfl) rfl rfl hS (fun w' hS' => by first | exact EX.indexAddrA0 (i := 1) Tryd.underlying43 ti3 rfl rfl (by omega) | exact EX.indexAddrA1 (i := 1) Tryd.underlying43 ti3 rfl rfl (by omega)) ?_
            refine GW.val 11 rfl (by kernel_rfl) (by kernel_rfl) (by kernel_rfl) rfl rfl hS (fun w' hS' => EX.load Tryd.underlying3 rfl rfl (hS'.2.cell_of rfl)) ?_
            refine GW.val 13 rfl (by kernel_rfl) (by kernel_rfl) (by kernel_rfl) rfl rfl hS (fun w' hS' => EX.fieldAddr (off := 1) Tryd.underlying45 rfl rfl ti3 rfl rfl) ?_
            refine GW.val 14 rfl (by kernel_rfl) (by kernel_rfl) (by kernel_rfl) rfl rfl hS (fun w' hS' => EX.load Tryd.underlying3 rfl rfl (hS'.2.cell_of rfl)) ?_
            refine GW.val 16 rfl (by kernel_rfl) (by kernel_rfl) (by kernel_rfl) rfl rfl hS (fun w' hS' => EX.fieldAddr (off := 4) Tryd.underlying45 rfl rfl ti3 rfl rfl) ?_
            refine GW.val 17 rfl (by kernel_rfl) (by kernel_rfl) (by kernel_rfl) rfl rfl hS (fun w' hS' => EX.load Tryd.underlying3 rfl rfl (hS'.2.cell_of rfl)) ?_
            refine GW.call 1 rfl (by kernel_rfl) rfl rfl rfl (utext_s (splitP h.path).2.1 (by omega) ((100 : Nat) : Int) (by decide) (by decide) ((100 : Nat) : Int) w3.drew) ?_
            rintro _ w1 ⟨rfl, hx1⟩
            refine ⟨⟨hS.1.trans hx1, hS.2.ext hx1⟩, fun hS => ?_⟩
            refine GW.call 4 rfl (by kernel_rfl) rfl rfl rfl (unumber_s h.mode q2.1 q2.2 ((8 : Nat) : Int) (by decide) (by decide) w1) ?_
            rintro _ w4 ⟨rfl, hx4⟩
            refine ⟨⟨hS.1.trans hx4, hS.2.ext hx4⟩, fun hS => ?_⟩
            refine GW.call 8 rfl (by kernel_rfl) rfl rfl rfl (unumber_s h.i0 q4.1 q4.2 ((8 : Nat) : Int) (by decide) (by decide) w4) ?_
            rintro _ w8 ⟨rfl, hx8⟩
            refine ⟨⟨hS.1.trans hx8, hS.2.ext hx8⟩, fun hS => ?_⟩
            refine GW.call 12 rfl (by kernel_rfl) rfl rfl rfl (unumber_s h.i1 q5.1 q5.2 ((8 : Nat) : Int) (by decide) (by decide) w8) ?_
            rintro _ w12 ⟨rfl, hx12⟩
            refine ⟨⟨hS.1.trans hx12, hS.2.ext hx12⟩, fun hS => ?_⟩
            refine GW.call 15 rfl (by kernel_rfl) rfl rfl rfl (unumber_s h.size q1.1 q1.2 ((12 : Nat) : Int) (by decide) (by decide) w12) ?_
            rintro _ w15 ⟨rfl, hx15⟩
            refine ⟨⟨hS.1.trans hx15, hS.2.ext hx15⟩, fun hS => ?_⟩
            refine GW.call 18 rfl (by kernel_rfl) rfl rfl rfl (unumber_s h.time q3.1 q3.2 ((12 : Nat) : Int) (by decide) (by decide) w15) ?_
            rintro _ w18 ⟨rfl, hx18⟩
            refine ⟨⟨hS.1.trans hx18, hS.2.ext hx18⟩, fun hS => ?_⟩
            refine GW.call 19 rfl (by kernel_rfl) rfl rfl rfl (utext_s [] (by simp) ((8 : Nat) : Int) (by decide) (by decide) ((8 : Nat) : Int) w18) ?_
            rintro _ w19 ⟨rfl, hx19⟩
            refine ⟨⟨hS.1.trans hx19, hS.2.ext hx19⟩, fun hS => ?_⟩
            refine GW.buildG 20 7 ((L1 h (splitP h.path).2.1).map fdV) rfl (by kernel_rfl) rfl rfl Tryd.underlying122 ti116 rfl (by decide) rfl rfl rfl (by first | (intro v hv; obtain ⟨f, hf, rfl⟩ := List.mem_map.1 hv; rfl) | simp) (by decide) ?_
            rintro sb w20 hge20 h20 hx20
            refine ⟨⟨hS.1.trans hx20, hS.2.ext hx20⟩, fun hS => ?_⟩
            refine GW.call 21 rfl (by kernel_rfl) rfl rfl rfl (joined_s (L1 h (splitP h.path).2.1) (fun f hf => (nl f hf).ne) (fun f hf => (nl f hf).len) (by simp [L1]) (some ⟨sb, 0, none⟩) 7 _ w20 (by have hh := h20.sl; rw [← List.flatMap_def] at hh; exact hh)) ?_
            rintro _ w21 ⟨rfl, hx21⟩
            refine ⟨⟨hS.1.trans hx21, hS.2.ext hx21⟩, fun hS => ?_⟩
            have h20 := h20.ext hx21
            refine GW.val 22 rfl (by kernel_rfl) (by kernel_rfl) (by kernel_rfl) rfl rfl hS (fun w' hS' => EX.move rfl) ?_
            refine GW.val 23 rfl (by kernel_rfl) (by kernel_rfl) (by kernel_rfl) rfl rfl hS (fun w' hS' => EX.extract rfl rfl) ?_
            refine GW.val 24 rfl (by kernel_rfl) (by kernel_rfl) (by kernel_rfl) rfl rfl hS (fun w' hS' => EX.extract rfl rfl) ?_
            refine GW.val 25 rfl (by kernel_rfl) (by kernel_rfl) (by kernel_rfl) rfl rfl hS (fun w' hS' => EX.assign rfl) ?_
            refine GW.val 26 rfl (by kernel_rfl) (by kernel_rfl) (by kernel_rfl) rfl rfl hS (fun w' hS' => EX.assign rfl) ?_
            refine GW.done (by kernel_rfl) ?_
            refine KW.meet1 w21 ⟨rfl, rfl, rfl, rfl, trivial⟩ rfl ?_
            exact hS
          · rintro wr ⟨xr, hbr⟩
            refine KW.seq ?_
            refine KW.cut1 (fun (wq : World) => Ext w wq) (fun (wq : World) => [(6, .bool (joinF (L1 h (splitP h.path).2.1)).2), (7, str ((joinF (L1 h (splitP h.path).2.1)).1)), (8, str ((joinF (L2 h (splitP h.path).1)).1)), (9, .bool (joinF (L2 h (splitP h.path).1)).2)]) (fun (wq : World) => wq) ?_ ?_
            · skip
              refine KW.regionG (N := 29) (fun w' => Ext w w' ∧ Bk w' hb 45 h.cells) (by kernel_rfl) rfl ?_
              have hS : (fun w' => Ext w w' ∧ Bk w' hb 45 h.cells) wr.drew := ⟨xr.trans (Ext.drew wr), hbr.drew⟩
              refine GW.val 0 rfl (by kernel_rfl) (by kernel_rfl) (by kernel_rfl) rfl rfl hS (fun w' hS' => EX.fieldAddr (off := 2) Tryd.underlying45 rfl rfl ti5 rfl rfl) ?_
              refine GW.val 1 rfl (by kernel_rfl) (by kernel_rfl) (by kernel_rfl) rfl rfl hS (fun w' hS' => EX.load Tryd.underlying5 rfl rfl (hS'.2.cell_of rfl)) ?_
              refine GW.val 5 rfl (by kernel_rfl) (by kernel_rfl) (by kernel_rfl) rfl rfl hS (fun w' hS' => EX.fieldAddr (off := 5) Tryd.underlying45 rfl rfl ti9 rfl rfl) ?_
              refine GW.val 6 rfl (by kernel_rfl) (by kernel_rfl) (by kernel_rfl) rfl rfl hS (fun w' hS' => EX.load Tryd.underlying9 rfl rfl (hS'.2.cell_of rfl)) ?_
              refine GW.val 8 rfl (by kernel_rfl) (by kernel_rfl) (by kernel_rfl) rfl rfl hS (fun w' hS' => EX.buildS (pl := [(0, 1), (1, 1)]) (ks := [0]) (is := [0]) (zs := [str [], .int .i64 0]) Tryd.underlying116 ti116 (by kernel_rfl) rfl rfl rfl (by first | rfl | (simp only [List.all_cons, List.all_nil, Bool.and_true, Bool.true_and, Bool.and_eq_true, Value.oneCell']; repeat (first | assumption | exact Own.one (by assumption) | constructor))) (by simp only [setAll, List.set_cons_zero, List.set_cons_succ]; rfl)) ?_
              refine GW.val 9 rfl (by kernel_rfl) (by kernel_rfl) (by kernel_rfl) rfl rfl hS (fun w' hS' => EX.fieldAddr (off := 6) Tryd.underlying45 rfl rfl ti42 rfl rfl) ?_
              refine GW.val 10 rfl (by kernel_rfl) (by kernel_rfl) (by kernel_rfl) rfl rfl hS (fun w' hS' => by first | exact EX.indexAddrA0 (i := 0) Tryd.underlying42 ti9 rfl rfl (by omega) | exact EX.indexAddrA1 (i := 0) Tryd.underlying42 ti9 rfl rfl (by omega)) ?_
              refine GW.val 11 rfl (by kernel_rfl) (by kernel_rfl) (by kernel_rfl) rfl rfl hS (fun w' hS' => EX.load Tryd.underlying9 rfl rfl (hS'.2.cell_of rfl)) ?_
              refine GW.val 13 rfl (by kernel_rfl) (by kernel_rfl) (by kernel_rfl) rfl rfl hS (fun w' hS' => EX.fieldAddr (off := 6) Tryd.underlying45 rfl rfl ti42 rfl rfl) ?_
              refine GW.val 14 rfl (by kernel_rfl) (by kernel_rfl) (by kernel_rfl) rfl rfl hS (fun w' hS' => by first | exact EX.indexAddrA0 (i := 1) Tryd.underlying42 ti9 rfl rfl (by omega) | exact EX.indexAddrA1 (i := 1) Tryd.underlying42 ti9 rfl rfl (by omega)) ?_
              refine GW.val 15 rfl (by kernel_rfl) (by kernel_rfl) (by kernel_rfl) rfl rfl hS (fun w' hS' => EX.load Tryd.underlying9 rfl rfl (hS'.2.cell_of rfl)) ?_
              refine GW.val 19 rfl (by kernel_rfl) (by kernel_rfl) (by kernel_rfl) rfl rfl hS (fun w' hS' => EX.move rfl) ?_
              refine GW.two 2 7 (by kernel_rfl) ?_ ?_
              · refine GO.buildB 2 1 rfl rfl rfl Tryd.underlying69 ti5 rfl rfl rfl rfl rfl (by decide) ?_
                rintro gb w2 hge2 h2 hx2
                refine ⟨⟨hS.1.trans hx2, hS.2.ext hx2⟩, fun hS => ?_⟩
                refine GW.strong (fun w' => Ext w w' ∧ Bk w' hb 45 h.cells ∧ Bk w' gb 5 [.int .u8 (h.kind : Int)]) (fun _ h => ⟨h.1, h.2.1⟩) ?_
                replace hS := (⟨hS.1, hS.2, h2⟩ : (fun w' => Ext w w' ∧ Bk w' hb 45 h.cells ∧ Bk w' gb 5 [.int .u8 (h.kind : Int)]) w2)
                refine GW.val 3 rfl (by kernel_rfl) (by kernel_rfl) (by kernel_rfl) rfl rfl hS (fun w' hS' => EX.strOf Tryd.underlying69 Tryd.underlying5 Tryd.underlying9 rfl (oneB hS'.2.2 hk) rfl) ?_
                refine GW.val 4 rfl (by kernel_rfl) (by kernel_rfl) (by kernel_rfl) rfl rfl hS (fun w' hS' => EX.buildS (pl := [(0, 1), (1, 1)]) (ks := [0]) (is := [0]) (zs := [str [], .int .i64 0]) Tryd.underlying116 ti116 (by kernel_rfl) rfl rfl rfl (by first | rfl | (simp only [List.all_cons, List.all_nil, Bool.and_true, Bool.true_and, Bool.and_eq_true, Value.oneCell']; repeat (first | assumption | exact Own.one (by assumption) | constructor))) (by simp only [setAll, List.set_cons_zero, List.set_cons_succ]; rfl)) ?_
                refine GW.call 7 rfl (by kernel_rfl) rfl rfl rfl (utext_s h.link (by have := ho.link; omega) ((100 : Nat) : Int) (by decide) (by decide) ((100 : Nat) : Int) w2) ?_
                rintro _ w7 ⟨rfl, hx7⟩
                refine ⟨⟨hS.1.trans hx7, hS.2.1.ext hx7, hS.2.2.ext hx7⟩, fun hS => ?_⟩
                refine GW.call 12 rfl (by kernel_rfl) rfl rfl rfl (utext_s h.n0 (by have := ho.n0; omega) ((32 : Nat) : Int) (by decide) (by decide) ((31 : Nat) : Int) w7) ?_
                rintro _ w12 ⟨rfl, hx12⟩
                refine ⟨⟨hS.1.trans hx12, hS.2.1.ext hx12, hS.2.2.ext hx12⟩, fun hS => ?_⟩
                refine GW.call 16 rfl (by kernel_rfl) rfl rfl rfl (utext_s h.n1 (by have := ho.n1; omega) ((32 : Nat) : Int) (by decide) (by decide) ((31 : Nat) : Int) w12) ?_
                rintro _ w16 ⟨rfl, hx16⟩
                refine ⟨⟨hS.1.trans hx16, hS.2.1.ext hx16, hS.2.2.ext hx16⟩, fun hS => ?_⟩
                refine GW.call 17 rfl (by kernel_rfl) rfl rfl rfl (unumber_s 0 (by decide) (by decide) ((8 : Nat) : Int) (by decide) (by decide) w16) ?_
                rintro _ w17 ⟨rfl, hx17⟩
                refine ⟨⟨hS.1.trans hx17, hS.2.1.ext hx17, hS.2.2.ext hx17⟩, fun hS => ?_⟩
                refine GW.call 18 rfl (by kernel_rfl) rfl rfl rfl (unumber_s 0 (by decide) (by decide) ((8 : Nat) : Int) (by decide) (by decide) w17) ?_
                rintro _ w18 ⟨rfl, hx18⟩
                refine ⟨⟨hS.1.trans hx18, hS.2.1.ext hx18, hS.2.2.ext hx18⟩, fun hS => ?_⟩
                refine GW.call 20 rfl (by kernel_rfl) rfl rfl rfl (utext_s (splitP h.path).1 (by omega) ((155 : Nat) : Int) (by decide) (by decide) ((155 : Nat) : Int) w18) ?_
                rintro _ w20 ⟨rfl, hx20⟩
                refine ⟨⟨hS.1.trans hx20, hS.2.1.ext hx20, hS.2.2.ext hx20⟩, fun hS => ?_⟩
                refine GW.call 21 rfl (by kernel_rfl) rfl rfl rfl (utext_s [] (by simp) ((12 : Nat) : Int) (by decide) (by decide) ((12 : Nat) : Int) w20) ?_
                rintro _ w21 ⟨rfl, hx21⟩
                refine ⟨⟨hS.1.trans hx21, hS.2.1.ext hx21, hS.2.2.ext hx21⟩, fun hS => ?_⟩
                refine GW.buildG 22 9 ((L2 h (splitP h.path).1).map fdV) rfl (by kernel_rfl) rfl rfl Tryd.underlying122 ti116 rfl (by decide) rfl rfl rfl (by first | (intro v hv; obtain ⟨f, hf, rfl⟩ := List.mem_map.1 hv; rfl) | simp) (by decide) ?_
                rintro sb w22 hge22 h22 hx22
                refine ⟨⟨hS.1.trans hx22, hS.2.1.ext hx22, hS.2.2.ext hx22⟩, fun hS => ?_⟩
                refine GW.call 23 rfl (by kernel_rfl) rfl rfl rfl (joined_s (L2 h (splitP h.path).1) (fun f hf => (nl2 f hf).ne) (fun f hf => (nl2 f hf).len) (by simp [L2]) (some ⟨sb, 0, none⟩) 9 _ w22 (by have hh := h22.sl; rw [← List.flatMap_def] at hh; exact hh)) ?_
                rintro _ w23 ⟨rfl, hx23⟩
                refine ⟨⟨hS.1.trans hx23, hS.2.1.ext hx23, hS.2.2.ext hx23⟩, fun hS => ?_⟩
                have h22 := h22.ext hx23
                refine GW.val 24 rfl (by kernel_rfl) (by kernel_rfl) (by kernel_rfl) rfl rfl hS (fun w' hS' => EX.move rfl) ?_
                refine GW.val 25 rfl (by kernel_rfl) (by kernel_rfl) (by kernel_rfl) rfl rfl hS (fun w' hS' => EX.extract rfl rfl) ?_
                refine GW.val 26 rfl (by kernel_rfl) (by kernel_rfl) (by kernel_rfl) rfl rfl hS (fun w' hS' => EX.extract rfl rfl) ?_
                refine GW.val 27 rfl (by kernel_rfl) (by kernel_rfl) (by kernel_rfl) rfl rfl hS (fun w' hS' => EX.assign rfl) ?_
                refine GW.val 28 rfl (by kernel_rfl) (by kernel_rfl) (by kernel_rfl) rfl rfl hS (fun w' hS' => EX.assign rfl) ?_
                refine GW.done (by kernel_rfl) ?_
                refine KW.meet1 w23 ⟨rfl, rfl, rfl, rfl, trivial⟩ rfl ?_
                exact hS.1
              · refine GO.call 7 rfl rfl rfl rfl (utext_s h.link (by have := ho.link; omega) ((100 : Nat) : Int) (by decide) (by decide) ((100 : Nat) : Int) wr.drew) ?_
                rintro _ w7 ⟨rfl, hx7⟩
                refine ⟨⟨hS.1.trans hx7, hS.2.ext hx7⟩, fun hS => ?_⟩
                refine GW.two 2 12 (by kernel_rfl) ?_ ?_
                · refine GO.buildB 2 1 rfl rfl rfl Tryd.underlying69 ti5 rfl rfl rfl rfl rfl (by decide) ?_
                  rintro gb w2 hge2 h2 hx2
                  refine ⟨⟨hS.1.trans hx2, hS.2.ext hx2⟩, fun hS => ?_⟩
                  refine GW.strong (fun w' => Ext w w' ∧ Bk w' hb 45 h.cells ∧ Bk w' gb 5 [.int .u8 (h.kind : Int)]) (fun _ h => ⟨h.1, h.2.1⟩) ?_
                  replace hS := (⟨hS.1, hS.2, h2⟩ : (fun w' => Ext w w' ∧ Bk w' hb 45 h.cells ∧ Bk w' gb 5 [.int .u8 (h.kind : Int)]) w2)
                  refine GW.val 3 rfl (by kernel_rfl) (by kernel_rfl) (by kernel_rfl) rfl rfl hS (fun w' hS' => EX.strOf Tryd.underlying69 Tryd.underlying5 Tryd.underlying9 rfl (oneB hS'.2.2 hk) rfl) ?_
                  refine GW.val 4 rfl (by kernel_rfl) (by kernel_rfl) (by kernel_rfl) rfl rfl hS (fun w' hS' => EX.buildS (pl := [(0, 1), (1, 1)]) (ks := [0]) (is := [0]) (zs := [str [], .int .i64 0]) Tryd.underlying116 ti116 (by kernel_rfl) rfl rfl rfl (by first | rfl | (simp only [List.all_cons, List.all_nil, Bool.and_true, Bool.true_and, Bool.and_eq_true, Value.oneCell']; repeat (first | assumption | exact Own.one (by assumption) | constructor))) (by simp only [setAll, List.set_cons_zero, List.set_cons_succ]; rfl)) ?_
                  refine GW.call 12 rfl (by kernel_rfl) rfl rfl rfl (utext_s h.n0 (by have := ho.n0; omega) ((32 : Nat) : Int) (by decide) (by decide) ((31 : Nat) : Int) w2) ?_
                  rintro _ w12 ⟨rfl, hx12⟩
                  refine ⟨⟨hS.1.trans hx12, hS.2.1.ext hx12, hS.2.2.ext hx12⟩, fun hS => ?_⟩
                  refine GW.call 16 rfl (by kernel_rfl) rfl rfl rfl (utext_s h.n1 (by have := ho.n1; omega) ((32 : Nat) : Int) (by decide) (by decide) ((31 : Nat) : Int) w12) ?_
                  rintro _ w16 ⟨rfl, hx16⟩
                  refine ⟨⟨hS.1.trans hx16, hS.2.1.ext hx16, hS.2.2.ext hx16⟩, fun hS => ?_⟩
                  refine GW.call 17 rfl (by kernel_rfl) rfl rfl rfl (unumber_s 0 (by decide) (by decide) ((8 : Nat) : Int) (by decide) (by decide) w16) ?_
                  rintro _ w17 ⟨rfl, hx17⟩
                  refine ⟨⟨hS.1.trans hx17, hS.2.1.ext hx17, hS.2.2.ext hx17⟩, fun hS => ?_⟩
                  refine GW.call 18 rfl (by kernel_rfl) rfl rfl rfl (unumber_s 0 (by decide) (by decide) ((8 : Nat) : Int) (by decide) (by decide) w17) ?_
                  rintro _ w18 ⟨rfl, hx18⟩
                  refine ⟨⟨hS.1.trans hx18, hS.2.1.ext hx18, hS.2.2.ext hx18⟩, fun hS => ?_⟩
                  refine GW.call 20 rfl (by kernel_rfl) rfl rfl rfl (utext_s (splitP h.path).1 (by omega) ((155 : Nat) : Int) (by decide) (by decide) ((155 : Nat) : Int) w18) ?_
                  rintro _ w20 ⟨rfl, hx20⟩
                  refine ⟨⟨hS.1.trans hx20, hS.2.1.ext hx20, hS.2.2.ext hx20⟩, fun hS => ?_⟩
                  refine GW.call 21 rfl (by kernel_rfl) rfl rfl rfl (utext_s [] (by simp) ((12 : Nat) : Int) (by decide) (by decide) ((12 : Nat) : Int) w20) ?_
                  rintro _ w21 ⟨rfl, hx21⟩
                  refine ⟨⟨hS.1.trans hx21, hS.2.1.ext hx21, hS.2.2.ext hx21⟩, fun hS => ?_⟩
                  refine GW.buildG 22 9 ((L2 h (splitP h.path).1).map fdV) rfl (by kernel_rfl) rfl rfl Tryd.underlying122 ti116 rfl (by decide) rfl rfl rfl (by first | (intro v hv; obtain ⟨f, hf, rfl⟩ := List.mem_map.1 hv; rfl) | simp) (by decide) ?_
                  rintro sb w22 hge22 h22 hx22
                  refine ⟨⟨hS.1.trans hx22, hS.2.1.ext hx22, hS.2.2.ext hx22⟩, fun hS => ?_⟩
                  refine GW.call 23 rfl (by kernel_rfl) rfl rfl rfl (joined_s (L2 h (splitP h.path).1) (fun f hf => (nl2 f hf).ne) (fun f hf => (nl2 f hf).len) (by simp [L2]) (some ⟨sb, 0, none⟩) 9 _ w22 (by have hh := h22.sl; rw [← List.flatMap_def] at hh; exact hh)) ?_
                  rintro _ w23 ⟨rfl, hx23⟩
                  refine ⟨⟨hS.1.trans hx23, hS.2.1.ext hx23, hS.2.2.ext hx23⟩, fun hS => ?_⟩
                  have h22 := h22.ext hx23
                  refine GW.val 24 rfl (by kernel_rfl) (by kernel_rfl) (by kernel_rfl) rfl rfl hS (fun w' hS' => EX.move rfl) ?_
                  refine GW.val 25 rfl (by kernel_rfl) (by kernel_rfl) (by kernel_rfl) rfl rfl hS (fun w' hS' => EX.extract rfl rfl) ?_
                  refine GW.val 26 rfl (by kernel_rfl) (by kernel_rfl) (by kernel_rfl) rfl rfl hS (fun w' hS' => EX.extract rfl rfl) ?_
                  refine GW.val 27 rfl (by kernel_rfl) (by kernel_rfl) (by kernel_rfl) rfl rfl hS (fun w' hS' => EX.assign rfl) ?_
                  refine GW.val 28 rfl (by kernel_rfl) (by kernel_rfl) (by kernel_rfl) rfl rfl hS (fun w' hS' => EX.assign rfl) ?_
                  refine GW.done (by kernel_rfl) ?_
                  refine KW.meet1 w23 ⟨rfl, rfl, rfl, rfl, trivial⟩ rfl ?_
                  exact hS.1
                · refine GO.call 12 rfl rfl rfl rfl (utext_s h.n0 (by have := ho.n0; omega) ((32 : Nat) : Int) (by decide) (by decide) ((31 : Nat) : Int) w7) ?_
                  rintro _ w12 ⟨rfl, hx12⟩
                  refine ⟨⟨hS.1.trans hx12, hS.2.ext hx12⟩, fun hS => ?_⟩
                  refine GW.two 2 16 (by kernel_rfl) ?_ ?_
                  · refine GO.buildB 2 1 rfl rfl rfl Tryd.underlying69 ti5 rfl rfl rfl rfl rfl (by decide) ?_
                    rintro gb w2 hge2 h2 hx2
                    refine ⟨⟨hS.1.trans hx2, hS.2.ext hx2⟩, fun hS => ?_⟩
                    refine GW.strong (fun w' => Ext w w' ∧ Bk w' hb 45 h.cells ∧ Bk w' gb 5 [.int .u8 (h.kind : Int)]) (fun _ h => ⟨h.1, h.2.1⟩) ?_
                    replace hS := (⟨hS.1, hS.2, h2⟩ : (fun w' => Ext w w' ∧ Bk w' hb 45 h.cells ∧ Bk w' gb 5 [.int .u8 (h.kind : Int)]) w2)
                    refine GW.val 3 rfl (by kernel_rfl) (by kernel_rfl) (by kernel_rfl) rfl rfl hS (fun w' hS' => EX.strOf Tryd.underlying69 Tryd.underlying5 Tryd.underlying9 rfl (oneB hS'.2.2 hk) rfl) ?_
                    refine GW.val 4 rfl (by kernel_rfl) (by kernel_rfl) (by kernel_rfl) rfl rfl hS (fun w' hS' => EX.buildS (pl := [(0, 1), (1, 1)]) (ks := [0]) (is := [0]) (zs := [str [], .int .i64 0]) Tryd.underlying116 ti116 (by kernel_rfl) rfl rfl rfl (by first | rfl | (simp only [List.all_cons, List.all_nil, Bool.and_true, Bool.true_and, Bool.and_eq_true, Value.oneCell']; repeat (first | assumption | exact Own.one (by assumption) | constructor))) (by simp only [setAll, List.set_cons_zero, List.set_cons_succ]; rfl)) ?_
                    refine GW.call 16 rfl (by kernel_rfl) rfl rfl rfl (utext_s h.n1 (by have := ho.n1; omega) ((32 : Nat) : Int) (by decide) (by decide) ((31 : Nat) : Int) w2) ?_
                    rintro _ w16 ⟨rfl, hx16⟩
                    refine ⟨⟨hS.1.trans hx16, hS.2.1.ext hx16, hS.2.2.ext hx16⟩, fun hS => ?_⟩
                    refine GW.call 17 rfl (by kernel_rfl) rfl rfl rfl (unumber_s 0 (by decide) (by decide) ((8 : Nat) : Int) (by decide) (by decide) w16) ?_
                    rintro _ w17 ⟨rfl, hx17⟩
                    refine ⟨⟨hS.1.trans hx17, hS.2.1.ext hx17, hS.2.2.ext hx17⟩, fun hS => ?_⟩
                    refine GW.call 18 rfl (by kernel_rfl) rfl rfl rfl (unumber_s 0 (by decide) (by decide) ((8 : Nat) : Int) (by decide) (by decide) w17) ?_
                    rintro _ w18 ⟨rfl, hx18⟩
                    refine ⟨⟨hS.1.trans hx18, hS.2.1.ext hx18, hS.2.2.ext hx18⟩, fun hS => ?_⟩
                    refine GW.call 20 rfl (by kernel_rfl) rfl rfl rfl (utext_s (splitP h.path).1 (by omega) ((155 : Nat) : Int) (by decide) (by decide) ((155 : Nat) : Int) w18) ?_
                    rintro _ w20 ⟨rfl, hx20⟩
                    refine ⟨⟨hS.1.trans hx20, hS.2.1.ext hx20, hS.2.2.ext hx20⟩, fun hS => ?_⟩
                    refine GW.call 21 rfl (by kernel_rfl) rfl rfl rfl (utext_s [] (by simp) ((12 : Nat) : Int) (by decide) (by decide) ((12 : Nat) : Int) w20) ?_
                    rintro _ w21 ⟨rfl, hx21⟩
                    refine ⟨⟨hS.1.trans hx21, hS.2.1.ext hx21, hS.2.2.ext hx21⟩, fun hS => ?_⟩
                    refine GW.buildG 22 9 ((L2 h (splitP h.path).1).map fdV) rfl (by kernel_rfl) rfl rfl Tryd.underlying122 ti116 rfl (by decide) rfl rfl rfl (by first | (intro v hv; obtain ⟨f, hf, rfl⟩ := List.mem_map.1 hv; rfl) | simp) (by decide) ?_
                    rintro sb w22 hge22 h22 hx22
                    refine ⟨⟨hS.1.trans hx22, hS.2.1.ext hx22, hS.2.2.ext hx22⟩, fun hS => ?_⟩
                    refine GW.call 23 rfl (by kernel_rfl) rfl rfl rfl (joined_s (L2 h (splitP h.path).1) (fun f hf => (nl2 f hf).ne) (fun f hf => (nl2 f hf).len) (by simp [L2]) (some ⟨sb, 0, none⟩) 9 _ w22 (by have hh := h22.sl; rw [← List.flatMap_def] at hh; exact hh)) ?_
                    rintro _ w23 ⟨rfl, hx23⟩
                    refine ⟨⟨hS.1.trans hx23, hS.2.1.ext hx23, hS.2.2.ext hx23⟩, fun hS => ?_⟩
                    have h22 := h22.ext hx23
                    refine GW.val 24 rfl (by kernel_rfl) (by kernel_rfl) (by kernel_rfl) rfl rfl hS (fun w' hS' => EX.move rfl) ?_
                    refine GW.val 25 rfl (by kernel_rfl) (by kernel_rfl) (by kernel_rfl) rfl rfl hS (fun w' hS' => EX.extract rfl rfl) ?_
                    refine GW.val 26 rfl (by kernel_rfl) (by kernel_rfl) (by kernel_rfl) rfl rfl hS (fun w' hS' => EX.extract rfl rfl) ?_
                    refine GW.val 27 rfl (by kernel_rfl) (by kernel_rfl) (by kernel_rfl) rfl rfl hS (fun w' hS' => EX.assign rfl) ?_
                    refine GW.val 28 rfl (by kernel_rfl) (by kernel_rfl) (by kernel_rfl) rfl rfl hS (fun w' hS' => EX.assign rfl) ?_
                    refine GW.done (by kernel_rfl) ?_
                    refine KW.meet1 w23 ⟨rfl, rfl, rfl, rfl, trivial⟩ rfl ?_
                    exact hS.1
                  · refine GO.call 16 rfl rfl rfl rfl (utext_s h.n1 (by have := ho.n1; omega) ((32 : Nat) : Int) (by decide) (by decide) ((31 : Nat) : Int) w12) ?_
                    rintro _ w16 ⟨rfl, hx16⟩
                    refine ⟨⟨hS.1.trans hx16, hS.2.ext hx16⟩, fun hS => ?_⟩
                    refine GW.two 2 17 (by kernel_rfl) ?_ ?_
                    · refine GO.buildB 2 1 rfl rfl rfl Tryd.underlying69 ti5 rfl rfl rfl rfl rfl (by decide) ?_
                      rintro gb w2 hge2 h2 hx2
                      refine ⟨⟨hS.1.trans hx2, hS.2.ext hx2⟩, fun hS => ?_⟩
                      refine GW.strong (fun w' => Ext w w' ∧ Bk w' hb 45 h.cells ∧ Bk w' gb 5 [.int .u8 (h.kind : Int)]) (fun _ h => ⟨h.1, h.2.1⟩) ?_
                      replace hS := (⟨hS.1, hS.2, h2⟩ : (fun w' => Ext w w' ∧ Bk w' hb 45 h.cells ∧ Bk w' gb 5 [.int .u8 (h.kind : Int)]) w2)
                      refine GW.val 3 rfl (by kernel_rfl) (by kernel_rfl) (by kernel_rfl) rfl rfl hS (fun w' hS' => EX.strOf Tryd.underlying69 Tryd.underlying5 Tryd.underlying9 rfl (oneB hS'.2.2 hk) rfl) ?_
                      refine GW.val 4 rfl (by kernel_rfl) (by kernel_rfl) (by kernel_rfl) rfl rfl hS (fun w' hS' => EX.buildS (pl := [(0, 1), (1, 1)]) (ks := [0]) (is := [0]) (zs := [str [], .int .i64 0]) Tryd.underlying116 ti116 (by kernel_rfl) rfl rfl rfl (by first | rfl | (simp only [List.all_cons, List.all_nil, Bool.and_true, Bool.true_and, Bool.and_eq_true, Value.oneCell']; repeat (first | assumption | exact Own.one (by assumption) | constructor))) (by simp only [setAll, List.set_cons_zero, List.set_cons_succ]; rfl)) ?_
                      refine GW.call 17 rfl (by kernel_rfl) rfl rfl rfl (unumber_s 0 (by decide) (by decide) ((8 : Nat) : Int) (by decide) (by decide) w2) ?_
                      rintro _ w17 ⟨rfl, hx17⟩
                      refine ⟨⟨hS.1.trans hx17, hS.2.1.ext hx17, hS.2.2.ext hx17⟩, fun hS => ?_⟩
                      refine GW.call 18 rfl (by kernel_rfl) rfl rfl rfl (unumber_s 0 (by decide) (by decide) ((8 : Nat) : Int) (by decide) (by decide) w17) ?_
                      rintro _ w18 ⟨rfl, hx18⟩
                      refine ⟨⟨hS.1.trans hx18, hS.2.1.ext hx18, hS.2.2.ext hx18⟩, fun hS => ?_⟩
                      refine GW.call 20 rfl (by kernel_rfl) rfl rfl rfl (utext_s (splitP h.path).1 (by omega) ((155 : Nat) : Int) (by decide) (by decide) ((155 : Nat) : Int) w18) ?_
                      rintro _ w20 ⟨rfl, hx20⟩
                      refine ⟨⟨hS.1.trans hx20, hS.2.1.ext hx20, hS.2.2.ext hx20⟩, fun hS => ?_⟩
                      refine GW.call 21 rfl (by kernel_rfl) rfl rfl rfl (utext_s [] (by simp) ((12 : Nat) : Int) (by decide) (by decide) ((12 : Nat) : Int) w20) ?_
                      rintro _ w21 ⟨rfl, hx21⟩
                      refine ⟨⟨hS.1.trans hx21, hS.2.1.ext hx21, hS.2.2.ext hx21⟩, fun hS => ?_⟩
                      refine GW.buildG 22 9 ((L2 h (splitP h.path).1).map fdV) rfl (by kernel_rfl) rfl rfl Tryd.underlying122 ti116 rfl (by decide) rfl rfl rfl (by first | (intro v hv; obtain ⟨f, hf, rfl⟩ := List.mem_map.1 hv; rfl) | simp) (by decide) ?_
                      rintro sb w22 hge22 h22 hx22
                      refine ⟨⟨hS.1.trans hx22, hS.2.1.ext hx22, hS.2.2.ext hx22⟩, fun hS => ?_⟩
                      refine GW.call 23 rfl (by kernel_rfl) rfl rfl rfl (joined_s (L2 h (splitP h.path).1) (fun f hf => (nl2 f hf).ne) (fun f hf => (nl2 f hf).len) (by simp [L2]) (some ⟨sb, 0, none⟩) 9 _ w22 (by have hh := h22.sl; rw [← List.flatMap_def] at hh; exact hh)) ?_
                      rintro _ w23 ⟨rfl, hx23⟩
                      refine ⟨⟨hS.1.trans hx23, hS.2.1.ext hx23, hS.2.2.ext hx23⟩, fun hS => ?_⟩
                      have h22 := h22.ext hx23
                      refine GW.val 24 rfl (by kernel_rfl) (by kernel_rfl) (by kernel_rfl) rfl rfl hS (fun w' hS' => EX.move rfl) ?_
                      refine GW.val 25 rfl (by kernel_rfl) (by kernel_rfl) (by kernel_rfl) rfl rfl hS (fun w' hS' => EX.extract rfl rfl) ?_
                      refine GW.val 26 rfl (by kernel_rfl) (by kernel_rfl) (by kernel_rfl) rfl rfl hS (fun w' hS' => EX.extract rfl rfl) ?_
                      refine GW.val 27 rfl (by kernel_rfl) (by kernel_rfl) (by kernel_rfl) rfl rfl hS (fun w' hS' => EX.assign rfl) ?_
                      refine GW.val 28 rfl (by kernel_rfl) (by kernel_rfl) (by kernel_rfl) rfl rfl hS (fun w' hS' => EX.assign rfl) ?_
                      refine GW.done (by kernel_rfl) ?_
                      refine KW.meet1 w23 ⟨rfl, rfl, rfl, rfl, trivial⟩ rfl ?_
                      exact hS.1
                    · refine GO.call 17 rfl rfl rfl rfl (unumber_s 0 (by decide) (by decide) ((8 : Nat) : Int) (by decide) (by decide) w16) ?_
                      rintro _ w17 ⟨rfl, hx17⟩
                      refine ⟨⟨hS.1.trans hx17, hS.2.ext hx17⟩, fun hS => ?_⟩
                      refine GW.two 2 18 (by kernel_rfl) ?_ ?_
                      · refine GO.buildB 2 1 rfl rfl rfl Tryd.underlying69 ti5 rfl rfl rfl rfl rfl (by decide) ?_
                        rintro gb w2 hge2 h2 hx2
                        refine ⟨⟨hS.1.trans hx2, hS.2.ext hx2⟩, fun hS => ?_⟩
                        refine GW.strong (fun w' => Ext w w' ∧ Bk w' hb 45 h.cells ∧ Bk w' gb 5 [.int .u8 (h.kind : Int)]) (fun _ h => ⟨h.1, h.2.1⟩) ?_
                        replace hS := (⟨hS.1, hS.2, h2⟩ : (fun w' => Ext w w' ∧ Bk w' hb 45 h.cells ∧ Bk w' gb 5 [.int .u8 (h.kind : Int)]) w2)
                        refine GW.val 3 rfl (by kernel_rfl) (by kernel_rfl) (by kernel_rfl) rfl rfl hS (fun w' hS' => EX.strOf Tryd.underlying69 Tryd.underlying5 Tryd.underlying9 rfl (oneB hS'.2.2 hk) rfl) ?_
                        refine GW.val 4 rfl (by kernel_rfl) (by kernel_rfl) (by kernel_rfl) rfl rfl hS (fun w' hS' => EX.buildS (pl := [(0, 1), (1, 1)]) (ks := [0]) (is := [0]) (zs := [str [], .int .i64 0]) Tryd.underlying116 ti116 (by kernel_rfl) rfl rfl rfl (by first | rfl | (simp only [List.all_cons, List.all_nil, Bool.and_true, Bool.true_and, Bool.and_eq_true, Value.oneCell']; repeat (first | assumption | exact Own.one (by assumption) | constructor))) (by simp only [setAll, List.set_cons_zero, List.set_cons_succ]; rfl)) ?_
                        refine GW.call 18 rfl (by kernel_rfl) rfl rfl rfl (unumber_s 0 (by decide) (by decide) ((8 : Nat) : Int) (by decide) (by decide) w2) ?_
                        rintro _ w18 ⟨rfl, hx18⟩
                        refine ⟨⟨hS.1.trans hx18, hS.2.1.ext hx18, hS.2.2.ext hx18⟩, fun hS => ?_⟩
                        refine GW.call 20 rfl (by kernel_rfl) rfl rfl rfl (utext_s (splitP h.path).1 (by omega) ((155 : Nat) : Int) (by decide) (by decide) ((155 : Nat) : Int) w18) ?_
                        rintro _ w20 ⟨rfl, hx20⟩
                        refine ⟨⟨hS.1.trans hx20, hS.2.1.ext hx20, hS.2.2.ext hx20⟩, fun hS => ?_⟩
                        refine GW.call 21 rfl (by kernel_rfl) rfl rfl rfl (utext_s [] (by simp) ((12 : Nat) : Int) (by decide) (by decide) ((12 : Nat) : Int) w20) ?_
                        rintro _ w21 ⟨rfl, hx21⟩
                        refine ⟨⟨hS.1.trans hx21, hS.2.1.ext hx21, hS.2.2.ext hx21⟩, fun hS => ?_⟩
                        refine GW.buildG 22 9 ((L2 h (splitP h.path).1).map fdV) rfl (by kernel_rfl) rfl rfl Tryd.underlying122 ti116 rfl (by decide) rfl rfl rfl (by first | (intro v hv; obtain ⟨f, hf, rfl⟩ := List.mem_map.1 hv; rfl) | simp) (by decide) ?_
                        rintro sb w22 hge22 h22 hx22
                        refine ⟨⟨hS.1.trans hx22, hS.2.1.ext hx22, hS.2.2.ext hx22⟩, fun hS => ?_⟩
                        refine GW.call 23 rfl (by kernel_rfl) rfl rfl rfl (joined_s (L2 h (splitP h.path).1) (fun f hf => (nl2 f hf).ne) (fun f hf => (nl2 f hf).len) (by simp [L2]) (some ⟨sb, 0, none⟩) 9 _ w22 (by have hh := h22.sl; rw [← List.flatMap_def] at hh; exact hh)) ?_
                        rintro _ w23 ⟨rfl, hx23⟩
                        refine ⟨⟨hS.1.trans hx23, hS.2.1.ext hx23, hS.2.2.ext hx23⟩, fun hS => ?_⟩
                        have h22 := h22.ext hx23
                        refine GW.val 24 rfl (by kernel_rfl) (by kernel_rfl) (by kernel_rfl) rfl rfl hS (fun w' hS' => EX.move rfl) ?_
                        refine GW.val 25 rfl (by kernel_rfl) (by kernel_rfl) (by kernel_rfl) rfl rfl hS (fun w' hS' => EX.extract rfl rfl) ?_
                        refine GW.val 26 rfl (by kernel_rfl) (by kernel_rfl) (by kernel_rfl) rfl rfl hS (fun w' hS' => EX.extract rfl rfl) ?_
                        refine GW.val 27 rfl (by kernel_rfl) (by kernel_rfl) (by kernel_rfl) rfl rfl hS (fun w' hS' => EX.assign rfl) ?_
                        refine GW.val 28 rfl (by kernel_rfl) (by kernel_rfl) (by kernel_rfl) rfl rfl hS (fun w' hS' => EX.assign rfl) ?_
                        refine GW.done (by kernel_rfl) ?_
                        refine KW.meet1 w23 ⟨rfl, rfl, rfl, rfl, trivial⟩ rfl ?_
                        exact hS.1
                      · refine GO.call 18 rfl rfl rfl rfl (unumber_s 0 (by decide) (by decide) ((8 : Nat) : Int) (by decide) (by decide) w17) ?_
                        rintro _ w18 ⟨rfl, hx18⟩
                        refine ⟨⟨hS.1.trans hx18, hS.2.ext hx18⟩, fun hS => ?_⟩
                        refine GW.two 2 20 (by kernel_rfl) ?_ ?_
                        · refine GO.buildB 2 1 rfl rfl rfl Tryd.underlying69 ti5 rfl rfl rfl rfl rfl (by decide) ?_
                          rintro gb w2 hge2 h2 hx2
                          refine ⟨⟨hS.1.trans hx2, hS.2.ext hx2⟩, fun hS => ?_⟩
                          refine GW.strong (fun w' => Ext w w' ∧ Bk w' hb 45 h.cells ∧ Bk w' gb 5 [.int .u8 (h.kind : Int)]) (fun _ h => ⟨h.1, h.2.1⟩) ?_
                          replace hS := (⟨hS.1, hS.2, h2⟩ : (fun w' => Ext w w' ∧ Bk w' hb 45 h.cells ∧ Bk w' gb 5 [.int .u8 (h.kind : Int)]) w2)
                          refine GW.val 3 rfl (by kernel_rfl) (by kernel_rfl) (by kernel_rfl) rfl rfl hS (fun w' hS' => EX.strOf Tryd.underlying69 Tryd.underlying5 Tryd.underlying9 rfl (oneB hS'.2.2 hk) rfl) ?_
                          refine GW.val 4 rfl (by kernel_rfl) (by kernel_rfl) (by kernel_rfl) rfl rfl hS (fun w' hS' => EX.buildS (pl := [(0, 1), (1, 1)]) (ks := [0]) (is := [0]) (zs := [str [], .int .i64 0]) Tryd.underlying116 ti116 (by kernel_rfl) rfl rfl rfl (by first | rfl | (simp only [List.all_cons, List.all_nil, Bool.and_true, Bool.true_and, Bool.and_eq_true, Value.oneCell']; repeat (first | assumption | exact Own.one (by assumption) | constructor))) (by simp only [setAll, List.set_cons_zero, List.set_cons_succ]; rfl)) ?_
                          refine GW.call 20 rfl (by kernel_rfl) rfl rfl rfl (utext_s (splitP h.path).1 (by omega) ((155 : Nat) : Int) (by decide) (by decide) ((155 : Nat) : Int) w2) ?_
                          rintro _ w20 ⟨rfl, hx20⟩
                          refine ⟨⟨hS.1.trans hx20, hS.2.1.ext hx20, hS.2.2.ext hx20⟩, fun hS => ?_⟩
                          refine GW.call 21 rfl (by kernel_rfl) rfl rfl rfl (utext_s [] (by simp) ((12 : Nat) : Int) (by decide) (by decide) ((12 : Nat) : Int) w20) ?_
                          rintro _ w21 ⟨rfl, hx21⟩
                          refine ⟨⟨hS.1.trans hx21, hS.2.1.ext hx21, hS.2.2.ext hx21⟩, fun hS => ?_⟩
                          refine GW.buildG 22 9 ((L2 h (splitP h.path).1).map fdV) rfl (by kernel_rfl) rfl rfl Tryd.underlying122 ti116 rfl (by decide) rfl rfl rfl (by first | (intro v hv; obtain ⟨f, hf, rfl⟩ := List.mem_map.1 hv; rfl) | simp) (by decide) ?_
                          rintro sb w22 hge22 h22 hx22
                          refine ⟨⟨hS.1.trans hx22, hS.2.1.ext hx22, hS.2.2.ext hx22⟩, fun hS => ?_⟩
                          refine GW.call 23 rfl (by kernel_rfl) rfl rfl rfl (joined_s (L2 h (splitP h.path).1) (fun f hf => (nl2 f hf).ne) (fun f hf => (nl2 f hf).len) (by simp [L2]) (some ⟨sb, 0, none⟩) 9 _ w22 (by have hh := h22.sl; rw [← List.flatMap_def] at hh; exact hh)) ?_
                          rintro _ w23 ⟨rfl, hx23⟩
                          refine ⟨⟨hS.1.trans hx23, hS.2.1.ext hx23, hS.2.2.ext hx23⟩, fun hS => ?_⟩
                          have h22 := h22.ext hx23
                          refine GW.val 24 rfl (by kernel_rfl) (by kernel_rfl) (by kernel_rfl) rfl rfl hS (fun w' hS' => EX.move rfl) ?_
                          refine GW.val 25 rfl (by kernel_rfl) (by kernel_rfl) (by kernel_rfl) rfl rfl hS (fun w' hS' => EX.extract rfl rfl) ?_
                          refine GW.val 26 rfl (by kernel_rfl) (by kernel_rfl) (by kernel_rfl) rfl rfl hS (fun w' hS' => EX.extract rfl rfl) ?_
                          refine GW.val 27 rfl (by kernel_rfl) (by kernel_rfl) (by kernel_rfl) rfl rfl hS (fun w' hS' => EX.assign rfl) ?_
                          refine GW.val 28 rfl (by kernel_rfl) (by kernel_rfl) (by kernel_rfl) rfl rfl hS (fun w' hS' => EX.assign rfl) ?_
                          refine GW.done (by kernel_rfl) ?_
                          refine KW.meet1 w23 ⟨rfl, rfl, rfl, rfl, trivial⟩ rfl ?_
                          exact hS.1
                        · refine GO.call 20 rfl rfl rfl rfl (utext_s (splitP h.path).1 (by omega) ((155 : Nat) : Int) (by decide) (by decide) ((155 : Nat) : Int) w18) ?_
                          rintro _ w20 ⟨rfl, hx20⟩
                          refine ⟨⟨hS.1.trans hx20, hS.2.ext hx20⟩, fun hS => ?_⟩
                          refine GW.two 2 21 (by kernel_rfl) ?_ ?_
                          · refine GO.buildB 2 1 rfl rfl rfl Tryd.underlying69 ti5 rfl rfl rfl rfl rfl (by decide) ?_
                            rintro gb w2 hge2 h2 hx2
                            refine ⟨⟨hS.1.trans hx2, hS.2.ext hx2⟩, fun hS => ?_⟩
                            refine GW.strong (fun w' => Ext w w' ∧ Bk w' hb 45 h.cells ∧ Bk w' gb 5 [.int .u8 (h.kind : Int)]) (fun _ h => ⟨h.1, h.2.1⟩) ?_
                            replace hS := (⟨hS.1, hS.2, h2⟩ : (fun w' => Ext w w' ∧ Bk w' hb 45 h.cells ∧ Bk w' gb 5 [.int .u8 (h.kind : Int)]) w2)
                            refine GW.val 3 rfl (by kernel_rfl) (by kernel_rfl) (by kernel_rfl) rfl rfl hS (fun w' hS' => EX.strOf Tryd.underlying69 Tryd.underlying5 Tryd.underlying9 rfl (oneB hS'.2.2 hk) rfl) ?_
                            refine GW.val 4 rfl (by kernel_rfl) (by kernel_rfl) (by kernel_rfl) rfl rfl hS (fun w' hS' => EX.buildS (pl := [(0, 1), (1, 1)]) (ks := [0]) (is := [0]) (zs := [str [], .int .i64 0]) Tryd.underlying116 ti116 (by kernel_rfl) rfl rfl rfl (by first | rfl | (simp only [List.all_cons, List.all_nil, Bool.and_true, Bool.true_and, Bool.and_eq_true, Value.oneCell']; repeat (first | assumption | exact Own.one (by assumption) | constructor))) (by simp only [setAll, List.set_cons_zero, List.set_cons_succ]; rfl)) ?_
                            refine GW.call 21 rfl (by kernel_rfl) rfl rfl rfl (utext_s [] (by simp) ((12 : Nat) : Int) (by decide) (by decide) ((12 : Nat) : Int) w2) ?_
                            rintro _ w21 ⟨rfl, hx21⟩
                            refine ⟨⟨hS.1.trans hx21, hS.2.1.ext hx21, hS.2.2.ext hx21⟩, fun hS => ?_⟩
                            refine GW.buildG 22 9 ((L2 h (splitP h.path).1).map fdV) rfl (by kernel_rfl) rfl rfl Tryd.underlying122 ti116 rfl (by decide) rfl rfl rfl (by first | (intro v hv; obtain ⟨f, hf, rfl⟩ := List.mem_map.1 hv; rfl) | simp) (by decide) ?_
                            rintro sb w22 hge22 h22 hx22
                            refine ⟨⟨hS.1.trans hx22, hS.2.1.ext hx22, hS.2.2.ext hx22⟩, fun hS => ?_⟩
                            refine GW.call 23 rfl (by kernel_rfl) rfl rfl rfl (joined_s (L2 h (splitP h.path).1) (fun f hf => (nl2 f hf).ne) (fun f hf => (nl2 f hf).len) (by simp [L2]) (some ⟨sb, 0, none⟩) 9 _ w22 (by have hh := h22.sl; rw [← List.flatMap_def] at hh; exact hh)) ?_
                            rintro _ w23 ⟨rfl, hx23⟩
                            refine ⟨⟨hS.1.trans hx23, hS.2.1.ext hx23, hS.2.2.ext hx23⟩, fun hS => ?_⟩
                            have h22 := h22.ext hx23
                            refine GW.val 24 rfl (by kernel_rfl) (by kernel_rfl) (by kernel_rfl) rfl rfl hS (fun w' hS' => EX.move rfl) ?_
                            refine GW.val 25 rfl (by kernel_rfl) (by kernel_rfl) (by kernel_rfl) rfl rfl hS (fun w' hS' => EX.extract rfl rfl) ?_
                            refine GW.val 26 rfl (by kernel_rfl) (by kernel_rfl) (by kernel_rfl) rfl rfl hS (fun w' hS' => EX.extract rfl rfl) ?_
                            refine GW.val 27 rfl (by kernel_rfl) (by kernel_rfl) (by kernel_rfl) rfl rfl hS (fun w' hS' => EX.assign rfl) ?_
                            refine GW.val 28 rfl (by kernel_rfl) (by kernel_rfl) (by kernel_rfl) rfl rfl hS (fun w' hS' => EX.assign rfl) ?_
                            refine GW.done (by kernel_rfl) ?_
                            refine KW.meet1 w23 ⟨rfl, rfl, rfl, rfl, trivial⟩ rfl ?_
                            exact hS.1
                          · refine GO.call 21 rfl rfl rfl rfl (utext_s [] (by simp) ((12 : Nat) : Int) (by decide) (by decide) ((12 : Nat) : Int) w20) ?_
                            rintro _ w21 ⟨rfl, hx21⟩
                            refine ⟨⟨hS.1.trans hx21, hS.2.ext hx21⟩, fun hS => ?_⟩
                            refine GW.buildB 2 1 rfl (by kernel_rfl) rfl rfl Tryd.underlying69 ti5 rfl rfl rfl rfl rfl (by decide) ?_
                            rintro gb w2 hge2 h2 hx2
                            refine ⟨⟨hS.1.trans hx2, hS.2.ext hx2⟩, fun hS => ?_⟩
                            refine GW.strong (fun w' => Ext w w' ∧ Bk w' hb 45 h.cells ∧ Bk w' gb 5 [.int .u8 (h.kind : Int)]) (fun _ h => ⟨h.1, h.2.1⟩) ?_
                            replace hS := (⟨hS.1, hS.2, h2⟩ : (fun w' => Ext w w' ∧ Bk w' hb 45 h.cells ∧ Bk w' gb 5 [.int .u8 (h.kind : Int)]) w2)
                            refine GW.val 3 rfl (by kernel_rfl) (by kernel_rfl) (by kernel_rfl) rfl rfl hS (fun w' hS' => EX.strOf Tryd.underlying69 Tryd.underlying5 Tryd.underlying9 rfl (oneB hS'.2.2 hk) rfl) ?_
                            refine GW.val 4 rfl (by kernel_rfl) (by kernel_rfl) (by kernel_rfl) rfl rfl hS (fun w' hS' => EX.buildS (pl := [(0, 1), (1, 1)]) (ks := [0]) (is := [0]) (zs := [str [], .int .i64 0]) Tryd.underlying116 ti116 (by kernel_rfl) rfl rfl rfl (by first | rfl | (simp only [List.all_cons, List.all_nil, Bool.and_true, Bool.true_and, Bool.and_eq_true, Value.oneCell']; repeat (first | assumption | exact Own.one (by assumption) | constructor))) (by simp only [setAll, List.set_cons_zero, List.set_cons_succ]; rfl)) ?_
                            refine GW.buildG 22 9 ((L2 h (splitP h.path).1).map fdV) rfl (by kernel_rfl) rfl rfl Tryd.underlying122 ti116 rfl (by decide) rfl rfl rfl (by first | (intro v hv; obtain ⟨f, hf, rfl⟩ := List.mem_map.1 hv; rfl) | simp) (by decide) ?_
                            rintro sb w22 hge22 h22 hx22
                            refine ⟨⟨hS.1.trans hx22, hS.2.1.ext hx22, hS.2.2.ext hx22⟩, fun hS => ?_⟩
                            refine GW.call 23 rfl (by kernel_rfl) rfl rfl rfl (joined_s (L2 h (splitP h.path).1) (fun f hf => (nl2 f hf).ne) (fun f hf => (nl2 f hf).len) (by simp [L2]) (some ⟨sb, 0, none⟩) 9 _ w22 (by have hh := h22.sl; rw [← List.flatMap_def] at hh; exact hh)) ?_
                            rintro _ w23 ⟨rfl, hx23⟩
                            refine ⟨⟨hS.1.trans hx23, hS.2.1.ext hx23, hS.2.2.ext hx23⟩, fun hS => ?_⟩
                            have h22 := h22.ext hx23
                            refine GW.val 24 rfl (by kernel_rfl) (by kernel_rfl) (by kernel_rfl) rfl rfl hS (fun w' hS' => EX.move rfl) ?_
                            refine GW.val 25 rfl (by kernel_rfl) (by kernel_rfl) (by kernel_rfl) rfl rfl hS (fun w' hS' => EX.extract rfl rfl) ?_
                            refine GW.val 26 rfl (by kernel_rfl) (by kernel_rfl) (by kernel_rfl) rfl rfl hS (fun w' hS' => EX.extract rfl rfl) ?_
                            refine GW.val 27 rfl (by kernel_rfl) (by kernel_rfl) (by kernel_rfl) rfl rfl hS (fun w' hS' => EX.assign rfl) ?_
                            refine GW.val 28 rfl (by kernel_rfl) (by kernel_rfl) (by kernel_rfl) rfl rfl hS (fun w' hS' => EX.assign rfl) ?_
                            refine GW.done (by kernel_rfl) ?_
                            refine KW.meet1 w23 ⟨rfl, rfl, rfl, rfl, trivial⟩ rfl ?_
                            exact hS.1
            · rintro wq xq
              have jy := fun hm : May h => joinF_yes hm p1 p3 (fun z => hz' (p5 _ z)) (fun z => hz' (p4 _ z))
              have hjn := @joinF_no h (splitP h.path).1 (splitP h.path).2.1 hmk' hz'
              generalize hJ1 : joinF (L1 h (splitP h.path).2.1) = J1 at jy hjn
              generalize hJ2 : joinF (L2 h (splitP h.path).1) = J2 at jy hjn
              obtain ⟨g1, o1⟩ := J1
              obtain ⟨g2, o2⟩ := J2
              refine KW.seq (KW.seq ?_)
              rcases o1 with _ | _
              · skip
                refine KW.region ?_
                refine OW.val rfl rfl (EX.move rfl) ?_
                refine OW.val rfl rfl (by first | exact EX.notD rfl | exact EX.notB rfl) ?_
                refine OW.val rfl rfl (EX.move rfl) ?_
                refine OW.pass rfl rfl ?_
                refine OW.pass rfl rfl ?_
                refine OW.val rfl rfl (EX.pickT rfl rfl) ?_
                refine OW.nil ?_
                refine KW.condT rfl (KW.seq (KW.region ?_))
                refine OW.val rfl rfl (EX.assign rfl) ?_
                refine OW.val rfl rfl (EX.assign rfl) ?_
                refine OW.nil ?_
                refine KW.ret (ret2 rfl rfl rfl ?_)
                rw [eno fun hm => by have := (jy hm).1; cases this]
                exact ⟨rfl, xq⟩
              · skip
                rcases o2 with _ | _
                · skip
                  refine KW.region ?_
                  refine OW.val rfl rfl (EX.move rfl) ?_
                  refine OW.val rfl rfl (by first | exact EX.notD rfl | exact EX.notB rfl) ?_
                  refine OW.val rfl rfl (EX.move rfl) ?_
                  refine OW.val rfl rfl (EX.move rfl) ?_
                  refine OW.val rfl rfl (by first | exact EX.notD rfl | exact EX.notB rfl) ?_
                  refine OW.val rfl rfl (EX.pickF rfl rfl) ?_
                  refine OW.nil ?_
                  refine KW.condT rfl (KW.seq (KW.region ?_))
                  refine OW.val rfl rfl (EX.assign rfl) ?_
                  refine OW.val rfl rfl (EX.assign rfl) ?_
                  refine OW.nil ?_
                  refine KW.ret (ret2 rfl rfl rfl ?_)
                  rw [eno fun hm => by have := (jy hm).2; cases this]
                  exact ⟨rfl, xq⟩
                · skip
                  have hm := hjn rfl rfl
                  obtain ⟨j1, j2⟩ := jy hm
                  obtain rfl := (Prod.mk.inj j1).1
                  obtain rfl := (Prod.mk.inj j2).1
                  have hl1 : ((headL h (splitP h.path).2.1).flatten).length = 148 := by rw [List.length_flatten, head_len h p1]; rfl
                  have hl2 : ((tailL h (splitP h.path).1).flatten).length = 356 := by rw [List.length_flatten, tail_len h p3 hm.link.1 (by have := hm.n0.1; omega) (by have := hm.n1.1; omega)]; rfl
                  have hl3 := nul_len 8
                  have hall : ((headL h (splitP h.path).2.1).flatten ++ nul 8 ++ (tailL h (splitP h.path).1).flatten).length = 512 := by rw [List.length_append, List.length_append]; omega
                  have hsum : sum ((headL h (splitP h.path).2.1).flatten ++ nul 8 ++ (tailL h (splitP h.path).1).flatten) = (hdSum h, 0) := by
                    unfold sum
                    rw [if_neg (by omega)]
                    rfl
                  have hsm : hdSum h / 8 ^ 6 = 0 := sumTo_small _
                  have hoct : octal ((hdSum h : Nat) : Int) ((7 : Nat) : Int) = (octs (hdSum h) 6 ++ [0], 0) := octal_yes (k := 6) (by decide) (by decide) hsm
                  have hle : hdSum h ≤ 1000000 := by have := sumTo_le (withS h (splitP h.path).1 (splitP h.path).2.1 (nul 8)) 512; unfold hdSum; omega
                  have hs6 := octs_length 6 (hdSum h)
                  have c1 := sum_s ((headL h (splitP h.path).2.1).flatten ++ nul 8 ++ (tailL h (splitP h.path).1).flatten) (by omega) wq
                  rw [hsum] at c1
                  have c2 := octal_s ((hdSum h : Nat) : Int) (by omega) (by omega) ((7 : Nat) : Int) (by decide) (by decide) wq
                  rw [hoct] at c2
                  rw [eyes hm]
                  generalize hH : (headL h (splitP h.path).2.1).flatten = H at hl1 c1 hall
                  generalize hT : (tailL h (splitP h.path).1).flatten = T at hl2 c1 hall
                  have hlH : (H ++ nul 8).length = 156 := by rw [List.length_append]; omega
                  have hlH' : (H ++ nul 8, true).1.length = 156 := hlH
                  refine KW.region ?_
                  refine OW.val rfl rfl (EX.move rfl) ?_
                  refine OW.val rfl rfl (by first | exact EX.notD rfl | exact EX.notB rfl) ?_
                  refine OW.val rfl rfl (EX.move rfl) ?_
                  refine OW.val rfl rfl (EX.move rfl) ?_
                  refine OW.val rfl rfl (by first | exact EX.notD rfl | exact EX.notB rfl) ?_
                  refine OW.val rfl rfl (EX.pickF rfl rfl) ?_
                  refine OW.nil ?_
                  refine KW.condF rfl (KW.skip (KW.seq (KW.region ?_)))
                  refine OW.val rfl rfl (EX.move rfl) ?_
                  refine OW.val rfl rfl (EX.move rfl) ?_
                  refine OW.val rfl rfl (EX.addS rfl rfl (by first | omega | (simp only [List.length_append, List.length_cons, List.length_nil, List.length_take, List.length_drop, List.length_replicate]; omega))) ?_
                  refine OW.call rfl rfl rfl (c1) ?_
                  rintro _ _ ⟨rfl, rfl⟩
                  refine OW.val rfl rfl (EX.move rfl) ?_
                  refine OW.val rfl rfl (EX.extract rfl rfl) ?_
                  refine OW.val rfl rfl (EX.extract rfl rfl) ?_
                  refine OW.val rfl rfl (EX.assign rfl) ?_
                  refine OW.val rfl rfl (EX.assign rfl) ?_
                  refine OW.nil ?_
                  refine KW.seq (KW.region ?_)
                  refine OW.val rfl rfl (EX.move rfl) ?_
                  refine OW.call rfl rfl rfl (c2) ?_
                  rintro _ wz ⟨rfl, xz⟩
                  refine OW.val rfl rfl (EX.move rfl) ?_
                  refine OW.val rfl rfl (EX.extract rfl rfl) ?_
                  refine OW.val rfl rfl (EX.extract rfl rfl) ?_
                  refine OW.val rfl rfl (EX.assign rfl) ?_
                  refine OW.val rfl rfl (EX.assign rfl) ?_
                  refine OW.nil ?_
                  refine KW.seq (KW.region ?_)
                  refine OW.val rfl rfl (EX.move rfl) ?_
                  refine OW.val rfl rfl (EX.sliceFH (j := 148) Tryd.underlying9 rfl rfl (by omega)) ?_
                  refine OW.val rfl rfl (EX.move rfl) ?_
                  refine OW.val rfl rfl (EX.addS rfl rfl (by first | omega | (simp only [List.length_append, List.length_cons, List.length_nil, List.length_take, List.length_drop, List.length_replicate]; omega))) ?_
                  refine OW.val rfl rfl (EX.addS (r := [32]) rfl rfl (by first | omega | (simp only [List.length_append, List.length_cons, List.length_nil, List.length_take, List.length_drop, List.length_replicate]; omega))) ?_
                  refine OW.val rfl rfl (EX.move rfl) ?_
                  refine OW.val rfl rfl (EX.addS rfl rfl (by first | omega | (simp only [List.length_append, List.length_cons, List.length_nil, List.length_take, List.length_drop, List.length_replicate]; omega))) ?_
                  refine OW.val rfl rfl (EX.assign rfl) ?_
                  refine OW.val rfl rfl (EX.assign rfl) ?_
                  refine OW.nil ?_
                  refine KW.ret (ret2 rfl rfl rfl ?_)
                  refine ⟨?_, xq.trans xz⟩
                  have ht : (H ++ nul 8).take 148 = H := by rw [← hl1]; exact List.take_left' rfl
                  have ed : hdText h = H ++ (octs (hdSum h) 6 ++ [0]) ++ [32] ++ T := by
                    unfold hdText withS sumF
                    rw [hH, hT]
                    simp
                  simp only [ed, ht]
                  rfl
end Go.Proofs.YtjgeoeeikfjmdaaDoor
/- ustar: headers are read, by the program; sectors of noughts. -/
namespace Go.Proofs.YtjgeoeeikfjmdaaDoor
set_option linter.unnecessarySimpa false
open Go.RowKit Fld Ust
set_option linter.unusedVariables false
set_option linter.unusedSimpArgs false

theorem craw_c (cb k n : Nat) (s : List UInt8) (bad : Bool) (w : World) (hs : s.length ≤ 140737488355328) (hk : k + n ≤ s.length) (hc : Bk w cb 108 [str (s.drop k), .bool bad]) :
    Ret Tryd.prog 55 [.pointer (some ⟨cb, 0, none⟩), .int .i64 ((n : Nat) : Int)] w fun v w' => v = str (sl s k n) ∧ Bk w' cb 108 [str (s.drop (k + n)), .bool bad] ∧ Mo w w' [cb] := by
  have hl : (s.drop k).length = s.length - k := List.length_drop
  refine Ret.enter Tryd.func55 rfl Tryd.ntmps55 (by kernel_rfl) rfl ?_
  refine KW.seq (KW.region ?_)
  refine OW.val rfl rfl (EX.assign rfl) ?_
  refine OW.nil ?_
  refine KW.seq (KW.region ?_)
  refine OW.val rfl rfl (EX.move rfl) ?_
  refine OW.val rfl rfl (EX.nilCheck rfl) ?_
  refine OW.val rfl rfl (EX.fieldAddr (off := 0) Tryd.underlying108 rfl rfl ti9 rfl rfl) ?_
  refine OW.val rfl rfl (EX.load Tryd.underlying9 rfl rfl (hc.cell_of rfl)) ?_
  refine OW.val rfl rfl (EX.move rfl) ?_
  refine OW.val rfl rfl (EX.sliceFH Tryd.underlying9 rfl rfl (by omega)) ?_
  refine OW.val rfl rfl (EX.assign rfl) ?_
  refine OW.nil ?_
  refine KW.seq (KW.region ?_)
  refine OW.val rfl rfl (EX.move rfl) ?_
  refine OW.val rfl rfl (EX.move rfl) ?_
  refine OW.val rfl rfl (EX.nilCheck rfl) ?_
  refine OW.val rfl rfl (EX.fieldAddr (off := 0) Tryd.underlying108 rfl rfl ti9 rfl rfl) ?_
  refine OW.val rfl rfl (EX.load Tryd.underlying9 rfl rfl (hc.cell_of rfl)) ?_
  refine OW.val rfl rfl (EX.move rfl) ?_
  refine OW.val rfl rfl (EX.sliceLE Tryd.underlying9 rfl rfl (by omega)) ?_
  refine OW.val rfl rfl (EX.nilCheck rfl) ?_
  refine OW.val rfl rfl (EX.fieldAddr (off := 0) Tryd.underlying108 rfl rfl ti9 rfl rfl) ?_
  refine OW.storeB rfl ti9 rfl rfl (by first | rfl | assumption | exact Own.one (by assumption)) (hc) (by simp) ?_
  rintro w2 hc2 hm2
  refine OW.nil ?_
  refine KW.seq (KW.region ?_)
  refine OW.val rfl rfl (EX.move rfl) ?_
  refine OW.val rfl rfl (EX.assign rfl) ?_
  refine OW.nil ?_
  refine KW.ret (ret1 rfl rfl ?_)
  refine ⟨rfl, ?_, hm2⟩
  rw [← List.drop_drop]
  exact hc2
theorem cnumber_c (cb k n : Nat) (s : List UInt8) (bad : Bool) (w : World) (hs : s.length ≤ 140737488355328) (hk : k + n ≤ s.length) (hc : Bk w cb 108 [str (s.drop k), .bool bad]) :
    Ret Tryd.prog 54 [.pointer (some ⟨cb, 0, none⟩), .int .i64 ((n : Nat) : Int)] w fun v w' => v = .int .i64 (((num (sl s k n)).1 : Nat) : Int) ∧ Bk w' cb 108 [str (s.drop (k + n)), .bool (bad || decide ((num (sl s k n)).2 ≠ 0))] ∧ Mo w w' [cb] := by
  have hl : (sl s k n).length ≤ 140737488355328 := by unfold sl; rw [List.length_take, List.length_drop]; omega
  refine Ret.enter Tryd.func54 rfl Tryd.ntmps54 (by kernel_rfl) rfl ?_
  refine KW.seq (KW.region ?_)
  refine OW.val rfl rfl (EX.assign rfl) ?_
  refine OW.nil ?_
  refine KW.seq (KW.region ?_)
  refine OW.val rfl rfl (EX.move rfl) ?_
  refine OW.val rfl rfl (EX.move rfl) ?_
  refine OW.call rfl rfl rfl (craw_c cb k n s bad w hs hk hc) ?_
  rintro _ w1 ⟨rfl, hc1, hm1⟩
  refine OW.call rfl rfl rfl (number_s (sl s k n) hl w1) ?_
  rintro _ w2 ⟨rfl, hx2⟩
  refine OW.val rfl rfl (EX.move rfl) ?_
  refine OW.val rfl rfl (EX.extract rfl rfl) ?_
  refine OW.val rfl rfl (EX.extract rfl rfl) ?_
  refine OW.val rfl rfl (EX.assign rfl) ?_
  refine OW.val rfl rfl (EX.assign rfl) ?_
  refine OW.nil ?_
  refine KW.seq ?_
  have hc2 := hc1.ext hx2
  have m2 : Mo w w2 [cb] := hm1.trans (Mo.of_ext hx2 _)
  rcases bad with _ | _
  · refine KW.region ?_
    refine OW.val rfl rfl (EX.move rfl) ?_
    refine OW.val rfl rfl (EX.move rfl) ?_
    refine OW.val rfl rfl (EX.nilCheck rfl) ?_
    refine OW.val rfl rfl (EX.fieldAddr (off := 1) Tryd.underlying108 rfl rfl ti4 rfl rfl) ?_
    refine OW.val rfl rfl (EX.load Tryd.underlying4 rfl rfl (hc2.cell_of rfl)) ?_
    refine OW.val rfl rfl (EX.move rfl) ?_
    refine OW.val rfl rfl (EX.move rfl) ?_
    refine OW.val rfl rfl (by first | exact EX.neqN (b := 0) rfl rfl | exact EX.neqZ rfl rfl) ?_
    refine OW.val rfl rfl (EX.pickF rfl rfl) ?_
    refine OW.val rfl rfl (EX.nilCheck rfl) ?_
    refine OW.val rfl rfl (EX.fieldAddr (off := 1) Tryd.underlying108 rfl rfl ti4 rfl rfl) ?_
    refine OW.storeB rfl ti4 rfl rfl (by first | rfl | assumption | exact Own.one (by assumption)) (hc2) (by simp) ?_
    rintro w3 hc3 hm3
    refine OW.nil ?_
    refine KW.seq (KW.region ?_)
    refine OW.val rfl rfl (EX.move rfl) ?_
    refine OW.val rfl rfl (EX.assign rfl) ?_
    refine OW.nil ?_
    refine KW.ret (ret1 rfl rfl ?_)
    refine ⟨rfl, ?_, m2.trans hm3⟩
    simp only [Bool.false_or]
    have e : decide (¬ (num (sl s k n)).2 = 0) = decide ((num (sl s k n)).2 ≠ 0) := rfl
    simpa using hc3
  · refine KW.region ?_
    refine OW.val rfl rfl (EX.move rfl) ?_
    refine OW.val rfl rfl (EX.move rfl) ?_
    refine OW.val rfl rfl (EX.nilCheck rfl) ?_
    refine OW.val rfl rfl (EX.fieldAddr (off := 1) Tryd.underlying108 rfl rfl ti4 rfl rfl) ?_
    refine OW.val rfl rfl (EX.load Tryd.underlying4 rfl rfl (hc2.cell_of rfl)) ?_
    refine OW.val rfl rfl (EX.move rfl) ?_
    refine OW.pass rfl rfl ?_
    refine OW.pass rfl rfl ?_
    refine OW.val rfl rfl (EX.pickT rfl rfl) ?_
    refine OW.val rfl rfl (EX.nilCheck rfl) ?_
    refine OW.val rfl rfl (EX.fieldAddr (off := 1) Tryd.underlying108 rfl rfl ti4 rfl rfl) ?_
    refine OW.storeB rfl ti4 rfl rfl (by first | rfl | assumption | exact Own.one (by assumption)) (hc2) (by simp) ?_
    rintro w3 hc3 hm3
    refine OW.nil ?_
    refine KW.seq (KW.region ?_)
    refine OW.val rfl rfl (EX.move rfl) ?_
    refine OW.val rfl rfl (EX.assign rfl) ?_
    refine OW.nil ?_
    refine KW.ret (ret1 rfl rfl ?_)
    exact ⟨rfl, hc3, m2.trans hm3⟩
/-- a sector is being read -/
structure Dc (w0 w : World) (rb cb hb : Nat) (rest : List UInt8) (bad : Bool) (h : List Value) : Prop where
  x : Ext w0 w
  r : Bk w rb 45 hd0.cells
  c : Bk w cb 108 [str rest, .bool bad]
  h : Bk w hb 45 h
  rlo : w0.heap.size ≤ rb
  clo : w0.heap.size ≤ cb
  hlo : w0.heap.size ≤ hb
  ne : rb ≠ hb
section
variable {w0 w : World} {rb cb hb : Nat} {s rest : List UInt8} {bad : Bool} {h : List Value} {k : Nat}
theorem Dc.step {w' : World} {rest' : List UInt8} {bad' : Bool} (d : Dc w0 w rb cb hb rest bad h) (hc : Bk w' cb 108 [str rest', .bool bad']) (hm : Mo w w' [cb]) : Dc w0 w' rb cb hb rest' bad' h :=
  ⟨below_mo d.x hm d.x.size (fun k hk => by simp at hk; subst hk; exact d.clo), d.r.mo hm (by simp; exact d.r.ne d.c (by decide)), hc, d.h.mo hm (by simp; exact d.h.ne d.c (by decide)), d.rlo, d.clo, d.hlo, d.ne⟩
theorem Dc.put {w' : World} {h' : List Value} (d : Dc w0 w rb cb hb rest bad h) (hh : Bk w' hb 45 h') (hm : Mo w w' [hb]) : Dc w0 w' rb cb hb rest bad h' :=
  ⟨below_mo d.x hm d.x.size (fun k hk => by simp at hk; subst hk; exact d.hlo), d.r.mo hm (by simp; exact d.ne), d.c.mo hm (by simp; exact fun z => d.h.ne d.c (by decide) z.symm), hh, d.rlo, d.clo, d.hlo, d.ne⟩
theorem Dc.raw (d : Dc w0 w rb cb hb (s.drop k) bad h) (n : Nat) (hs : s.length = 512) (hk : k + n ≤ 512) :
    Ret Tryd.prog 55 [.pointer (some ⟨cb, 0, none⟩), .int .i64 ((n : Nat) : Int)] w fun v w' => v = str (sl s k n) ∧ Dc w0 w' rb cb hb (s.drop (k + n)) bad h :=
  (craw_c cb k n s bad w (by omega) (by omega) d.c).mono fun v w' ⟨h1, h2, h3⟩ => ⟨h1, d.step h2 h3⟩
theorem Dc.num (d : Dc w0 w rb cb hb (s.drop k) bad h) (n : Nat) (hs : s.length = 512) (hk : k + n ≤ 512) :
    Ret Tryd.prog 54 [.pointer (some ⟨cb, 0, none⟩), .int .i64 ((n : Nat) : Int)] w fun v w' => v = .int .i64 (((num (sl s k n)).1 : Nat) : Int) ∧ Dc w0 w' rb cb hb (s.drop (k + n)) (bad || decide ((num (sl s k n)).2 ≠ 0)) h :=
  (cnumber_c cb k n s bad w (by omega) (by omega) d.c).mono fun v w' ⟨h1, h2, h3⟩ => ⟨h1, d.step h2 h3⟩
end
theorem sl_len {s : List UInt8} (hs : s.length = 512) (k n : Nat) : (sl s k n).length ≤ 512 := by unfold sl; rw [List.length_take, List.length_drop]; omega
theorem dec_no {s : List UInt8} (h : ¬ OkD s) : decH s = (hd0, 160) := by unfold decH; rw [if_neg h]
theorem dec_yes {s : List UInt8} (h : OkD s) : decH s = (hdD s, 0) := by unfold decH; rw [if_pos h]
set_option maxRecDepth 20000 in
theorem decode_s (s : List UInt8) (hs : s.length ≤ 140737488355328) (w : World) : Ret Tryd.prog 36 [str s] w fun v w' => v = .tuple #[.agg (decH s).1.cells.toArray, .int .i64 (((decH s).2 : Nat) : Int)] ∧ Ext w w' := by
  refine Ret.enter Tryd.func36 rfl Tryd.ntmps36 (by kernel_rfl) rfl ?_
  refine KW.seq (KW.region ?_)
  refine OW.allocB (l := [str [], .int .i64 0, .int .u8 0, .int .i64 0, .int .i64 0, str [], str [], str [], .int .i64 0, .int .i64 0]) rfl rfl ti45 rfl ?_
  rintro rb w1 hge1 hr1 hx1
  refine OW.val rfl rfl (EX.assign rfl) ?_
  refine OW.nil ?_
  refine KW.seq (KW.seq (KW.region ?_))
  refine OW.val rfl rfl (EX.move rfl) ?_
  refine OW.val rfl rfl (EX.lenS Tryd.underlying9 rfl) ?_
  refine OW.val rfl rfl (by first | exact EX.neqN (b := 512) rfl rfl | exact EX.neqZ rfl rfl) ?_
  refine OW.nil ?_
  refine KW.condD rfl (fun hl => ?_) (fun hl => ?_)
  · refine KW.seq (KW.region ?_)
    refine OW.val rfl rfl (EX.buildS (pl := [(0, 1), (1, 1), (2, 1), (3, 1), (4, 1), (5, 1), (6, 2), (8, 2)]) (ks := []) (is := []) (zs := [str [], .int .i64 0, .int .u8 0, .int .i64 0, .int .i64 0, str [], str [], str [], .int .i64 0, .int .i64 0]) Tryd.underlying45 ti45 (by kernel_rfl) rfl rfl rfl (by first | rfl | (simp only [List.all_cons, List.all_nil, Bool.and_true, Bool.true_and, Bool.and_eq_true, Value.oneCell']; repeat (first | assumption | exact Own.one (by assumption) | constructor))) (by simp only [setAll, List.set_cons_zero, List.set_cons_succ]; rfl)) ?_
    refine OW.storeS rfl ti45 rfl rfl rfl (by first | rfl | (simp only [List.all_cons, List.all_nil, Bool.and_true, Bool.true_and, Bool.and_eq_true, Value.oneCell']; repeat (first | assumption | exact Own.one (by assumption) | constructor))) (hr1) (Nat.le_refl _) ?_
    rintro w2 hr2 hm2
    refine OW.val rfl rfl (EX.assign rfl) ?_
    refine OW.nil ?_
    refine KW.ret (retC2 rfl Tryd.underlying45 rfl ti45 rfl rfl (hr2) rfl ?_)
    rw [dec_no fun h => hl (by have := h.len; omega)]
    exact ⟨rfl, below_mo hx1 hm2 hx1.size (fun k hk => by simp at hk; omega)⟩
  · have h512 : s.length = 512 := by omega
    refine KW.skip (KW.seq (KW.region ?_))
    refine OW.val rfl rfl (EX.move rfl) ?_
    refine OW.val rfl rfl (EX.buildS (pl := [(0, 1), (1, 1)]) (ks := [0]) (is := [0]) (zs := [str [], .bool false]) Tryd.underlying108 ti108 (by kernel_rfl) rfl rfl rfl (by first | rfl | (simp only [List.all_cons, List.all_nil, Bool.and_true, Bool.true_and, Bool.and_eq_true, Value.oneCell']; repeat (first | assumption | exact Own.one (by assumption) | constructor))) (by simp only [setAll, List.set_cons_zero, List.set_cons_succ]; rfl)) ?_
    refine OW.boxS rfl rfl rfl ?_
    rintro cb w2 hge2 hc2 hx2
    refine OW.val rfl rfl (EX.assign rfl) ?_
    refine OW.nil ?_
    refine KW.seq (KW.region ?_)
    refine OW.val rfl rfl (EX.move rfl) ?_
    refine OW.val rfl rfl (EX.makeFunc rfl rfl) ?_
    refine OW.val rfl rfl (EX.move rfl) ?_
    refine OW.val rfl rfl (EX.makeFunc rfl rfl) ?_
    refine OW.val rfl rfl (EX.assign rfl) ?_
    refine OW.val rfl rfl (EX.assign rfl) ?_
    refine OW.nil ?_
    refine KW.seq (KW.region ?_)
    refine OW.allocB (l := [str [], .int .i64 0, .int .u8 0, .int .i64 0, .int .i64 0, str [], str [], str [], .int .i64 0, .int .i64 0]) rfl rfl ti45 rfl ?_
    rintro hb w3 hge3 hh3 hx3
    refine OW.nil ?_
    refine KW.seq (KW.region ?_)
    refine OW.val rfl rfl (EX.move rfl) ?_
    have hlt1 := hr1.lt
    have d0 : Dc w w3 rb cb hb (s.drop 0) false hd0.cells := ⟨(hx1.trans hx2).trans hx3, (hr1.ext hx2).ext hx3, hc2.ext hx3, hh3, hge1, by have := hx1.size; omega, by have := hx1.size; have := hx2.size; omega, by have := hx2.size; omega⟩
    refine OW.callV rfl rfl rfl rfl rfl (d0.raw 100 h512 (by decide)) ?_
    rintro _ w4 ⟨rfl, d1⟩
    refine OW.call rfl rfl rfl (cut_s (sl s 0 100) (by have := sl_len h512 0 100; omega) w4) ?_
    rintro _ _ ⟨rfl, rfl⟩
    refine OW.val rfl rfl (EX.assign rfl) ?_
    refine OW.nil ?_
    refine KW.seq (KW.region ?_)
    refine OW.val rfl rfl (EX.move rfl) ?_
    refine OW.callV rfl rfl rfl rfl rfl (d1.num 8 h512 (by decide)) ?_
    rintro _ w5 ⟨rfl, d2⟩
    refine OW.val rfl rfl (EX.move rfl) ?_
    refine OW.callV rfl rfl rfl rfl rfl (d2.num 8 h512 (by decide)) ?_
    rintro _ w6 ⟨rfl, d3⟩
    refine OW.val rfl rfl (EX.move rfl) ?_
    refine OW.callV rfl rfl rfl rfl rfl (d3.num 8 h512 (by decide)) ?_
    rintro _ w7 ⟨rfl, d4⟩
    refine OW.val rfl rfl (EX.fieldAddr (off := 3) Tryd.underlying45 rfl rfl ti3 rfl rfl) ?_
    refine OW.storeB rfl ti3 rfl rfl (by first | rfl | assumption | exact Own.one (by assumption)) (d4.h) (of_decide_eq_true rfl) ?_
    rintro w8 hh8 hm8
    refine OW.val rfl rfl (EX.fieldAddr (off := 8) Tryd.underlying45 rfl rfl ti43 rfl rfl) ?_
    refine OW.val rfl rfl (by first | exact EX.indexAddrA0 (i := 0) Tryd.underlying43 ti3 rfl rfl (by omega) | exact EX.indexAddrA1 (i := 0) Tryd.underlying43 ti3 rfl rfl (by omega)) ?_
    have d5 := d4.put hh8 hm8
    refine OW.storeB rfl ti3 rfl rfl (by first | rfl | assumption | exact Own.one (by assumption)) (d5.h) (of_decide_eq_true rfl) ?_
    rintro w9 hh9 hm9
    refine OW.val rfl rfl (EX.fieldAddr (off := 8) Tryd.underlying45 rfl rfl ti43 rfl rfl) ?_
    refine OW.val rfl rfl (by first | exact EX.indexAddrA0 (i := 1) Tryd.underlying43 ti3 rfl rfl (by omega) | exact EX.indexAddrA1 (i := 1) Tryd.underlying43 ti3 rfl rfl (by omega)) ?_
    have d6 := d5.put hh9 hm9
    refine OW.storeB rfl ti3 rfl rfl (by first | rfl | assumption | exact Own.one (by assumption)) (d6.h) (of_decide_eq_true rfl) ?_
    rintro w10 hh10 hm10
    refine OW.nil ?_
    refine KW.seq (KW.region ?_)
    refine OW.val rfl rfl (EX.move rfl) ?_
    have d7 := d6.put hh10 hm10
    refine OW.callV rfl rfl rfl rfl rfl (d7.num 12 h512 (by decide)) ?_
    rintro _ w11 ⟨rfl, d8⟩
    refine OW.val rfl rfl (EX.move rfl) ?_
    refine OW.callV rfl rfl rfl rfl rfl (d8.num 12 h512 (by decide)) ?_
    rintro _ w12 ⟨rfl, d9⟩
    refine OW.val rfl rfl (EX.fieldAddr (off := 1) Tryd.underlying45 rfl rfl ti3 rfl rfl) ?_
    refine OW.storeB rfl ti3 rfl rfl (by first | rfl | assumption | exact Own.one (by assumption)) (d9.h) (of_decide_eq_true rfl) ?_
    rintro w13 hh13 hm13
    refine OW.val rfl rfl (EX.fieldAddr (off := 4) Tryd.underlying45 rfl rfl ti3 rfl rfl) ?_
    have d10 := d9.put hh13 hm13
    refine OW.storeB rfl ti3 rfl rfl (by first | rfl | assumption | exact Own.one (by assumption)) (d10.h) (of_decide_eq_true rfl) ?_
    rintro w14 hh14 hm14
    refine OW.nil ?_
    refine KW.seq (KW.region ?_)
    refine OW.val rfl rfl (EX.move rfl) ?_
    have d11 := d10.put hh14 hm14
    refine OW.callV rfl rfl rfl rfl rfl (d11.num 8 h512 (by decide)) ?_
    rintro _ w15 ⟨rfl, d12⟩
    refine OW.val rfl rfl (EX.assign rfl) ?_
    refine OW.nil ?_
    refine KW.seq (KW.region ?_)
    refine OW.val rfl rfl (EX.move rfl) ?_
    have hl1 : (sl s (0 + 100 + 8 + 8 + 8 + 12 + 12 + 8) 1).length = 1 := by unfold sl; rw [List.length_take, List.length_drop]; omega
    have hl1' : (sl s 156 1).length = 1 := hl1
    refine OW.callV rfl rfl rfl rfl rfl (d12.raw 1 h512 (by decide)) ?_
    rintro _ w16 ⟨rfl, d13⟩
    refine OW.val rfl rfl (EX.indexS (i := 0) Tryd.underlying9 rfl rfl (List.getElem?_eq_getElem (by omega))) ?_
    refine OW.val rfl rfl (EX.fieldAddr (off := 2) Tryd.underlying45 rfl rfl ti5 rfl rfl) ?_
    refine OW.storeB rfl ti5 rfl rfl (by first | rfl | assumption | exact Own.one (by assumption)) (d13.h) (of_decide_eq_true rfl) ?_
    rintro w17 hh17 hm17
    refine OW.nil ?_
    refine KW.seq (KW.region ?_)
    refine OW.val rfl rfl (EX.move rfl) ?_
    have d14 := d13.put hh17 hm17
    refine OW.callV rfl rfl rfl rfl rfl (d14.raw 100 h512 (by decide)) ?_
    rintro _ w18 ⟨rfl, d15⟩
    refine OW.call rfl rfl rfl (cut_s (sl s 157 100) (by have := sl_len h512 157 100; omega) w18) ?_
    rintro _ _ ⟨rfl, rfl⟩
    refine OW.val rfl rfl (EX.fieldAddr (off := 5) Tryd.underlying45 rfl rfl ti9 rfl rfl) ?_
    refine OW.storeB rfl ti9 rfl rfl (by first | rfl | assumption | exact Own.one (by assumption)) (d15.h) (of_decide_eq_true rfl) ?_
    rintro w19 hh19 hm19
    refine OW.nil ?_
    refine KW.seq (KW.region ?_)
    refine OW.val rfl rfl (EX.move rfl) ?_
    have d16 := d15.put hh19 hm19
    refine OW.callV rfl rfl rfl rfl rfl (d16.raw 8 h512 (by decide)) ?_
    rintro _ w20 ⟨rfl, d17⟩
    refine OW.val rfl rfl (EX.assign rfl) ?_
    refine OW.nil ?_
    refine KW.seq (KW.region ?_)
    refine OW.val rfl rfl (EX.move rfl) ?_
    refine OW.callV rfl rfl rfl rfl rfl (d17.raw 32 h512 (by decide)) ?_
    rintro _ w21 ⟨rfl, d18⟩
    refine OW.call rfl rfl rfl (cut_s (sl s 265 32) (by have := sl_len h512 265 32; omega) w21) ?_
    rintro _ _ ⟨rfl, rfl⟩
    refine OW.val rfl rfl (EX.move rfl) ?_
    refine OW.callV rfl rfl rfl rfl rfl (d18.raw 32 h512 (by decide)) ?_
    rintro _ w22 ⟨rfl, d19⟩
    refine OW.call rfl rfl rfl (cut_s (sl s 297 32) (by have := sl_len h512 297 32; omega) w22) ?_
    rintro _ _ ⟨rfl, rfl⟩
    refine OW.val rfl rfl (EX.fieldAddr (off := 6) Tryd.underlying45 rfl rfl ti42 rfl rfl) ?_
    refine OW.val rfl rfl (by first | exact EX.indexAddrA0 (i := 0) Tryd.underlying42 ti9 rfl rfl (by omega) | exact EX.indexAddrA1 (i := 0) Tryd.underlying42 ti9 rfl rfl (by omega)) ?_
    refine OW.storeB rfl ti9 rfl rfl (by first | rfl | assumption | exact Own.one (by assumption)) (d19.h) (of_decide_eq_true rfl) ?_
    rintro w23 hh23 hm23
    refine OW.val rfl rfl (EX.fieldAddr (off := 6) Tryd.underlying45 rfl rfl ti42 rfl rfl) ?_
    refine OW.val rfl rfl (by first | exact EX.indexAddrA0 (i := 1) Tryd.underlying42 ti9 rfl rfl (by omega) | exact EX.indexAddrA1 (i := 1) Tryd.underlying42 ti9 rfl rfl (by omega)) ?_
    have d20 := d19.put hh23 hm23
    refine OW.storeB rfl ti9 rfl rfl (by first | rfl | assumption | exact Own.one (by assumption)) (d20.h) (of_decide_eq_true rfl) ?_
    rintro w24 hh24 hm24
    refine OW.nil ?_
    refine KW.seq (KW.region ?_)
    refine OW.val rfl rfl (EX.move rfl) ?_
    have d21 := d20.put hh24 hm24
    refine OW.callV rfl rfl rfl rfl rfl (d21.raw 16 h512 (by decide)) ?_
    rintro _ w25 ⟨rfl, d22⟩
    refine OW.nil ?_
    refine KW.seq (KW.region ?_)
    refine OW.val rfl rfl (EX.move rfl) ?_
    refine OW.callV rfl rfl rfl rfl rfl (d22.raw 155 h512 (by decide)) ?_
    rintro _ w26 ⟨rfl, d23⟩
    refine OW.call rfl rfl rfl (cut_s (sl s 345 155) (by have := sl_len h512 345 155; omega) w26) ?_
    rintro _ _ ⟨rfl, rfl⟩
    refine OW.val rfl rfl (EX.assign rfl) ?_
    refine OW.nil ?_
    refine KW.seq (KW.region ?_)
    refine OW.val rfl rfl (EX.move rfl) ?_
    refine OW.val rfl rfl (EX.fieldAddr (off := 0) Tryd.underlying45 rfl rfl ti9 rfl rfl) ?_
    refine OW.storeB rfl ti9 rfl rfl (by first | rfl | assumption | exact Own.one (by assumption)) (d23.h) (of_decide_eq_true rfl) ?_
    rintro w27 hh27 hm27
    refine OW.nil ?_
    refine KW.seq (KW.seq (KW.region ?_))
    refine OW.val rfl rfl (EX.move rfl) ?_
    refine OW.val rfl rfl (EX.neqS (r := []) rfl rfl) ?_
    refine OW.nil ?_
    have d24 := d23.put hh27 hm27
    have hx0 : (sl s 156 1)[0] = s.getD 156 0 := by
      unfold sl
      simp [List.getD_eq_getElem?_getD, h512]
    obtain ⟨bad, hbad, d25⟩ : ∃ bad, (bad = false ↔ (num (sl s 100 8)).2 = 0 ∧ (num (sl s 108 8)).2 = 0 ∧ (num (sl s 116 8)).2 = 0 ∧ (num (sl s 124 12)).2 = 0 ∧ (num (sl s 136 12)).2 = 0 ∧ (num (sl s 148 8)).2 = 0) ∧ Dc w w27 rb cb hb (s.drop 500) bad (Hd.cells ⟨cut (sl s 0 100), (num (sl s 124 12)).1, ((sl s 156 1)[0]).toNat, (num (sl s 100 8)).1, (num (sl s 136 12)).1, cut (sl s 157 100), cut (sl s 265 32), cut (sl s 297 32), (num (sl s 108 8)).1, (num (sl s 116 8)).1⟩) := ⟨_, by simp [and_assoc], d24⟩
    rw [hx0] at d25
    have hpn := cut_le (sl s 0 100)
    have hpp := cut_le (sl s 345 155)
    have hsl1 := sl_len h512 0 100
    have hsl2 := sl_len h512 345 155
    refine KW.cut1 (fun (wr : World) => Dc w wr rb cb hb (s.drop 500) bad (Hd.cells ⟨pathD s, (num (sl s 124 12)).1, (s.getD 156 0).toNat, (num (sl s 100 8)).1, (num (sl s 136 12)).1, cut (sl s 157 100), cut (sl s 265 32), cut (sl s 297 32), (num (sl s 108 8)).1, (num (sl s 116 8)).1⟩)) (fun (wr : World) => [(0, str (s)), (2, .pointer (some ⟨rb, 0, none⟩)), (4, .pointer (some ⟨cb, 0, none⟩)), (7, .pointer (some ⟨hb, 0, none⟩)), (9, .int .i64 (((num (sl s 148 8)).1 : Nat) : Int)), (10, str ((sl s 257 8)))]) (fun (wr : World) => wr) ?_ ?_
    · refine KW.condD rfl (fun hpre => ?_) (fun hpre => ?_)
      · refine KW.region ?_
        refine OW.val rfl rfl (EX.move rfl) ?_
        refine OW.val rfl rfl (EX.addS (r := [47]) rfl rfl (by first | omega | (simp only [List.length_append, List.length_cons, List.length_nil, List.length_take, List.length_drop, List.length_replicate]; omega))) ?_
        refine OW.val rfl rfl (EX.move rfl) ?_
        refine OW.val rfl rfl (EX.addS rfl rfl (by first | omega | (simp only [List.length_append, List.length_cons, List.length_nil, List.length_take, List.length_drop, List.length_replicate]; omega))) ?_
        refine OW.val rfl rfl (EX.fieldAddr (off := 0) Tryd.underlying45 rfl rfl ti9 rfl rfl) ?_
        refine OW.storeB rfl ti9 rfl rfl (by first | rfl | assumption | exact Own.one (by assumption)) (d25.h) (of_decide_eq_true rfl) ?_
        rintro w28 hh28 hm28
        refine OW.nil ?_
        refine KW.meet1 (w28) ⟨rfl, rfl, rfl, rfl, rfl, rfl, trivial⟩ rfl ?_
        have e : pathD s = cut (sl s 345 155) ++ [47] ++ cut (sl s 0 100) := by unfold pathD; rw [if_pos hpre]
        rw [e]
        exact d25.put hh28 hm28
      · refine KW.skip ?_
        refine KW.meet1 (w27) ⟨rfl, rfl, rfl, rfl, rfl, rfl, trivial⟩ rfl ?_
        have e : pathD s = cut (sl s 0 100) := by unfold pathD; rw [if_neg hpre]
        rw [e]
        exact d25
    · rintro wr e0
      refine KW.seq (KW.seq (KW.region ?_))
      refine OW.val rfl rfl (EX.fieldAddr (off := 2) Tryd.underlying45 rfl rfl ti5 rfl rfl) ?_
      refine OW.val rfl rfl (EX.load Tryd.underlying5 rfl rfl (e0.h.cell_of rfl)) ?_
      refine OW.val rfl rfl (by first | exact EX.eqlN (b := 0) rfl rfl | exact EX.eqlZ rfl rfl) ?_
      refine OW.nil ?_
      refine KW.cut1 (fun (wq : World) => Dc w wq rb cb hb (s.drop 500) bad (hdD s).cells) (fun (wq : World) => [(0, str (s)), (2, .pointer (some ⟨rb, 0, none⟩)), (4, .pointer (some ⟨cb, 0, none⟩)), (7, .pointer (some ⟨hb, 0, none⟩)), (9, .int .i64 (((num (sl s 148 8)).1 : Nat) : Int)), (10, str ((sl s 257 8)))]) (fun (wq : World) => wq) ?_ ?_
      · refine KW.condD rfl (fun hk0 => ?_) (fun hk0 => ?_)
        · refine KW.region ?_
          refine OW.val rfl rfl (EX.fieldAddr (off := 2) Tryd.underlying45 rfl rfl ti5 rfl rfl) ?_
          refine OW.storeB rfl ti5 rfl rfl (by first | rfl | assumption | exact Own.one (by assumption)) (e0.h) (of_decide_eq_true rfl) ?_
          rintro w29 hh29 hm29
          refine OW.nil ?_
          refine KW.meet1 (w29) ⟨rfl, rfl, rfl, rfl, rfl, rfl, trivial⟩ rfl ?_
          have e : kindD s = 48 := by unfold kindD; rw [if_pos (by omega)]
          unfold hdD
          rw [e]
          exact e0.put hh29 hm29
        · refine KW.skip ?_
          refine KW.meet1 (wr) ⟨rfl, rfl, rfl, rfl, rfl, rfl, trivial⟩ rfl ?_
          have e : kindD s = (s.getD 156 0).toNat := by unfold kindD; rw [if_neg (by omega)]
          unfold hdD
          rw [e]
          exact e0
      · rintro wq f0
        have hsum : sum s = (sumTo s 512, 0) := by unfold sum; rw [if_neg (by omega)]
        have cs := sum_s s hs wq
        rw [hsum] at cs
        have bye : ∀ (w' : World), Bk w' rb 45 hd0.cells → Mo wq w' [rb] → Ext w w' := fun w' _ hm => below_mo f0.x hm f0.x.size (fun k hk => by simp at hk; subst hk; exact f0.rlo)
        refine KW.seq (KW.seq (KW.region ?_))
        refine OW.val rfl rfl (EX.move rfl) ?_
        refine OW.call rfl rfl rfl (cs) ?_
        rintro _ _ ⟨rfl, rfl⟩
        refine OW.val rfl rfl (EX.move rfl) ?_
        refine OW.val rfl rfl (EX.extract rfl rfl) ?_
        refine OW.val rfl rfl (EX.extract rfl rfl) ?_
        refine OW.val rfl rfl (EX.assign rfl) ?_
        refine OW.val rfl rfl (EX.assign rfl) ?_
        refine OW.nil ?_
        refine KW.seq ?_
        rcases bad with _ | _
        · obtain ⟨b1, b2, b3, b4, b5, b6⟩ := hbad.1 rfl
          refine KW.region ?_
          refine OW.val rfl rfl (EX.move rfl) ?_
          refine OW.val rfl rfl (EX.nilCheck rfl) ?_
          refine OW.val rfl rfl (EX.fieldAddr (off := 1) Tryd.underlying108 rfl rfl ti4 rfl rfl) ?_
          refine OW.val rfl rfl (EX.load Tryd.underlying4 rfl rfl (f0.c.cell_of rfl)) ?_
          refine OW.val rfl rfl (EX.move rfl) ?_
          refine OW.val rfl rfl (EX.move rfl) ?_
          refine OW.val rfl rfl (EX.move rfl) ?_
          refine OW.val rfl rfl (by first | exact EX.neqN rfl rfl | exact EX.neqZ rfl rfl) ?_
          refine OW.val rfl rfl (EX.pickF rfl rfl) ?_
          refine OW.val rfl rfl (EX.move rfl) ?_
          refine OW.splitD 99 rfl (fun c1 => ?_) (fun c1 => ?_)
          · refine OW.pass rfl rfl ?_
            refine OW.pass rfl rfl ?_
            refine OW.val rfl rfl (EX.pickT rfl rfl) ?_
            refine OW.val rfl rfl (EX.move rfl) ?_
            refine OW.pass rfl rfl ?_
            refine OW.pass rfl rfl ?_
            refine OW.pass rfl rfl ?_
            refine OW.val rfl rfl (EX.pickT rfl rfl) ?_
            refine OW.nil ?_
            refine KW.condT rfl (KW.seq (KW.region ?_))
            refine OW.val rfl rfl (EX.buildS (pl := [(0, 1), (1, 1), (2, 1), (3, 1), (4, 1), (5, 1), (6, 2), (8, 2)]) (ks := []) (is := []) (zs := [str [], .int .i64 0, .int .u8 0, .int .i64 0, .int .i64 0, str [], str [], str [], .int .i64 0, .int .i64 0]) Tryd.underlying45 ti45 (by kernel_rfl) rfl rfl rfl (by first | rfl | (simp only [List.all_cons, List.all_nil, Bool.and_true, Bool.true_and, Bool.and_eq_true, Value.oneCell']; repeat (first | assumption | exact Own.one (by assumption) | constructor))) (by simp only [setAll, List.set_cons_zero, List.set_cons_succ]; rfl)) ?_
            refine OW.storeS rfl ti45 rfl rfl rfl (by first | rfl | (simp only [List.all_cons, List.all_nil, Bool.and_true, Bool.true_and, Bool.and_eq_true, Value.oneCell']; repeat (first | assumption | exact Own.one (by assumption) | constructor))) (f0.r) (Nat.le_refl _) ?_
            rintro w30 hr30 hm30
            refine OW.val rfl rfl (EX.assign rfl) ?_
            refine OW.nil ?_
            refine KW.ret (retC2 rfl Tryd.underlying45 rfl ti45 rfl rfl (hr30) rfl ?_)
            rw [dec_no fun h => c1 (by have := h.sums; omega)]
            exact ⟨rfl, bye _ hr30 hm30⟩
          · refine OW.val rfl rfl (EX.move rfl) ?_
            refine OW.val rfl rfl (EX.neqS (r := [117, 115, 116, 97, 114, 0, 48, 48]) rfl rfl) ?_
            refine OW.val rfl rfl (EX.pickF rfl rfl) ?_
            refine OW.val rfl rfl (EX.move rfl) ?_
            refine OW.splitD 103 rfl (fun c2 => ?_) (fun c2 => ?_)
            · refine OW.pass rfl rfl ?_
              refine OW.pass rfl rfl ?_
              refine OW.pass rfl rfl ?_
              refine OW.val rfl rfl (EX.pickT rfl rfl) ?_
              refine OW.nil ?_
              refine KW.condT rfl (KW.seq (KW.region ?_))
              refine OW.val rfl rfl (EX.buildS (pl := [(0, 1), (1, 1), (2, 1), (3, 1), (4, 1), (5, 1), (6, 2), (8, 2)]) (ks := []) (is := []) (zs := [str [], .int .i64 0, .int .u8 0, .int .i64 0, .int .i64 0, str [], str [], str [], .int .i64 0, .int .i64 0]) Tryd.underlying45 ti45 (by kernel_rfl) rfl rfl rfl (by first | rfl | (simp only [List.all_cons, List.all_nil, Bool.and_true, Bool.true_and, Bool.and_eq_true, Value.oneCell']; repeat (first | assumption | exact Own.one (by assumption) | constructor))) (by simp only [setAll, List.set_cons_zero, List.set_cons_succ]; rfl)) ?_
              refine OW.storeS rfl ti45 rfl rfl rfl (by first | rfl | (simp only [List.all_cons, List.all_nil, Bool.and_true, Bool.true_and, Bool.and_eq_true, Value.oneCell']; repeat (first | assumption | exact Own.one (by assumption) | constructor))) (f0.r) (Nat.le_refl _) ?_
              rintro w30 hr30 hm30
              refine OW.val rfl rfl (EX.assign rfl) ?_
              refine OW.nil ?_
              refine KW.ret (retC2 rfl Tryd.underlying45 rfl ti45 rfl rfl (hr30) rfl ?_)
              rw [dec_no fun h => c2 h.magic]
              exact ⟨rfl, bye _ hr30 hm30⟩
            · refine OW.val rfl rfl (EX.fieldAddr (off := 0) Tryd.underlying45 rfl rfl ti9 rfl rfl) ?_
              refine OW.val rfl rfl (EX.load Tryd.underlying9 rfl rfl (f0.h.cell_of rfl)) ?_
              refine OW.val rfl rfl (EX.eqlS (r := []) rfl rfl) ?_
              refine OW.val rfl rfl (EX.pickF rfl rfl) ?_
              refine OW.nil ?_
              refine KW.condD rfl (fun c3 => ?_) (fun c3 => ?_)
              · refine KW.seq (KW.region ?_)
                refine OW.val rfl rfl (EX.buildS (pl := [(0, 1), (1, 1), (2, 1), (3, 1), (4, 1), (5, 1), (6, 2), (8, 2)]) (ks := []) (is := []) (zs := [str [], .int .i64 0, .int .u8 0, .int .i64 0, .int .i64 0, str [], str [], str [], .int .i64 0, .int .i64 0]) Tryd.underlying45 ti45 (by kernel_rfl) rfl rfl rfl (by first | rfl | (simp only [List.all_cons, List.all_nil, Bool.and_true, Bool.true_and, Bool.and_eq_true, Value.oneCell']; repeat (first | assumption | exact Own.one (by assumption) | constructor))) (by simp only [setAll, List.set_cons_zero, List.set_cons_succ]; rfl)) ?_
                refine OW.storeS rfl ti45 rfl rfl rfl (by first | rfl | (simp only [List.all_cons, List.all_nil, Bool.and_true, Bool.true_and, Bool.and_eq_true, Value.oneCell']; repeat (first | assumption | exact Own.one (by assumption) | constructor))) (f0.r) (Nat.le_refl _) ?_
                rintro w30 hr30 hm30
                refine OW.val rfl rfl (EX.assign rfl) ?_
                refine OW.nil ?_
                refine KW.ret (retC2 rfl Tryd.underlying45 rfl ti45 rfl rfl (hr30) rfl ?_)
                rw [dec_no fun h => h.path c3]
                exact ⟨rfl, bye _ hr30 hm30⟩
              · have ok : OkD s := ⟨h512, Classical.not_not.1 c2, b1, b2, b3, b4, b5, b6, by omega, c3⟩
                refine KW.skip (KW.seq (KW.region ?_))
                refine OW.val rfl rfl (EX.loadBk Tryd.underlying45 rfl ti45 rfl (f0.h) (rfl)) ?_
                refine OW.storeS rfl ti45 rfl rfl rfl (by first | rfl | (simp only [List.all_cons, List.all_nil, Bool.and_true, Bool.true_and, Bool.and_eq_true, Value.oneCell']; repeat (first | assumption | exact Own.one (by assumption) | constructor))) (f0.r) (Nat.le_refl _) ?_
                rintro w30 hr30 hm30
                refine OW.val rfl rfl (EX.assign rfl) ?_
                refine OW.nil ?_
                refine KW.ret (retC2 rfl Tryd.underlying45 rfl ti45 rfl rfl (hr30) rfl ?_)
                rw [dec_yes ok]
                exact ⟨rfl, below_mo f0.x hm30 f0.x.size (fun k hk => by simp at hk; subst hk; exact f0.rlo)⟩
        · refine KW.region ?_
          refine OW.val rfl rfl (EX.move rfl) ?_
          refine OW.val rfl rfl (EX.nilCheck rfl) ?_
          refine OW.val rfl rfl (EX.fieldAddr (off := 1) Tryd.underlying108 rfl rfl ti4 rfl rfl) ?_
          refine OW.val rfl rfl (EX.load Tryd.underlying4 rfl rfl (f0.c.cell_of rfl)) ?_
          refine OW.val rfl rfl (EX.move rfl) ?_
          refine OW.pass rfl rfl ?_
          refine OW.pass rfl rfl ?_
          refine OW.pass rfl rfl ?_
          refine OW.val rfl rfl (EX.pickT rfl rfl) ?_
          refine OW.val rfl rfl (EX.move rfl) ?_
          refine OW.pass rfl rfl ?_
          refine OW.pass rfl rfl ?_
          refine OW.val rfl rfl (EX.pickT rfl rfl) ?_
          refine OW.val rfl rfl (EX.move rfl) ?_
          refine OW.pass rfl rfl ?_
          refine OW.pass rfl rfl ?_
          refine OW.pass rfl rfl ?_
          refine OW.val rfl rfl (EX.pickT rfl rfl) ?_
          refine OW.nil ?_
          refine KW.condT rfl (KW.seq (KW.region ?_))
          refine OW.val rfl rfl (EX.buildS (pl := [(0, 1), (1, 1), (2, 1), (3, 1), (4, 1), (5, 1), (6, 2), (8, 2)]) (ks := []) (is := []) (zs := [str [], .int .i64 0, .int .u8 0, .int .i64 0, .int .i64 0, str [], str [], str [], .int .i64 0, .int .i64 0]) Tryd.underlying45 ti45 (by kernel_rfl) rfl rfl rfl (by first | rfl | (simp only [List.all_cons, List.all_nil, Bool.and_true, Bool.true_and, Bool.and_eq_true, Value.oneCell']; repeat (first | assumption | exact Own.one (by assumption) | constructor))) (by simp only [setAll, List.set_cons_zero, List.set_cons_succ]; rfl)) ?_
          refine OW.storeS rfl ti45 rfl rfl rfl (by first | rfl | (simp only [List.all_cons, List.all_nil, Bool.and_true, Bool.true_and, Bool.and_eq_true, Value.oneCell']; repeat (first | assumption | exact Own.one (by assumption) | constructor))) (f0.r) (Nat.le_refl _) ?_
          rintro w30 hr30 hm30
          refine OW.val rfl rfl (EX.assign rfl) ?_
          refine OW.nil ?_
          refine KW.ret (retC2 rfl Tryd.underlying45 rfl ti45 rfl rfl (hr30) rfl ?_)
          rw [dec_no fun h => by
            have := hbad.2 ⟨h.mode, h.i0, h.i1, h.size, h.time, h.sum⟩
            cases this]
          exact ⟨rfl, bye _ hr30 hm30⟩
theorem zero_c (s : List UInt8) (w : World) : Ret Tryd.prog 72 [str s, str [0]] w fun v w' => v = .int .i64 ((Lib.countByte s 0 : Nat) : Int) ∧ w' = w :=
  Ret.of_calls Tryd.func72 (by kernel_rfl) (Tryd.strings_Count_one ⟨⟨s⟩⟩ 0 w)
theorem zero_s (s : List UInt8) (w : World) : Ret Tryd.prog 53 [str s] w fun v w' => v = .bool (zeroH s) ∧ w = w' := by
  refine Ret.enter Tryd.func53 rfl Tryd.ntmps53 (by kernel_rfl) rfl ?_
  refine KW.seq (KW.region ?_)
  refine OW.val rfl rfl (EX.assign rfl) ?_
  refine OW.nil ?_
  refine KW.seq ?_
  refine KW.region ?_
  refine OW.val rfl rfl (EX.move rfl) ?_
  refine OW.val rfl rfl (EX.lenS Tryd.underlying9 rfl) ?_
  refine OW.val rfl rfl (by first | exact EX.eqlN (b := 512) rfl rfl | exact EX.eqlZ rfl rfl) ?_
  refine OW.val rfl rfl (EX.move rfl) ?_
  refine OW.splitD 6 rfl (fun h1 => ?_) (fun h1 => ?_)
  · refine OW.val rfl rfl (EX.move rfl) ?_
    refine OW.call rfl rfl rfl (zero_c s w) ?_
    rintro _ w ⟨rfl, rfl⟩
    refine OW.val rfl rfl (by first | exact EX.eqlN (b := 512) rfl rfl | exact EX.eqlZ rfl rfl) ?_
    refine OW.val rfl rfl (EX.pickT rfl rfl) ?_
    refine OW.val rfl rfl (EX.assign rfl) ?_
    refine OW.nil ?_
    refine KW.ret (ret1 rfl rfl ?_)
    refine ⟨congrArg Value.bool (decide_eq_decide.2 ?_), rfl⟩
    have h512 : s.length = 512 := by omega
    rw [show (Lib.countByte s 0 = 512) ↔ s.count 0 = s.length by unfold Lib.countByte; omega, List.count_eq_length]
    exact ⟨fun h => ⟨h512, fun c hc => (h c hc).symm⟩, fun h c hc => (h.2 c hc).symm⟩
  · refine OW.pass rfl rfl ?_
    refine OW.pass rfl rfl ?_
    refine OW.pass rfl rfl ?_
    refine OW.val rfl rfl (EX.pickF rfl rfl) ?_
    refine OW.val rfl rfl (EX.assign rfl) ?_
    refine OW.nil ?_
    refine KW.ret (ret1 rfl rfl ?_)
    exact ⟨congrArg Value.bool (decide_eq_false (fun h => h1 (by omega))).symm, rfl⟩
end Go.Proofs.YtjgeoeeikfjmdaaDoor
/- ustar: headers are laid, by the document. -/
namespace Go.Proofs.YtjgeoeeikfjmdaaDoor
set_option linter.unnecessarySimpa false
open Go.RowKit Fld Ust
set_option linter.unusedVariables false
set_option linter.unusedSimpArgs false

theorem RetQ.of {P : Program} {f : FuncId} {args : List Value} {w : World} {v : Value} (h : Ret P f args w fun v' w' => v' = v ∧ w = w') : RetQ P f args w v :=
  h.mono fun _ _ ⟨h1, h2⟩ => ⟨h1, 0, by subst h2; rfl⟩
/-- what the document asks of a head -/
def MayR (h : Hd) : Prop := May h ∧ h.path.length ≤ 1099511627776
instance (h : Hd) : Decidable (MayR h) := by unfold MayR; infer_instance
def txts (h : Hd) : List (List UInt8) := [h.path, h.link, h.n0, h.n1]
def mosts : List Nat := [1099511627776, 100, 31, 31]
def smalls (h : Hd) : List Int := [h.mode, h.i0, h.i1]
theorem mayR_of {h : Hd} (hk : mayK h.kind) (ht : ∀ j, j < 4 → ∀ t m, (txts h)[j]? = some t → mosts[j]? = some m → mayT t m) (hs : ∀ j, j < 3 → ∀ n, (smalls h)[j]? = some n → mayN n 2097151) (h1 : mayN h.size 8589934591) (h2 : mayN h.time 8589934591) : MayR h :=
  ⟨⟨hk, (ht 0 (by decide) _ _ rfl rfl).2, ht 1 (by decide) _ _ rfl rfl, ht 2 (by decide) _ _ rfl rfl, ht 3 (by decide) _ _ rfl rfl, hs 0 (by decide) _ rfl, hs 1 (by decide) _ rfl, hs 2 (by decide) _ rfl, h1, h2⟩, (ht 0 (by decide) _ _ rfl rfl).1⟩
theorem mayR_txt {h : Hd} (hm : MayR h) : ∀ j, j < 4 → ∀ t m, (txts h)[j]? = some t → mosts[j]? = some m → mayT t m := by
  intro j hj t m ht hm'
  have : j = 0 ∨ j = 1 ∨ j = 2 ∨ j = 3 := by omega
  rcases this with rfl | rfl | rfl | rfl <;> cases ht <;> cases hm'
  · exact ⟨hm.2, hm.1.path⟩
  · exact hm.1.link
  · exact hm.1.n0
  · exact hm.1.n1
theorem mayR_small {h : Hd} (hm : MayR h) : ∀ j, j < 3 → ∀ n, (smalls h)[j]? = some n → mayN n 2097151 := by
  intro j hj n hn
  have : j = 0 ∨ j = 1 ∨ j = 2 := by omega
  rcases this with rfl | rfl | rfl <;> cases hn
  · exact hm.1.mode
  · exact hm.1.i0
  · exact hm.1.i1
theorem lay_nil (n : Nat) : lay [] n = nul n := by simp [lay]
end Go.Proofs.YtjgeoeeikfjmdaaDoor
/- The engine's laws for arrays of two within structs: they are built, and compared. No program is spoken of. -/
namespace Go.Proofs.YtjgeoeeikfjmdaaDoor
set_option linter.unnecessarySimpa false
open Go.RowKit
set_option linter.unusedSimpArgs false
set_option linter.unusedVariables false
section
variable {P : Program} {n : Nat} {σ : Sig} {w : World} {x y : Operand} {t e ty T T' : TypeId} {b o : Nat} {z v : Value} {s bs : Nat} {l : List Value}
theorem EX.buildA {m : Nat} {parts : Array (Nat × Operand)} {ks : List Nat} {vs zs : List Value} {s' bs' : Nat} {z' : Value} (hu : P.underlying t = some (.array m e)) (hi : TI P t (.agg zs.toArray) s bs) (he : TI P e z' s' bs')
    (hk : parts.toList.map (·.1) = ks) (hv : evs σ (parts.toList.map (·.2)) = some vs) (hf : Instr.fill (fun i => some (i * s', s')) zs.toArray (ks.zip vs) = some l.toArray) :
    EX P n σ (.build t parts) ty w (.agg l.toArray) w := fun A ha dst pos after g => by
  have hev := ha.evs hv
  have hpv : (parts.map fun (p : Nat × Operand) => (p.1, A.eval p.2)).toList = ks.zip vs := by
    rw [← hk, ← hev]
    simp only [Array.toList_map, List.map_map, List.zip_map']
    rfl
  simp only [execOp, Instr.build, Sem.run_bind, run_zeroValue hi, Result.andThen_ok, run_underlying hu, run_sizeOf he]
  rw [show (parts.map fun (x : Nat × Operand) => match x with | (i, x) => (i, A.eval x)).toList = ks.zip vs from hpv]
  rw [show ((Value.agg zs.toArray).cells) = zs.toArray from rfl, hf]
  rfl
theorem EX.buildA2 {zs : List Value} {bs' : Nat} {z' u0 u1 : Value} (hu : P.underlying t = some (.array 2 e)) (hi : TI P t (.agg zs.toArray) 2 bs) (he : TI P e z' 1 bs') (hz : zs.length = 2) (hx : ev σ x = some u0) (hy : ev σ y = some u1) (h0 : u0.oneCell' = true) (h1 : u1.oneCell' = true) :
    EX P n σ (.build t #[(0, x), (1, y)]) ty w (.agg [u0, u1].toArray) w := by
  match zs, hz with
  | [a, b], _ =>
    refine EX.buildA (ks := [0, 1]) (vs := [u0, u1]) hu hi he rfl (by simp [evs, hx, hy]) ?_
    simp [Instr.fill, oneCell_cells h0, oneCell_cells h1]
/-- a struct's cells where some parts are given -/
def fillL (pl : List (Nat × Nat)) : List Value → List (Nat × List Value) → List Value
  | zs, [] => zs
  | zs, (i, cs) :: r => fillL pl (zs.take (pl.getD i (0, 0)).1 ++ (cs ++ zs.drop ((pl.getD i (0, 0)).1 + cs.length))) r
def fitL (pl : List (Nat × Nat)) (n : Nat) : List (Nat × Nat) → Bool
  | [] => true
  | (i, c) :: r => Nat.blt i pl.length && (pl.getD i (0, 0)).2 == c && Nat.ble ((pl.getD i (0, 0)).1 + c) n && fitL pl n r
theorem fold_in (off : Nat) : ∀ (vs : List Value) (k : Nat) (zs : List Value), off + k + vs.length ≤ zs.length →
    (vs.zipIdx k).foldl (fun (cs : Array Value) (x : Value × Nat) => cs.setIfInBounds (off + x.2) x.1) zs.toArray = (zs.take (off + k) ++ (vs ++ zs.drop (off + k + vs.length))).toArray
  | [], k, zs, _ => by simp
  | v :: vs, k, zs, h => by
    have hlt : off + k < zs.length := by simp at h; omega
    have hset : zs.toArray.setIfInBounds (off + k) v = (zs.set (off + k) v).toArray := by simp
    simp only [List.zipIdx_cons, List.foldl_cons, hset]
    rw [fold_in off vs (k + 1) (zs.set (off + k) v) (by simp at h ⊢; omega)]
    congr 1
    have e1 : (zs.set (off + k) v).take (off + (k + 1)) = zs.take (off + k) ++ [v] := by
      rw [show off + (k + 1) = off + k + 1 by omega, List.take_add_one, List.getElem?_set_self hlt, List.take_set_of_le (by omega)]
      rfl
    have e2 : (zs.set (off + k) v).drop (off + (k + 1) + vs.length) = zs.drop (off + k + (v :: vs).length) := by
      rw [List.drop_set_of_lt (by omega)]
      congr 1
      simp; omega
    rw [e1, e2]
    simp
theorem fill_L {pl : List (Nat × Nat)} : ∀ (ks : List Nat) (vs : List Value) (css : List (List Value)) (zs : List Value), vs.map (fun v => v.cells.toList) = css → fitL pl zs.length (ks.zip (css.map List.length)) = true → ks.length = vs.length →
    Instr.fill (pl.toArray[·]?) zs.toArray (ks.zip vs) = some (fillL pl zs (ks.zip css)).toArray
  | [], [], css, zs, hc, _, _ => by subst hc; simp [Instr.fill, fillL]
  | k :: ks, v :: vs, css, zs, hc, hf, hl => by
    subst hc
    simp only [List.map_cons, List.zip_cons_cons, fitL, Bool.and_eq_true, beq_iff_eq, Nat.blt_eq, Nat.ble_eq] at hf
    obtain ⟨⟨⟨f1, f2⟩, f3⟩, f4⟩ := hf
    have hg : pl.toArray[k]? = some (pl.getD k (0, 0)) := by simp [List.getD_eq_getElem?_getD, f1]
    simp only [List.zip_cons_cons, List.map_cons, Instr.fill, hg, fillL]
    generalize pl.getD k (0, 0) = q at f2 f3
    obtain ⟨off, size⟩ := q
    simp only at f2 f3
    have hcl : v.cells.toList.length = v.cells.size := by simp
    have hn : ¬ (v.cells.size ≠ size ∨ off + v.cells.size > zs.toArray.size) := by simp only [List.size_toArray]; omega
    simp only [ne_eq, Bool.or_eq_true, decide_eq_true_eq]
    rw [if_neg (by simpa using hn)]
    have hz : v.cells.zipIdx.foldl (fun cs (x : Value × Nat) => cs.setIfInBounds (off + x.2) x.1) zs.toArray = (zs.take off ++ (v.cells.toList ++ zs.drop (off + v.cells.toList.length))).toArray := by
      rw [← Array.foldl_toList, Array.toList_zipIdx]
      exact fold_in off v.cells.toList 0 zs (by omega)
    rw [hz]
    refine fill_L ks vs _ _ rfl ?_ (by simpa using hl)
    rw [← f4]
    congr 1
    simp
    omega
  | [], _ :: _, _, _, _, _, h => by simp at h
  | _ :: _, [], _, _, _, _, h => by simp at h
/-- a struct some of whose parts are structs or arrays: what it holds as a list -/
theorem EX.buildH {fs : Array Field} {parts : Array (Nat × Operand)} {pl : List (Nat × Nat)} {ks : List Nat} {vs zs : List Value} {css : List (List Value)} (hu : P.underlying t = some (.struct fs)) (hi : TI P t (.agg zs.toArray) s bs) (hp : places P fs.toList = some pl)
    (hk : parts.toList.map (·.1) = ks) (hv : evs σ (parts.toList.map (·.2)) = some vs) (hc : vs.map (fun v => v.cells.toList) = css) (hf : fitL pl zs.length (ks.zip (css.map List.length)) = true) (hn : ks.length = vs.length) (hl : fillL pl zs (ks.zip css) = l) :
    EX P n σ (.build t parts) ty w (.agg l.toArray) w :=
  EX.buildG hu hi hp hk hv (by rw [fill_L ks vs css zs hc hf hn, hl])
theorem run_eq_arr2 {a0 a1 b0 b1 : Value} {q0 q1 : Bool} {d : TypeDesc} (ht : P.underlying t = some (.array 2 e)) (he : P.underlying e = some d) (hf : flat d = true) (hi : TI P e z 1 bs)
    (h0 : ∀ k, (Op.equalIn (k + 1) e a0 b0).run P w = .ok q0 w) (h1 : ∀ k, (Op.equalIn (k + 1) e a1 b1).run P w = .ok q1 w) (k : Nat) : (Op.equalIn (k + 1 + 1) t (.agg #[a0, a1]) (.agg #[b0, b1])).run P w = .ok (q0 && q1) w := by
  have hr : List.range' 0 2 = [0, 1] := rfl
  rw [Op.equalIn]
  simp only [Sem.run_bind, run_underlying ht, Result.andThen_ok, run_sizeOf hi]
  cases q0 <;> cases q1 <;> simp [Std.Legacy.Range.forIn_eq_forIn_range', Std.Legacy.Range.size, hr, part, run_isAgg he, hf, h0 k, h1 k, Sem.run_bind]
/-- fields that are alike or not, whatever they hold -/
inductive FE (P : Program) (w : World) (xs ys : List Value) : List Field → List Bool → Prop
  | nil : FE P w xs ys [] []
  | cons {f : Field} {fs : List Field} {q : Bool} {qs : List Bool} {u v : Value} (hn : f.name ≠ "_") (hx : (part f.type xs.toArray f.offset).run P w = .ok u w) (hy : (part f.type ys.toArray f.offset).run P w = .ok v w)
      (he : ∀ k, (Op.equalIn (k + 1 + 1 + 1) f.type u v).run P w = .ok q w) (hr : FE P w xs ys fs qs) : FE P w xs ys (f :: fs) (q :: qs)
theorem FE.run {xs ys : List Value} (k : Nat) : ∀ {fs : List Field} {qs : List Bool}, FE P w xs ys fs qs → (Op.eqFields (k + 1 + 1 + 1) xs.toArray ys.toArray fs).run P w = .ok (qs.all id) w
  | _, _, .nil => by simp [Op.eqFields]
  | f :: fs, q :: qs, .cons (u := u) (v := v) hn h1 h2 he hr => by
    have ih := FE.run k hr
    simp only [Op.eqFields]
    rw [if_pos hn]
    simp only [Sem.run_bind, h1, h2, he k, Result.andThen_ok]
    cases q
    · simp
    · simpa using ih
theorem FE.one {f : Field} {fs : List Field} {q : Bool} {qs : List Bool} {xs ys : List Value} {u v : Value} {d : TypeDesc} (hn : f.name ≠ "_") (hd : P.underlying f.type = some d) (hfl : flat d = true) (hx : xs[f.offset]? = some u) (hy : ys[f.offset]? = some v)
    (he : ∀ k, (Op.equalIn (k + 1) f.type u v).run P w = .ok q w) (hr : FE P w xs ys fs qs) : FE P w xs ys (f :: fs) (q :: qs) :=
  .cons hn (by simp [part, Sem.run_bind, run_isAgg hd, hfl, hx]) (by simp [part, Sem.run_bind, run_isAgg hd, hfl, hy]) (fun k => he (k + 1 + 1)) hr
theorem FE.two {f : Field} {fs : List Field} {q0 q1 : Bool} {qs : List Bool} {xs ys : List Value} {a0 a1 b0 b1 : Value} {d : TypeDesc} {bs' : Nat} {z' : Value} (hn : f.name ≠ "_") (hd : P.underlying f.type = some (.array 2 e)) (ht : TI P f.type z' 2 bs') (he : P.underlying e = some d) (hf : flat d = true) (hi : TI P e z 1 bs)
    (hx : (xs.drop f.offset).take 2 = [a0, a1]) (hy : (ys.drop f.offset).take 2 = [b0, b1])
    (h0 : ∀ k, (Op.equalIn (k + 1) e a0 b0).run P w = .ok q0 w) (h1 : ∀ k, (Op.equalIn (k + 1) e a1 b1).run P w = .ok q1 w) (hr : FE P w xs ys fs qs) : FE P w xs ys (f :: fs) ((q0 && q1) :: qs) :=
  .cons hn (by simp [part, Sem.run_bind, run_isAgg hd, flat, run_sizeOf ht, hx]) (by simp [part, Sem.run_bind, run_isAgg hd, flat, run_sizeOf ht, hy]) (fun k => run_eq_arr2 hd he hf hi h0 h1 (k + 1)) hr
theorem FE.str {f : Field} {fs : List Field} {fs' : Array Field} {qs qs' : List Bool} {xs ys us vs : List Value} {m bs' : Nat} {z' : Value} (hn : f.name ≠ "_") (hd : P.underlying f.type = some (.struct fs')) (hp : P.stoodInHeld f.type = false) (ht : TI P f.type z' m bs')
    (hx : (xs.drop f.offset).take m = us) (hy : (ys.drop f.offset).take m = vs) (h : FEqs P w us vs fs'.toList qs') (hr : FE P w xs ys fs qs) : FE P w xs ys (f :: fs) ((qs'.all id) :: qs) := by
  have hf : P.fieldsOf f.type = fs' := by unfold Program.fieldsOf; rw [hd]
  refine .cons (u := .agg us.toArray) (v := .agg vs.toArray) hn (by simp [part, Sem.run_bind, run_isAgg hd, flat, run_sizeOf ht, hx]) (by simp [part, Sem.run_bind, run_isAgg hd, flat, run_sizeOf ht, hy]) (fun k => ?_) hr
  rw [run_equalIn_agg w _ f.type _ _ (by rw [hf]; exact hd) hp, hf, h.run]
theorem EX.eqlV {fs : Array Field} {xs ys : List Value} {qs : List Bool} {r : Bool} (hu : P.underlying t = some (.struct fs)) (hp : P.stoodInHeld t = false) (hm : P.eqGuardType P.depth t = false) (hx : ev σ x = some (.agg xs.toArray)) (hy : ev σ y = some (.agg ys.toArray))
    (h : FE P w xs ys fs.toList qs) (hr : qs.all id = r) : EX P n σ (.binOp .eql t x y T) ty w (.bool r) w := by
  subst hr
  have hf : P.fieldsOf t = fs := by unfold Program.fieldsOf; rw [hu]
  refine EX.bin hx hy (run_eqGuard_agg w _ t x y _ _ hm) ?_
  rw [run_eql_struct, show (10000 : Nat) = 9996 + 1 + 1 + 1 + 1 from rfl, run_equalIn_agg w _ t _ _ (by rw [hf]; exact hu) hp, hf, h.run]
  rfl
theorem EX.neqV {fs : Array Field} {xs ys : List Value} {qs : List Bool} {r : Bool} (hu : P.underlying t = some (.struct fs)) (hp : P.stoodInHeld t = false) (hm : P.eqGuardType P.depth t = false) (hx : ev σ x = some (.agg xs.toArray)) (hy : ev σ y = some (.agg ys.toArray))
    (h : FE P w xs ys fs.toList qs) (hr : (!qs.all id) = r) : EX P n σ (.binOp .neq t x y T) ty w (.bool r) w := by
  subst hr
  have hf : P.fieldsOf t = fs := by unfold Program.fieldsOf; rw [hu]
  refine EX.bin hx hy (run_eqGuard_agg w _ t x y _ _ hm) ?_
  rw [run_neq_struct, show (10000 : Nat) = 9996 + 1 + 1 + 1 + 1 from rfl, run_equalIn_agg w _ t _ _ (by rw [hf]; exact hu) hp, hf, h.run]
  rfl
end
section
variable {P : Program} {R : Act → World → Prop} {k : List KI} {n : Nat} {σ : Sig} {w : World}
theorem pst_goto {l : Nat} : ∀ (k : List KI) (a : Act) (w : World), pst P R k (.goto l) a w → False
  | [], _, _, h => h
  | .code _ :: k, a, w, h => pst_goto k a w h
  | .blk _ :: k, a, w, h => pst_goto k a w h
  | .asr _ :: k, a, w, h => pst_goto k a w h
/-- a scope through which no jump goes -/
theorem KW.scope {c : Code} (h : KW P R (.code c :: k) n σ w) : KW P R (.code (.scope c) :: k) n σ w := fun a ha => by
  refine wp_scope_straight ?_
  intro b k' cs
  obtain ⟨e, a₁, w₁, hq, harr⟩ := h a ha b k' cs
  refine ⟨e, a₁, w₁, ?_, harr⟩
  cases e with
  | goto l => exact pst_goto k _ _ hq
  | normal => exact hq
  | exit id => exact hq
  | ret => exact hq
  | panic ch => exact hq
  | outgrown => exact hq
end
end Go.Proofs.YtjgeoeeikfjmdaaDoor
/- ustar: headers are read, by the document. -/
namespace Go.Proofs.YtjgeoeeikfjmdaaDoor
set_option linter.unnecessarySimpa false
open Go.RowKit Fld Ust
set_option linter.unusedVariables false
set_option linter.unusedSimpArgs false

def atL : List Nat := [100, 108, 116, 124, 136, 148, 156]
def nmb (s : List UInt8) (i : Nat) : Nat × Nat := num (sl s (atL.getD i 0) (atL.getD (i + 1) 0 - atL.getD i 0))
abbrev six (s : List UInt8) : List Value := [.int .i64 (((nmb s 0).1 : Nat) : Int), .int .i64 (((nmb s 1).1 : Nat) : Int), .int .i64 (((nmb s 2).1 : Nat) : Int), .int .i64 (((nmb s 3).1 : Nat) : Int), .int .i64 (((nmb s 4).1 : Nat) : Int), .int .i64 (((nmb s 5).1 : Nat) : Int)]
set_option maxRecDepth 20000 in
theorem rdecode_s (s : List UInt8) (hs : s.length ≤ 140737488355328) (w : World) : Ret Tryd.prog 43 [str s] w fun v w' => v = .tuple #[.agg (decH s).1.cells.toArray, .int .i64 (((decH s).2 : Nat) : Int)] ∧ Ext w w' := by
  refine Ret.enter Tryd.func43 rfl Tryd.ntmps43 (by kernel_rfl) rfl ?_
  refine KW.seq (KW.region ?_)
  refine OW.allocB (l := [str [], .int .i64 0, .int .u8 0, .int .i64 0, .int .i64 0, str [], str [], str [], .int .i64 0, .int .i64 0]) rfl rfl ti45 rfl ?_
  rintro rb w1 hge1 hr1 hx1
  refine OW.val rfl rfl (EX.assign rfl) ?_
  refine OW.nil ?_
  refine KW.seq (KW.seq ?_)
  replace hr1 : Bk w1 rb 45 hd0.cells := hr1
  have bye : ¬ OkD s → ∀ (w' w'' : World), Ext w w' → Mo w' w'' [rb] → (Value.tuple #[.agg hd0.cells.toArray, .int .i64 ((160 : Nat) : Int)] = .tuple #[.agg (decH s).1.cells.toArray, .int .i64 (((decH s).2 : Nat) : Int)] ∧ Ext w w'') := fun hn w' w'' hx hm => by
    rw [dec_no hn]
    exact ⟨rfl, below_mo hx hm hx.size (fun k hk => by simp at hk; omega)⟩
  refine KW.cutd1 (fun (_u : Unit) => s.length = 512 ∧ sl s 257 8 = magic) (fun (_u : Unit) => [(0, str (s)), (2, .pointer (some ⟨rb, 0, none⟩))]) (fun (_u : Unit) => w1) ?_ ?_
  · refine KW.region ?_
    refine OW.val rfl rfl (EX.move rfl) ?_
    refine OW.val rfl rfl (EX.lenS Tryd.underlying9 rfl) ?_
    refine OW.val rfl rfl (by first | exact EX.neqN (b := 512) rfl rfl | exact EX.neqZ rfl rfl) ?_
    refine OW.val rfl rfl (EX.move rfl) ?_
    refine OW.splitD 16 rfl (fun a1 => ?_) (fun a1 => ?_)
    · refine OW.pass rfl rfl ?_
      refine OW.pass rfl rfl ?_
      refine OW.pass rfl rfl ?_
      refine OW.val rfl rfl (EX.pickT rfl rfl) ?_
      refine OW.nil ?_
      refine KW.condT rfl (KW.seq (KW.region ?_))
      refine OW.val rfl rfl (EX.buildS (pl := [(0, 1), (1, 1), (2, 1), (3, 1), (4, 1), (5, 1), (6, 2), (8, 2)]) (ks := []) (is := []) (zs := [str [], .int .i64 0, .int .u8 0, .int .i64 0, .int .i64 0, str [], str [], str [], .int .i64 0, .int .i64 0]) Tryd.underlying45 ti45 (by kernel_rfl) rfl rfl rfl (by first | rfl | (simp only [List.all_cons, List.all_nil, Bool.and_true, Bool.true_and, Bool.and_eq_true, Value.oneCell']; repeat (first | assumption | exact Own.one (by assumption) | constructor))) (by simp only [setAll, List.set_cons_zero, List.set_cons_succ]; rfl)) ?_
      refine OW.storeS rfl ti45 rfl rfl rfl (by first | rfl | (simp only [List.all_cons, List.all_nil, Bool.and_true, Bool.true_and, Bool.and_eq_true, Value.oneCell']; repeat (first | assumption | exact Own.one (by assumption) | constructor))) (hr1) (Nat.le_refl _) ?_
      rintro w2 hr2 hm2
      refine OW.val rfl rfl (EX.assign rfl) ?_
      refine OW.nil ?_
      refine KW.ret (retC2 rfl Tryd.underlying45 rfl ti45 rfl rfl (hr2) rfl ?_)
      exact bye (fun h => a1 (by have := h.len; omega)) _ _ hx1 hm2
    · have h512 : s.length = 512 := by omega
      refine OW.val rfl rfl (EX.move rfl) ?_
      refine OW.val rfl rfl (EX.sliceLH (i := 257) (j := 265) Tryd.underlying9 rfl rfl rfl (by omega)) ?_
      refine OW.val rfl rfl (EX.neqS (r := [117, 115, 116, 97, 114, 0, 48, 48]) rfl rfl) ?_
      refine OW.val rfl rfl (EX.pickF rfl rfl) ?_
      refine OW.nil ?_
      refine KW.condD rfl (fun a2 => ?_) (fun a2 => ?_)
      · refine KW.seq (KW.region ?_)
        refine OW.val rfl rfl (EX.buildS (pl := [(0, 1), (1, 1), (2, 1), (3, 1), (4, 1), (5, 1), (6, 2), (8, 2)]) (ks := []) (is := []) (zs := [str [], .int .i64 0, .int .u8 0, .int .i64 0, .int .i64 0, str [], str [], str [], .int .i64 0, .int .i64 0]) Tryd.underlying45 ti45 (by kernel_rfl) rfl rfl rfl (by first | rfl | (simp only [List.all_cons, List.all_nil, Bool.and_true, Bool.true_and, Bool.and_eq_true, Value.oneCell']; repeat (first | assumption | exact Own.one (by assumption) | constructor))) (by simp only [setAll, List.set_cons_zero, List.set_cons_succ]; rfl)) ?_
        refine OW.storeS rfl ti45 rfl rfl rfl (by first | rfl | (simp only [List.all_cons, List.all_nil, Bool.and_true, Bool.true_and, Bool.and_eq_true, Value.oneCell']; repeat (first | assumption | exact Own.one (by assumption) | constructor))) (hr1) (Nat.le_refl _) ?_
        rintro w2 hr2 hm2
        refine OW.val rfl rfl (EX.assign rfl) ?_
        refine OW.nil ?_
        refine KW.ret (retC2 rfl Tryd.underlying45 rfl ti45 rfl rfl (hr2) rfl ?_)
        exact bye (fun h => a2 h.magic) _ _ hx1 hm2
      · refine KW.skip ?_
        refine KW.meet1 (()) ⟨rfl, rfl, trivial⟩ rfl ?_
        exact ⟨h512, Classical.not_not.1 a2⟩
  · rintro _ ⟨h512, hmg⟩
    refine KW.seq (KW.region ?_)
    refine OW.val rfl rfl (EX.assign rfl) ?_
    refine OW.nil ?_
    refine KW.seq (KW.region ?_)
    refine OW.buildB 7 rfl rfl Tryd.underlying111 ti3 rfl rfl rfl rfl (by first | rfl | (simp only [List.all_cons, List.all_nil, Bool.and_true, Bool.and_eq_true]; assumption)) (by decide) ?_
    rintro ab w2 hge2 ha2 hx2
    refine OW.val rfl rfl (EX.assign rfl) ?_
    refine OW.nil ?_
    refine KW.seq (KW.seq (KW.region ?_))
    refine OW.val rfl rfl (EX.assign rfl) ?_
    refine OW.nil ?_
    refine KW.block ?_
    replace ha2 : Bk w2 ab 3 (ints .i64 atL) := ha2
    have x2 := hx1.trans hx2
    have hr2 := hr1.ext hx2
    have hat : ∀ i, i < 6 → atL.getD i 0 ≤ atL.getD (i + 1) 0 ∧ atL.getD (i + 1) 0 ≤ 156 := by decide
    have hint : ∀ i, i < 7 → (ints .i64 atL)[i]? = some (.int .i64 ((atL.getD i 0 : Nat) : Int)) := by
      intro i hi
      have : i = 0 ∨ i = 1 ∨ i = 2 ∨ i = 3 ∨ i = 4 ∨ i = 5 ∨ i = 6 := by omega
      rcases this with rfl | rfl | rfl | rfl | rfl | rfl | rfl <;> rfl
    refine KW.loop3 (fun (i : Nat) (v : Value) (wr : World) => i ≤ 6 ∧ (∀ j, j < i → (nmb s j).2 = 0) ∧ Own wr w2.heap.size 3 1 v i (ints .i64 ((List.range i).map fun j => (nmb s j).1)) ∧ Ext w2 wr ∧ Bk wr rb 45 hd0.cells) (fun (i : Nat) (v : Value) (wr : World) => [(0, str (s)), (2, .pointer (some ⟨rb, 0, none⟩)), (4, v), (5, .slice (some ⟨ab, 0, none⟩) 7 7), (6, .int .i64 ((i : Nat) : Int))]) (fun (i : Nat) (v : Value) (wr : World) => wr) (fun (i : Nat) (v : Value) (wr : World) => 6 - i) (0) (.slice none 0 0) (w2) ⟨rfl, rfl, rfl, rfl, rfl, trivial⟩ rfl ?_ ?_
    · exact ⟨by omega, fun j hj => by omega, Own.nil _ _ _ _, Ext.refl _, hr2⟩
    · rintro i v wr ⟨hi, hz, hown, hx, hr⟩
      have xr := x2.trans hx
      refine KW.seq (KW.seq (KW.region ?_))
      refine OW.val rfl rfl (EX.move rfl) ?_
      refine OW.val rfl rfl (by first | exact EX.lssN (b := 6) rfl rfl | exact EX.lssZ rfl rfl) ?_
      refine OW.nil ?_
      refine KW.condD rfl (fun hlt => ?_) (fun hlt => ?_)
      · have hab := ha2.ext hx
        have c1 := hint i (by omega)
        have c2 := hint (i + 1) (by omega)
        obtain ⟨t1, t2⟩ := hat i hlt
        have hnm : nmb s i = num (sl s (atL.getD i 0) (atL.getD (i + 1) 0 - atL.getD i 0)) := rfl
        generalize atL.getD i 0 = a at c1 t1 hnm
        generalize atL.getD (i + 1) 0 = b at c2 t1 t2 hnm
        have hsl := sl_len h512 a (b - a)
        refine KW.skip (KW.seq (KW.block (KW.seq ?_)))
        refine KW.regionQ (by kernel_rfl) (by kernel_rfl) ?_
        refine QW.val rfl rfl (fun _ => EX.move rfl) ?_
        refine QW.val rfl rfl (fun _ => EX.move rfl) ?_
        refine QW.val rfl rfl (fun _ => EX.move rfl) ?_
        refine QW.val rfl rfl (fun _ => by first | exact EX.indexAddrS0 Tryd.underlying111 ti3 rfl rfl (by omega) | exact EX.indexAddrS1 Tryd.underlying111 ti3 rfl rfl (by omega)) ?_
        refine QW.val rfl rfl (fun _ => EX.load Tryd.underlying3 rfl rfl (hab.cell_of c1)) ?_
        refine QW.val rfl rfl (fun _ => EX.move rfl) ?_
        refine QW.val rfl rfl (fun _ => EX.move rfl) ?_
        refine QW.val rfl rfl (fun _ => by first | exact EX.addN (b := 1) (m := 9223372036854775807) rfl rfl rfl (by omega) | exact EX.addZ (m := 9223372036854775807) rfl rfl rfl rfl (by omega)) ?_
        refine QW.val rfl rfl (fun _ => by first | exact EX.indexAddrS0 Tryd.underlying111 ti3 rfl rfl (by omega) | exact EX.indexAddrS1 Tryd.underlying111 ti3 rfl rfl (by omega)) ?_
        refine QW.val rfl rfl (fun _ => EX.load Tryd.underlying3 rfl rfl (hab.cell_of c2)) ?_
        refine QW.val rfl rfl (fun _ => EX.sliceLH Tryd.underlying9 rfl rfl rfl (by omega)) ?_
        refine QW.call rfl rfl rfl (fun _ => RetQ.of (refNumber_s (sl s a (b - a)) (by omega) _)) ?_
        refine QW.val rfl rfl (fun _ => EX.move rfl) ?_
        refine QW.val rfl rfl (fun _ => EX.extract rfl rfl) ?_
        refine QW.val rfl rfl (fun _ => EX.extract rfl rfl) ?_
        refine QW.val rfl rfl (fun _ => EX.assign rfl) ?_
        refine QW.val rfl rfl (fun _ => EX.assign rfl) ?_
        refine QW.nil (fun nq => ?_)
        refine KW.seq (KW.seq (KW.region ?_))
        refine OW.val rfl rfl (EX.move rfl) ?_
        refine OW.val rfl rfl (by first | exact EX.neqN (b := 0) rfl rfl | exact EX.neqZ rfl rfl) ?_
        refine OW.nil ?_
        rw [← hnm]
        refine KW.condD rfl (fun hbad => ?_) (fun hbad => ?_)
        · refine KW.seq (KW.region ?_)
          refine OW.val rfl rfl (EX.buildS (pl := [(0, 1), (1, 1), (2, 1), (3, 1), (4, 1), (5, 1), (6, 2), (8, 2)]) (ks := []) (is := []) (zs := [str [], .int .i64 0, .int .u8 0, .int .i64 0, .int .i64 0, str [], str [], str [], .int .i64 0, .int .i64 0]) Tryd.underlying45 ti45 (by kernel_rfl) rfl rfl rfl (by first | rfl | (simp only [List.all_cons, List.all_nil, Bool.and_true, Bool.true_and, Bool.and_eq_true, Value.oneCell']; repeat (first | assumption | exact Own.one (by assumption) | constructor))) (by simp only [setAll, List.set_cons_zero, List.set_cons_succ]; rfl)) ?_
          refine OW.storeS rfl ti45 rfl rfl rfl (by first | rfl | (simp only [List.all_cons, List.all_nil, Bool.and_true, Bool.true_and, Bool.and_eq_true, Value.oneCell']; repeat (first | assumption | exact Own.one (by assumption) | constructor))) (hr.drewN _) (Nat.le_refl _) ?_
          rintro w3 hr3 hm3
          refine OW.val rfl rfl (EX.assign rfl) ?_
          refine OW.nil ?_
          refine KW.ret (retC2 rfl Tryd.underlying45 rfl ti45 rfl rfl (hr3) rfl ?_)
          have hne : (nmb s i).2 ≠ 0 := by omega
          refine bye (fun h => hne ?_) _ _ (xr.trans (Ext.drewN wr nq)) hm3
          have : i = 0 ∨ i = 1 ∨ i = 2 ∨ i = 3 ∨ i = 4 ∨ i = 5 := by omega
          rcases this with rfl | rfl | rfl | rfl | rfl | rfl
          · exact h.mode
          · exact h.i0
          · exact h.i1
          · exact h.size
          · exact h.time
          · exact h.sum
        · refine KW.skip (KW.region ?_)
          refine OW.val rfl rfl (EX.move rfl) ?_
          refine OW.val rfl rfl (EX.move rfl) ?_
          have hx3 := hx.trans (Ext.drewN wr nq)
          have hownq := hown.ext (Ext.drewN wr nq)
          refine OW.push rfl rfl (fun _ => rfl) rfl Tryd.underlying111 ti3 rfl rfl (fun _ => rfl) rfl (hx3) (hownq) (by simp only [maxLen]; omega) (by omega) ?_
          rintro _ v4 w4 hown4 hx4 hg4 _
          refine OW.val rfl rfl (EX.assign rfl) ?_
          refine OW.nil ?_
          refine KW.leave (KW.region ?_)
          refine OW.val rfl rfl (EX.move rfl) ?_
          refine OW.val rfl rfl (by first | exact EX.addN (b := 1) (m := 9223372036854775807) rfl rfl rfl (by omega) | exact EX.addZ (m := 9223372036854775807) rfl rfl rfl rfl (by omega)) ?_
          refine OW.val rfl rfl (EX.assign rfl) ?_
          refine OW.nil ?_
          refine KW.back3 (i + 1) (v4) (w4) ⟨rfl, rfl, rfl, rfl, rfl, trivial⟩ rfl ?_ (by omega)
          refine ⟨by omega, fun j hj => ?_, ?_, hx4, hr2.ext hx4⟩
          · by_cases e : j = i
            · subst e
              omega
            · exact hz j (by omega)
          · rw [List.range_succ, List.map_append]
            simpa [ints] using hown4
      · obtain rfl : i = 6 := by omega
        obtain ⟨g, cap, rest, rfl, hg, hbg, hlen6, hc1, hc2⟩ : ∃ g cap rest, v = .slice (some ⟨g, 0, none⟩) 6 cap ∧ w2.heap.size ≤ g ∧ Bk wr g 3 (ints .i64 ((List.range 6).map fun j => (nmb s j).1) ++ rest) ∧ (ints .i64 ((List.range 6).map fun j => (nmb s j).1)).length + rest.length = cap * 1 ∧ 6 ≤ cap ∧ cap ≤ maxLen := by
          rcases hown.2 with ⟨_, h⟩ | h
          · cases h
          · exact h
        replace hbg : Bk wr g 3 (six s ++ rest) := hbg
        have hsum : sum s = (sumTo s 512, 0) := by unfold sum; rw [if_neg (by omega)]
        have cs := refSum_s s hs wr
        rw [hsum] at cs
        have hk156 : s[156]? = some (s.getD 156 0) := by simp [List.getD_eq_getElem?_getD, h512]
        refine KW.exit rfl (KW.seq (KW.region ?_))
        refine OW.val rfl rfl (EX.move rfl) ?_
        refine OW.call rfl rfl rfl (cs) ?_
        rintro _ _ ⟨rfl, rfl⟩
        refine OW.val rfl rfl (EX.move rfl) ?_
        refine OW.val rfl rfl (EX.extract rfl rfl) ?_
        refine OW.val rfl rfl (EX.extract rfl rfl) ?_
        refine OW.val rfl rfl (EX.assign rfl) ?_
        refine OW.val rfl rfl (EX.assign rfl) ?_
        refine OW.nil ?_
        refine KW.seq ?_
        refine KW.cut2 (fun (hb : Nat) (wq : World) => Ext w wq ∧ w.heap.size ≤ hb ∧ rb ≠ hb ∧ Bk wq rb 45 hd0.cells ∧ Bk wq g 3 (six s ++ rest) ∧ Bk wq hb 45 (Hd.cells ⟨[], ((nmb s 3).1 : Nat), (s.getD 156 0).toNat, ((nmb s 0).1 : Nat), ((nmb s 4).1 : Nat), cut (sl s 157 100), [], [], ((nmb s 1).1 : Nat), ((nmb s 2).1 : Nat)⟩)) (fun (hb : Nat) (wq : World) => [(0, str (s)), (2, .pointer (some ⟨rb, 0, none⟩)), (4, .slice (some ⟨g, 0, none⟩) 6 cap), (9, .int .i64 (((sumTo s 512) : Nat) : Int)), (11, .pointer (some ⟨hb, 0, none⟩))]) (fun (hb : Nat) (wq : World) => wq) ?_ ?_
        · skip
          refine KW.regionG (N := 24) (fun w' => Ext w w' ∧ Bk w' g 3 (six s ++ rest)) (by kernel_rfl) rfl ?_
          have hS : (fun w' => Ext w w' ∧ Bk w' g 3 (six s ++ rest)) wr.drew := ⟨xr.trans (Ext.drew wr), hbg.drew⟩
          have hr := hr.ext (Ext.drew _)
          refine GW.val 0 rfl (by kernel_rfl) (by kernel_rfl) (by kernel_rfl) rfl rfl hS (fun w' hS' => EX.move rfl) ?_
          refine GW.val 1 rfl (by kernel_rfl) (by kernel_rfl) (by kernel_rfl) rfl rfl hS (fun w' hS' => by first | exact EX.indexAddrS0 (i := 0) Tryd.underlying111 ti3 rfl rfl (by omega) | exact EX.indexAddrS1 (i := 0) Tryd.underlying111 ti3 rfl rfl (by omega)) ?_
          refine GW.val 2 rfl (by kernel_rfl) (by kernel_rfl) (by kernel_rfl) rfl rfl hS (fun w' hS' => EX.load Tryd.underlying3 rfl rfl (hS'.2.cell_of rfl)) ?_
          refine GW.val 3 rfl (by kernel_rfl) (by kernel_rfl) (by kernel_rfl) rfl rfl hS (fun w' hS' => EX.move rfl) ?_
          refine GW.val 4 rfl (by kernel_rfl) (by kernel_rfl) (by kernel_rfl) rfl rfl hS (fun w' hS' => by first | exact EX.indexAddrS0 (i := 1) Tryd.underlying111 ti3 rfl rfl (by omega) | exact EX.indexAddrS1 (i := 1) Tryd.underlying111 ti3 rfl rfl (by omega)) ?_
          refine GW.val 5 rfl (by kernel_rfl) (by kernel_rfl) (by kernel_rfl) rfl rfl hS (fun w' hS' => EX.load Tryd.underlying3 rfl rfl (hS'.2.cell_of rfl)) ?_
          refine GW.val 6 rfl (by kernel_rfl) (by kernel_rfl) (by kernel_rfl) rfl rfl hS (fun w' hS' => EX.move rfl) ?_
          refine GW.val 7 rfl (by kernel_rfl) (by kernel_rfl) (by kernel_rfl) rfl rfl hS (fun w' hS' => by first | exact EX.indexAddrS0 (i := 2) Tryd.underlying111 ti3 rfl rfl (by omega) | exact EX.indexAddrS1 (i := 2) Tryd.underlying111 ti3 rfl rfl (by omega)) ?_
          refine GW.val 8 rfl (by kernel_rfl) (by kernel_rfl) (by kernel_rfl) rfl rfl hS (fun w' hS' => EX.load Tryd.underlying3 rfl rfl (hS'.2.cell_of rfl)) ?_
          refine GW.val 9 rfl (by kernel_rfl) (by kernel_rfl) (by kernel_rfl) rfl rfl hS (fun w' hS' => EX.buildA2 (zs := [.int .i64 0, .int .i64 0]) Tryd.underlying43 ti43 ti3 rfl rfl rfl (by first | rfl | assumption) (by first | rfl | assumption)) ?_
          refine GW.val 10 rfl (by kernel_rfl) (by kernel_rfl) (by kernel_rfl) rfl rfl hS (fun w' hS' => EX.move rfl) ?_
          refine GW.val 11 rfl (by kernel_rfl) (by kernel_rfl) (by kernel_rfl) rfl rfl hS (fun w' hS' => by first | exact EX.indexAddrS0 (i := 3) Tryd.underlying111 ti3 rfl rfl (by omega) | exact EX.indexAddrS1 (i := 3) Tryd.underlying111 ti3 rfl rfl (by omega)) ?_
          refine GW.val 12 rfl (by kernel_rfl) (by kernel_rfl) (by kernel_rfl) rfl rfl hS (fun w' hS' => EX.load Tryd.underlying3 rfl rfl (hS'.2.cell_of rfl)) ?_
          refine GW.val 13 rfl (by kernel_rfl) (by kernel_rfl) (by kernel_rfl) rfl rfl hS (fun w' hS' => EX.move rfl) ?_
          refine GW.val 14 rfl (by kernel_rfl) (by kernel_rfl) (by kernel_rfl) rfl rfl hS (fun w' hS' => by first | exact EX.indexAddrS0 (i := 4) Tryd.underlying111 ti3 rfl rfl (by omega) | exact EX.indexAddrS1 (i := 4) Tryd.underlying111 ti3 rfl rfl (by omega)) ?_
          refine GW.val 15 rfl (by kernel_rfl) (by kernel_rfl) (by kernel_rfl) rfl rfl hS (fun w' hS' => EX.load Tryd.underlying3 rfl rfl (hS'.2.cell_of rfl)) ?_
          refine GW.val 16 rfl (by kernel_rfl) (by kernel_rfl) (by kernel_rfl) rfl rfl hS (fun w' hS' => EX.move rfl) ?_
          refine GW.val 17 rfl (by kernel_rfl) (by kernel_rfl) (by kernel_rfl) rfl rfl hS (fun w' hS' => EX.indexS (i := 156) Tryd.underlying9 rfl rfl hk156) ?_
          refine GW.val 18 rfl (by kernel_rfl) (by kernel_rfl) (by kernel_rfl) rfl rfl hS (fun w' hS' => EX.move rfl) ?_
          refine GW.val 19 rfl (by kernel_rfl) (by kernel_rfl) (by kernel_rfl) rfl rfl hS (fun w' hS' => EX.sliceLH (i := 157) (j := 257) Tryd.underlying9 rfl rfl rfl (by omega)) ?_
          refine GW.two 20 22 (by kernel_rfl) ?_ ?_
          · refine GO.call 20 rfl rfl rfl rfl (refCut_s (sl s 157 100) (by have := sl_len h512 157 100; omega) wr.drew) ?_
            rintro _ _ ⟨rfl, rfl⟩
            refine ⟨hS, fun hS => ?_⟩
            refine GW.val 21 rfl (by kernel_rfl) (by kernel_rfl) (by kernel_rfl) rfl rfl hS (fun w' hS' => EX.buildH (pl := [(0, 1), (1, 1), (2, 1), (3, 1), (4, 1), (5, 1), (6, 2), (8, 2)]) (ks := [3, 7, 1, 4, 2, 5]) (zs := [str [], .int .i64 0, .int .u8 0, .int .i64 0, .int .i64 0, str [], str [], str [], .int .i64 0, .int .i64 0]) Tryd.underlying45 ti45 (by kernel_rfl) rfl rfl (by simp only [List.map_cons, List.map_nil, Value.cells]; rfl) rfl rfl (by simp only [fillL, List.zip_cons_cons, List.zip_nil_right, List.zip_nil_left, List.getD_cons_zero, List.getD_cons_succ, List.length_cons, List.length_nil, Nat.zero_add, Nat.add_zero, Nat.reduceAdd, List.take_succ_cons, List.take_zero, List.drop_succ_cons, List.drop_zero, List.nil_append, List.cons_append]; rfl)) ?_
            refine GW.allocB (l := [str [], .int .i64 0, .int .u8 0, .int .i64 0, .int .i64 0, str [], str [], str [], .int .i64 0, .int .i64 0]) 22 rfl (by kernel_rfl) rfl rfl ti45 rfl ?_
            rintro hb w22 hge22 h22 hx22
            have hne : rb ≠ hb := fun q => (by have := hr.lt; omega)
            have hxge : w.heap.size ≤ hb := (by have := hS.1.size; omega)
            refine ⟨⟨hS.1.trans hx22, hS.2.ext hx22⟩, fun hS => ?_⟩
            have hr := hr.ext hx22
            refine GW.storeS 23 rfl (by kernel_rfl) rfl ti45 rfl rfl rfl (by first | rfl | (simp only [List.all_cons, List.all_nil, Bool.and_true, Bool.true_and, Bool.and_eq_true, Value.oneCell']; repeat (first | assumption | constructor))) (h22) (Nat.le_refl _) ?_
            rintro w23 hb23 hm23
            refine ⟨⟨below_mo hS.1 hm23 hS.1.size (fun k hk => by simp at hk; omega), hS.2.mo hm23 (by simp; exact hS.2.ne h22 (by decide))⟩, fun hS => ?_⟩
            have hr := hr.mo hm23 (by simp; exact hne)
            refine GW.done (by kernel_rfl) ?_
            refine KW.meet2 hb w23 ⟨rfl, rfl, rfl, rfl, rfl, trivial⟩ rfl ?_
            exact ⟨hS.1, hxge, hne, hr, hS.2, hb23⟩
          · refine GO.allocB (l := [str [], .int .i64 0, .int .u8 0, .int .i64 0, .int .i64 0, str [], str [], str [], .int .i64 0, .int .i64 0]) 22 rfl rfl rfl ti45 rfl ?_
            rintro hb w22 hge22 h22 hx22
            have hne : rb ≠ hb := fun q => (by have := hr.lt; omega)
            have hxge : w.heap.size ≤ hb := (by have := hS.1.size; omega)
            refine ⟨⟨hS.1.trans hx22, hS.2.ext hx22⟩, fun hS => ?_⟩
            have hr := hr.ext hx22
            refine GW.call 20 rfl (by kernel_rfl) rfl rfl rfl (refCut_s (sl s 157 100) (by have := sl_len h512 157 100; omega) w22) ?_
            rintro _ _ ⟨rfl, rfl⟩
            refine ⟨hS, fun hS => ?_⟩
            refine GW.val 21 rfl (by kernel_rfl) (by kernel_rfl) (by kernel_rfl) rfl rfl hS (fun w' hS' => EX.buildH (pl := [(0, 1), (1, 1), (2, 1), (3, 1), (4, 1), (5, 1), (6, 2), (8, 2)]) (ks := [3, 7, 1, 4, 2, 5]) (zs := [str [], .int .i64 0, .int .u8 0, .int .i64 0, .int .i64 0, str [], str [], str [], .int .i64 0, .int .i64 0]) Tryd.underlying45 ti45 (by kernel_rfl) rfl rfl (by simp only [List.map_cons, List.map_nil, Value.cells]; rfl) rfl rfl (by simp only [fillL, List.zip_cons_cons, List.zip_nil_right, List.zip_nil_left, List.getD_cons_zero, List.getD_cons_succ, List.length_cons, List.length_nil, Nat.zero_add, Nat.add_zero, Nat.reduceAdd, List.take_succ_cons, List.take_zero, List.drop_succ_cons, List.drop_zero, List.nil_append, List.cons_append]; rfl)) ?_
            refine GW.storeS 23 rfl (by kernel_rfl) rfl ti45 rfl rfl rfl (by first | rfl | (simp only [List.all_cons, List.all_nil, Bool.and_true, Bool.true_and, Bool.and_eq_true, Value.oneCell']; repeat (first | assumption | constructor))) (h22) (Nat.le_refl _) ?_
            rintro w23 hb23 hm23
            refine ⟨⟨below_mo hS.1 hm23 hS.1.size (fun k hk => by simp at hk; omega), hS.2.mo hm23 (by simp; exact hS.2.ne h22 (by decide))⟩, fun hS => ?_⟩
            have hr := hr.mo hm23 (by simp; exact hne)
            refine GW.done (by kernel_rfl) ?_
            refine KW.meet2 hb w23 ⟨rfl, rfl, rfl, rfl, rfl, trivial⟩ rfl ?_
            exact ⟨hS.1, hxge, hne, hr, hS.2, hb23⟩
        · rintro hb wq ⟨xq, hlo, hne, hrq, hgq, hhq⟩
          have hgo : ∀ (w' w'' : World) (l : List Value), Ext w w' → Bk w' rb 45 hd0.cells → Bk w' g 3 (six s ++ rest) → Bk w'' hb 45 l → Mo w' w'' [hb] → (∀ l', Bk w' hb 45 l' → (Ext w w'' ∧ Bk w'' rb 45 hd0.cells ∧ Bk w'' g 3 (six s ++ rest) ∧ Bk w'' hb 45 l)) := fun w' w'' l hx hr hg hh hm l' hh' =>
            ⟨below_mo hx hm hx.size (fun k hk => by simp at hk; omega), hr.mo hm (by simp; exact hne), hg.mo hm (by simp; exact hg.ne hh' (by decide)), hh⟩
          refine KW.seq ?_
          refine KW.cut1 (fun (wz : World) => Ext w wz ∧ Bk wz rb 45 hd0.cells ∧ Bk wz g 3 (six s ++ rest) ∧ Bk wz hb 45 (Hd.cells ⟨[], ((nmb s 3).1 : Nat), (s.getD 156 0).toNat, ((nmb s 0).1 : Nat), ((nmb s 4).1 : Nat), cut (sl s 157 100), cut (sl s 265 32), cut (sl s 297 32), ((nmb s 1).1 : Nat), ((nmb s 2).1 : Nat)⟩)) (fun (wz : World) => [(0, str (s)), (2, .pointer (some ⟨rb, 0, none⟩)), (4, .slice (some ⟨g, 0, none⟩) 6 cap), (9, .int .i64 (((sumTo s 512) : Nat) : Int)), (11, .pointer (some ⟨hb, 0, none⟩))]) (fun (wz : World) => wz) ?_ ?_
          · skip
            refine KW.regionG (N := 9) (fun w' => Ext w w' ∧ Bk w' g 3 (six s ++ rest)) (by kernel_rfl) rfl ?_
            have hS : (fun w' => Ext w w' ∧ Bk w' g 3 (six s ++ rest)) wq.drew := ⟨xq.trans (Ext.drew wq), hgq.drew⟩
            have hrq := hrq.ext (Ext.drew _)
            have hhq := hhq.ext (Ext.drew _)
            refine GW.val 0 rfl (by kernel_rfl) (by kernel_rfl) (by kernel_rfl) rfl rfl hS (fun w' hS' => EX.move rfl) ?_
            refine GW.val 1 rfl (by kernel_rfl) (by kernel_rfl) (by kernel_rfl) rfl rfl hS (fun w' hS' => EX.sliceLH (i := 265) (j := 297) Tryd.underlying9 rfl rfl rfl (by omega)) ?_
            refine GW.val 3 rfl (by kernel_rfl) (by kernel_rfl) (by kernel_rfl) rfl rfl hS (fun w' hS' => EX.move rfl) ?_
            refine GW.val 4 rfl (by kernel_rfl) (by kernel_rfl) (by kernel_rfl) rfl rfl hS (fun w' hS' => EX.sliceLH (i := 297) (j := 329) Tryd.underlying9 rfl rfl rfl (by omega)) ?_
            refine GW.call 2 rfl (by kernel_rfl) rfl rfl rfl (refCut_s (sl s 265 32) (by have := sl_len h512 265 32; omega) wq.drew) ?_
            rintro _ _ ⟨rfl, rfl⟩
            refine ⟨hS, fun hS => ?_⟩
            refine GW.call 5 rfl (by kernel_rfl) rfl rfl rfl (refCut_s (sl s 297 32) (by have := sl_len h512 297 32; omega) wq.drew) ?_
            rintro _ _ ⟨rfl, rfl⟩
            refine ⟨hS, fun hS => ?_⟩
            refine GW.val 6 rfl (by kernel_rfl) (by kernel_rfl) (by kernel_rfl) rfl rfl hS (fun w' hS' => EX.buildA2 (zs := [str [], str []]) Tryd.underlying42 ti42 ti9 rfl rfl rfl (by first | rfl | assumption) (by first | rfl | assumption)) ?_
            refine GW.val 7 rfl (by kernel_rfl) (by kernel_rfl) (by kernel_rfl) rfl rfl hS (fun w' hS' => EX.fieldAddr (off := 6) Tryd.underlying45 rfl rfl ti42 rfl rfl) ?_
            refine GW.storeS 8 rfl (by kernel_rfl) rfl ti42 rfl rfl rfl (by first | rfl | (simp only [List.all_cons, List.all_nil, Bool.and_true, Bool.true_and, Bool.and_eq_true, Value.oneCell']; repeat (first | assumption | constructor))) (hhq) (of_decide_eq_true rfl) ?_
            rintro w8 hb8 hm8
            refine ⟨⟨below_mo hS.1 hm8 hS.1.size (fun k hk => by simp at hk; omega), hS.2.mo hm8 (by simp; exact hS.2.ne hhq (by decide))⟩, fun hS => ?_⟩
            have hrq := hrq.mo hm8 (by simp; exact hne)
            refine GW.done (by kernel_rfl) ?_
            refine KW.meet1 w8 ⟨rfl, rfl, rfl, rfl, rfl, trivial⟩ rfl ?_
            exact ⟨hS.1, hrq, hS.2, hb8⟩
          · rintro wz ⟨xz, hrz, hgz, hhz⟩
            have hpn := cut_le (sl s 0 100)
            have hpp := cut_le (sl s 345 155)
            have hsl1 := sl_len h512 0 100
            have hsl2 := sl_len h512 345 155
            refine KW.seq (KW.region ?_)
            refine OW.val rfl rfl (EX.move rfl) ?_
            refine OW.val rfl rfl (EX.sliceFH (j := 100) Tryd.underlying9 rfl rfl (by omega)) ?_
            refine OW.call rfl rfl rfl (refCut_s (sl s 0 100) (by omega) wz) ?_
            rintro _ _ ⟨rfl, rfl⟩
            refine OW.val rfl rfl (EX.fieldAddr (off := 0) Tryd.underlying45 rfl rfl ti9 rfl rfl) ?_
            refine OW.storeB rfl ti9 rfl rfl (by first | rfl | assumption | exact Own.one (by assumption)) (hhz) (of_decide_eq_true rfl) ?_
            rintro wa hha hma
            refine OW.nil ?_
            refine KW.seq (KW.region ?_)
            refine OW.val rfl rfl (EX.move rfl) ?_
            refine OW.val rfl rfl (EX.sliceLH (i := 345) (j := 500) Tryd.underlying9 rfl rfl rfl (by omega)) ?_
            obtain ⟨xa, hra, hga, hha⟩ := hgo wz wa _ xz hrz hgz hha hma _ hhz
            replace hha : Bk wa hb 45 (Hd.cells ⟨cut (sl s 0 100), ((nmb s 3).1 : Nat), (s.getD 156 0).toNat, ((nmb s 0).1 : Nat), ((nmb s 4).1 : Nat), cut (sl s 157 100), cut (sl s 265 32), cut (sl s 297 32), ((nmb s 1).1 : Nat), ((nmb s 2).1 : Nat)⟩) := hha
            refine OW.call rfl rfl rfl (refCut_s (sl s 345 155) (by omega) wa) ?_
            rintro _ _ ⟨rfl, rfl⟩
            refine OW.val rfl rfl (EX.assign rfl) ?_
            refine OW.nil ?_
            refine KW.seq (KW.seq (KW.region ?_))
            refine OW.val rfl rfl (EX.move rfl) ?_
            refine OW.val rfl rfl (EX.neqS (r := []) rfl rfl) ?_
            refine OW.nil ?_
            refine KW.cut1 (fun (wb : World) => Ext w wb ∧ Bk wb rb 45 hd0.cells ∧ Bk wb g 3 (six s ++ rest) ∧ Bk wb hb 45 (Hd.cells ⟨pathD s, ((nmb s 3).1 : Nat), (s.getD 156 0).toNat, ((nmb s 0).1 : Nat), ((nmb s 4).1 : Nat), cut (sl s 157 100), cut (sl s 265 32), cut (sl s 297 32), ((nmb s 1).1 : Nat), ((nmb s 2).1 : Nat)⟩)) (fun (wb : World) => [(0, str (s)), (2, .pointer (some ⟨rb, 0, none⟩)), (4, .slice (some ⟨g, 0, none⟩) 6 cap), (9, .int .i64 (((sumTo s 512) : Nat) : Int)), (11, .pointer (some ⟨hb, 0, none⟩))]) (fun (wb : World) => wb) ?_ ?_
            · refine KW.condD rfl (fun hpre => ?_) (fun hpre => ?_)
              · have e : pathD s = cut (sl s 345 155) ++ [47] ++ cut (sl s 0 100) := by unfold pathD; rw [if_pos hpre]
                refine KW.region ?_
                refine OW.val rfl rfl (EX.move rfl) ?_
                refine OW.val rfl rfl (EX.addS (r := [47]) rfl rfl (by first | omega | (simp only [List.length_append, List.length_cons, List.length_nil, List.length_take, List.length_drop, List.length_replicate]; omega))) ?_
                refine OW.val rfl rfl (EX.fieldAddr (off := 0) Tryd.underlying45 rfl rfl ti9 rfl rfl) ?_
                refine OW.val rfl rfl (EX.load Tryd.underlying9 rfl rfl (hha.cell_of rfl)) ?_
                refine OW.val rfl rfl (EX.addS rfl rfl (by first | omega | (simp only [List.length_append, List.length_cons, List.length_nil, List.length_take, List.length_drop, List.length_replicate]; omega))) ?_
                refine OW.val rfl rfl (EX.fieldAddr (off := 0) Tryd.underlying45 rfl rfl ti9 rfl rfl) ?_
                refine OW.storeB rfl ti9 rfl rfl (by first | rfl | assumption | exact Own.one (by assumption)) (hha) (of_decide_eq_true rfl) ?_
                rintro wb hhb hmb
                refine OW.nil ?_
                refine KW.meet1 (wb) ⟨rfl, rfl, rfl, rfl, rfl, trivial⟩ rfl ?_
                rw [e]
                exact hgo wa wb _ xa hra hga hhb hmb _ hha
              · have e : pathD s = cut (sl s 0 100) := by unfold pathD; rw [if_neg hpre]
                refine KW.skip ?_
                refine KW.meet1 (wa) ⟨rfl, rfl, rfl, rfl, rfl, trivial⟩ rfl ?_
                rw [e]
                exact ⟨xa, hra, hga, hha⟩
            · rintro wb ⟨xb, hrb, hgb, hhb⟩
              refine KW.seq (KW.seq (KW.region ?_))
              refine OW.val rfl rfl (EX.fieldAddr (off := 2) Tryd.underlying45 rfl rfl ti5 rfl rfl) ?_
              refine OW.val rfl rfl (EX.load Tryd.underlying5 rfl rfl (hhb.cell_of rfl)) ?_
              refine OW.val rfl rfl (by first | exact EX.eqlN (b := 0) rfl rfl | exact EX.eqlZ rfl rfl) ?_
              refine OW.nil ?_
              refine KW.cut1 (fun (wc : World) => Ext w wc ∧ Bk wc rb 45 hd0.cells ∧ Bk wc g 3 (six s ++ rest) ∧ Bk wc hb 45 (hdD s).cells) (fun (wc : World) => [(0, str (s)), (2, .pointer (some ⟨rb, 0, none⟩)), (4, .slice (some ⟨g, 0, none⟩) 6 cap), (9, .int .i64 (((sumTo s 512) : Nat) : Int)), (11, .pointer (some ⟨hb, 0, none⟩))]) (fun (wc : World) => wc) ?_ ?_
              · refine KW.condD rfl (fun hk0 => ?_) (fun hk0 => ?_)
                · have e : kindD s = 48 := by unfold kindD; rw [if_pos (by omega)]
                  refine KW.region ?_
                  refine OW.val rfl rfl (EX.fieldAddr (off := 2) Tryd.underlying45 rfl rfl ti5 rfl rfl) ?_
                  refine OW.storeB rfl ti5 rfl rfl (by first | rfl | assumption | exact Own.one (by assumption)) (hhb) (of_decide_eq_true rfl) ?_
                  rintro wc hhc hmc
                  refine OW.nil ?_
                  refine KW.meet1 (wc) ⟨rfl, rfl, rfl, rfl, rfl, trivial⟩ rfl ?_
                  unfold hdD
                  rw [e]
                  exact hgo wb wc _ xb hrb hgb hhc hmc _ hhb
                · have e : kindD s = (s.getD 156 0).toNat := by unfold kindD; rw [if_neg (by omega)]
                  refine KW.skip ?_
                  refine KW.meet1 (wb) ⟨rfl, rfl, rfl, rfl, rfl, trivial⟩ rfl ?_
                  unfold hdD
                  rw [e]
                  exact ⟨xb, hrb, hgb, hhb⟩
              · rintro wc ⟨xc, hrc, hgc, hhc⟩
                have z0 := hz 0 (by decide)
                have z1 := hz 1 (by decide)
                have z2 := hz 2 (by decide)
                have z3 := hz 3 (by decide)
                have z4 := hz 4 (by decide)
                have z5 := hz 5 (by decide)
                refine KW.seq (KW.seq ?_)
                refine KW.region ?_
                refine OW.val rfl rfl (EX.move rfl) ?_
                refine OW.val rfl rfl (by first | exact EX.indexAddrS0 (i := 5) Tryd.underlying111 ti3 rfl rfl (by omega) | exact EX.indexAddrS1 (i := 5) Tryd.underlying111 ti3 rfl rfl (by omega)) ?_
                refine OW.val rfl rfl (EX.load Tryd.underlying3 rfl rfl (hgc.cell_of rfl)) ?_
                refine OW.val rfl rfl (EX.move rfl) ?_
                refine OW.val rfl rfl (by first | exact EX.neqN rfl rfl | exact EX.neqZ rfl rfl) ?_
                refine OW.val rfl rfl (EX.move rfl) ?_
                refine OW.splitD 108 rfl (fun c1 => ?_) (fun c1 => ?_)
                · refine OW.pass rfl rfl ?_
                  refine OW.pass rfl rfl ?_
                  refine OW.pass rfl rfl ?_
                  refine OW.val rfl rfl (EX.pickT rfl rfl) ?_
                  refine OW.nil ?_
                  refine KW.condT rfl (KW.seq (KW.region ?_))
                  refine OW.val rfl rfl (EX.buildS (pl := [(0, 1), (1, 1), (2, 1), (3, 1), (4, 1), (5, 1), (6, 2), (8, 2)]) (ks := []) (is := []) (zs := [str [], .int .i64 0, .int .u8 0, .int .i64 0, .int .i64 0, str [], str [], str [], .int .i64 0, .int .i64 0]) Tryd.underlying45 ti45 (by kernel_rfl) rfl rfl rfl (by first | rfl | (simp only [List.all_cons, List.all_nil, Bool.and_true, Bool.true_and, Bool.and_eq_true, Value.oneCell']; repeat (first | assumption | exact Own.one (by assumption) | constructor))) (by simp only [setAll, List.set_cons_zero, List.set_cons_succ]; rfl)) ?_
                  refine OW.storeS rfl ti45 rfl rfl rfl (by first | rfl | (simp only [List.all_cons, List.all_nil, Bool.and_true, Bool.true_and, Bool.and_eq_true, Value.oneCell']; repeat (first | assumption | exact Own.one (by assumption) | constructor))) (hrc) (Nat.le_refl _) ?_
                  rintro wd hrd hmd
                  refine OW.val rfl rfl (EX.assign rfl) ?_
                  refine OW.nil ?_
                  refine KW.ret (retC2 rfl Tryd.underlying45 rfl ti45 rfl rfl (hrd) rfl ?_)
                  exact bye (fun h => c1 h.sums) _ _ xc hmd
                · refine OW.val rfl rfl (EX.fieldAddr (off := 0) Tryd.underlying45 rfl rfl ti9 rfl rfl) ?_
                  refine OW.val rfl rfl (EX.load Tryd.underlying9 rfl rfl (hhc.cell_of rfl)) ?_
                  refine OW.val rfl rfl (EX.eqlS (r := []) rfl rfl) ?_
                  refine OW.val rfl rfl (EX.pickF rfl rfl) ?_
                  refine OW.nil ?_
                  refine KW.condD rfl (fun c3 => ?_) (fun c3 => ?_)
                  · refine KW.seq (KW.region ?_)
                    refine OW.val rfl rfl (EX.buildS (pl := [(0, 1), (1, 1), (2, 1), (3, 1), (4, 1), (5, 1), (6, 2), (8, 2)]) (ks := []) (is := []) (zs := [str [], .int .i64 0, .int .u8 0, .int .i64 0, .int .i64 0, str [], str [], str [], .int .i64 0, .int .i64 0]) Tryd.underlying45 ti45 (by kernel_rfl) rfl rfl rfl (by first | rfl | (simp only [List.all_cons, List.all_nil, Bool.and_true, Bool.true_and, Bool.and_eq_true, Value.oneCell']; repeat (first | assumption | exact Own.one (by assumption) | constructor))) (by simp only [setAll, List.set_cons_zero, List.set_cons_succ]; rfl)) ?_
                    refine OW.storeS rfl ti45 rfl rfl rfl (by first | rfl | (simp only [List.all_cons, List.all_nil, Bool.and_true, Bool.true_and, Bool.and_eq_true, Value.oneCell']; repeat (first | assumption | exact Own.one (by assumption) | constructor))) (hrc) (Nat.le_refl _) ?_
                    rintro wd hrd hmd
                    refine OW.val rfl rfl (EX.assign rfl) ?_
                    refine OW.nil ?_
                    refine KW.ret (retC2 rfl Tryd.underlying45 rfl ti45 rfl rfl (hrd) rfl ?_)
                    exact bye (fun h => h.path c3) _ _ xc hmd
                  · have ok : OkD s := ⟨h512, hmg, z0, z1, z2, z3, z4, z5, by have := Classical.not_not.1 c1; exact_mod_cast this, c3⟩
                    refine KW.skip (KW.seq (KW.region ?_))
                    refine OW.val rfl rfl (EX.loadBk Tryd.underlying45 rfl ti45 rfl (hhc) (rfl)) ?_
                    refine OW.storeS rfl ti45 rfl rfl rfl (by first | rfl | (simp only [List.all_cons, List.all_nil, Bool.and_true, Bool.true_and, Bool.and_eq_true, Value.oneCell']; repeat (first | assumption | exact Own.one (by assumption) | constructor))) (hrc) (Nat.le_refl _) ?_
                    rintro wd hrd hmd
                    refine OW.val rfl rfl (EX.assign rfl) ?_
                    refine OW.nil ?_
                    refine KW.ret (retC2 rfl Tryd.underlying45 rfl ti45 rfl rfl (hrd) rfl ?_)
                    rw [dec_yes ok]
                    exact ⟨rfl, below_mo xc hmd xc.size (fun k hk => by simp at hk; omega)⟩
end Go.Proofs.YtjgeoeeikfjmdaaDoor
/- The engine's laws once more, for bodies of ranges over functions, for what follows them, and for iterators: in a round's frame, or with marks among the deferred calls. No program is spoken of. (Written by kw/mkr.py.) -/
namespace Go.Proofs.YtjgeoeeikfjmdaaDoor
set_option linter.unnecessarySimpa false
open Go.RowKit
set_option linter.unusedSimpArgs false
set_option linter.unusedVariables false
/-- where a walk stands: the round, how deep calls may go, the marks, what is owed at a way out -/
structure RP where
  round : Option Nat
  m : Nat
  ds : List Deferred
  post : Exit → Act → World → Prop
def RP.F (R : RP) : Fence := { Fence.wide with round := R.round }
structure FrD (R : RP) (n : Nat) (σ : Sig) (a : Act) : Prop where
  fr : Fr n σ { a with defers := [] }
  df : a.defers = R.ds
section
variable {R : RP} {n : Nat} {σ σ' : Sig} {a : Act}
theorem FrD.ev (h : FrD R n σ a) {x : Operand} {v : Value} (hx : ev σ x = some v) : a.eval x = v := by
  have := h.fr.ev hx
  cases x <;> exact this
theorem FrD.sub (h : FrD R n σ a) (hs : Subs σ' σ) : FrD R n σ' a := ⟨h.fr.sub hs, h.df⟩
theorem FrD.put (h : FrD R n σ a) {d : Nat} (hd : Nat.blt d n = true) (v : Value) : FrD R n ((d, v) :: σ) (a.put (some d) v) := ⟨h.fr.put hd v, h.df⟩
end
def psr (P : Program) (R : RP) : List KI → Exit → Act → World → Prop
  | [], e => R.post e
  | .code c :: k, e => match e with | .normal => fun a w => c.wpIn R.F R.m P (psr P R k) a w | e => psr P R k e
  | .blk id :: k, e => match e with | .exit i => fun a w => if i = id then psr P R k .normal a w else psr P R k (.exit i) a w | e => psr P R k e
  | .asr I :: k, e => match e with | .normal => I | e => psr P R k e
def KR (P : Program) (R : RP) (k : List KI) (n : Nat) (σ : Sig) (w : World) : Prop := ∀ a, FrD R n σ a → psr P R k .normal a w
section
variable {P : Program} {R : RP} {k : List KI} {n : Nat} {σ : Sig} {w : World}
theorem psr_then (c : Code) (k : List KI) : psr P R (.code c :: k) = Exit.then (fun a w => c.wpIn R.F R.m P (psr P R k) a w) (psr P R k) := by
  funext e a w
  cases e <;> simp [psr, Exit.then]
theorem psr_blk (id : Nat) (k : List KI) : psr P R (.blk id :: k) = Exit.inBlock id (psr P R k) := by
  funext e a w
  cases e <;> simp [psr, Exit.inBlock]
theorem psr_exit {id : Nat} : ∀ {k k' : List KI}, popTo id k = some k' → ∀ a w, psr P R k (.exit id) a w = psr P R k' .normal a w
  | [], _, h, _, _ => by simp [popTo] at h
  | .code c :: k, k', h, a, w => by simp only [popTo] at h; simp only [psr]; exact psr_exit h a w
  | .asr I :: k, k', h, a, w => by simp only [popTo] at h; simp only [psr]; exact psr_exit h a w
  | .blk i :: k, k', h, a, w => by
    simp only [popTo] at h
    simp only [psr]
    by_cases e : id = i
    · subst e
      have : Nat.beq id id = true := by simp
      rw [this] at h
      injection h with h
      subst h
      simp
    · have : Nat.beq id i = false := by
        cases hb : Nat.beq id i with
        | false => rfl
        | true => exact absurd (Nat.eq_of_beq_eq_true hb) e
      rw [this] at h
      rw [if_neg e]
      exact psr_exit h a w
theorem psr_ret : ∀ (k : List KI) (a : Act) (w : World), psr P R k .ret a w = R.post .ret a w
  | [], _, _ => rfl
  | .code _ :: k, a, w => psr_ret k a w
  | .blk _ :: k, a, w => psr_ret k a w
  | .asr _ :: k, a, w => psr_ret k a w

theorem KR.seq {x y : Code} (h : KR P R (.code x :: .code y :: k) n σ w) : KR P R (.code (.seq x y) :: k) n σ w := fun a ha => by
  have := h a ha
  simp only [psr] at this ⊢
  refine wpIn_seq ?_
  rw [← psr_then]
  exact this
theorem KR.block {id : Nat} {c : Code} (h : KR P R (.code c :: .blk id :: k) n σ w) : KR P R (.code (.block id c) :: k) n σ w := fun a ha => by
  have := h a ha
  simp only [psr] at this ⊢
  refine wpIn_block ?_
  rw [← psr_blk]
  exact this
theorem KR.leave {id : Nat} (h : KR P R k n σ w) : KR P R (.blk id :: k) n σ w := fun a ha => h a ha
theorem KR.skip (h : KR P R k n σ w) : KR P R (.code .skip :: k) n σ w := fun a ha => wpIn_skip (h a ha)
theorem KR.label {l : Nat} (h : KR P R k n σ w) : KR P R (.code (.label l) :: k) n σ w := fun a ha => wpIn_label (h a ha)
theorem KR.exit {id : Nat} {k' : List KI} (hk : popTo id k = some k') (h : KR P R k' n σ w) : KR P R (.code (.exit id) :: k) n σ w := fun a ha =>
  wpIn_exit (by rw [psr_exit hk]; exact h a ha)
theorem KR.ret (h : ∀ a, FrD R n σ a → R.post .ret a w) : KR P R (.code .ret :: k) n σ w := fun a ha => wpIn_ret (by rw [psr_ret]; exact h a ha)
theorem KR.done (h : ∀ a, FrD R n σ a → R.post .normal a w) : KR P R [] n σ w := h
theorem KR.sub {σ' : Sig} (hs : Subs σ' σ) (h : KR P R k n σ' w) : KR P R k n σ w := fun a ha => h a (ha.sub hs)
theorem KR.cond {c : Operand} {x y : Code} {b : Bool} (hc : ev σ c = some (.bool b)) (ht : b = true → KR P R (.code x :: k) n σ w) (hf : b = false → KR P R (.code y :: k) n σ w) :
    KR P R (.code (.cond c x y) :: k) n σ w := fun a ha =>
  wpIn_cond_split (ha.ev hc) (fun e => ht e a ha) (fun e => hf e a ha)
theorem KR.condD {c : Operand} {x y : Code} {p : Prop} [Decidable p] (hc : ev σ c = some (.bool (decide p))) (ht : p → KR P R (.code x :: k) n σ w) (hf : ¬ p → KR P R (.code y :: k) n σ w) :
    KR P R (.code (.cond c x y) :: k) n σ w :=
  KR.cond hc (fun e => ht (of_decide_eq_true e)) (fun e => hf (of_decide_eq_false e))
theorem KR.condT {c : Operand} {x y : Code} (hc : ev σ c = some (.bool true)) (h : KR P R (.code x :: k) n σ w) : KR P R (.code (.cond c x y) :: k) n σ w :=
  KR.cond hc (fun _ => h) (fun e => by cases e)
theorem KR.condF {c : Operand} {x y : Code} (hc : ev σ c = some (.bool false)) (h : KR P R (.code y :: k) n σ w) : KR P R (.code (.cond c x y) :: k) n σ w :=
  KR.cond hc (fun e => by cases e) (fun _ => h)

/-- what holds where the ways meet, or at a loop's head -/
def MetR {ι : Type} (R : RP) (n : Nat) (I : ι → Prop) (S : ι → Sig) (W : ι → World) (a : Act) (w : World) : Prop := ∃ i, I i ∧ FrD R n (S i) a ∧ w = W i
theorem KR.cut {ι : Type} (I : ι → Prop) (S : ι → Sig) (W : ι → World) {c : Code} (h : KR P R (.code c :: .asr (MetR R n I S W) :: k) n σ w) (h2 : ∀ i, I i → KR P R k n (S i) (W i)) :
    KR P R (.code c :: k) n σ w := fun a ha => by
  have h1 := h a ha
  simp only [psr] at h1 ⊢
  refine Code.wpIn_mono (fun e a' w' q => ?_) h1
  cases e with
  | normal => obtain ⟨i, hi, hf, rfl⟩ := q; exact h2 i hi a' hf
  | _ => exact q
theorem KR.meet {ι : Type} {I : ι → Prop} {S : ι → Sig} {W : ι → World} (i : ι) (hs : Subs (S i) σ) (hw : w = W i) (hi : I i) : KR P R (.asr (MetR R n I S W) :: k) n σ w :=
  fun _ ha => ⟨i, hi, ha.sub hs, hw⟩
/-- a loop's round ends -/
def BackR {ι : Type} (R : RP) (n : Nat) (I : ι → Prop) (S : ι → Sig) (W : ι → World) (μ : ι → Nat) (i : ι) (a : Act) (w : World) : Prop := ∃ j, I j ∧ μ j < μ i ∧ FrD R n (S j) a ∧ w = W j
theorem KR.back {ι : Type} {I : ι → Prop} {S : ι → Sig} {W : ι → World} {μ : ι → Nat} {i : ι} (j : ι) (hs : Subs (S j) σ) (hw : w = W j) (hi : I j) (hm : μ j < μ i) :
    KR P R (.asr (BackR R n I S W μ i) :: k) n σ w := fun _ ha => ⟨j, hi, hm, ha.sub hs, hw⟩
theorem KR.loop {ι : Type} (I : ι → Prop) (S : ι → Sig) (W : ι → World) (μ : ι → Nat) {c : Code} (i : ι) (hs : Subs (S i) σ) (hw : w = W i) (hi : I i)
    (round : ∀ i, I i → KR P R (.code c :: .asr (BackR R n I S W μ i) :: k) n (S i) (W i)) : KR P R (.code (.loop c) :: k) n σ w := fun a ha => by
  let M (a : Act) (w : World) (m : Nat) : Prop := ∃ i, I i ∧ FrD R n (S i) a ∧ w = W i ∧ μ i = m
  have hex : ∀ a w, (∃ m, M a w m) → ∃ m, M a w m ∧ ∀ m', M a w m' → m ≤ m' := fun a w ⟨m, hm⟩ => least_nat _ m hm
  let ν (a : Act) (w : World) : Nat := Classical.epsilon fun m => M a w m ∧ ∀ m', M a w m' → m ≤ m'
  have hν : ∀ a w, (∃ m, M a w m) → M a w (ν a w) ∧ ∀ m', M a w m' → ν a w ≤ m' := fun a w h => Classical.epsilon_spec (hex a w h)
  simp only [psr]
  refine wpIn_loop (fun a w => ∃ m, M a w m) ν ⟨μ i, i, hi, ha.sub hs, hw, rfl⟩ fun a' w' hm => ?_
  obtain ⟨⟨j, hj, hf, hw', hmu⟩, _⟩ := hν a' w' hm
  have h := round j hj a' hf
  simp only [psr] at h
  subst hw'
  refine Code.wpIn_mono (fun e a'' w'' q => ?_) h
  cases e with
  | normal =>
    obtain ⟨j', h1, h2, h3, h4⟩ := q
    refine ⟨⟨μ j', j', h1, h3, h4, rfl⟩, ?_⟩
    have := (hν a'' w'' ⟨μ j', j', h1, h3, h4, rfl⟩).2 (μ j') ⟨j', h1, h3, h4, rfl⟩
    omega
  | _ => exact q
end

section
variable {P : Program} {R : RP} {k : List KI} {n : Nat} {σ : Sig} {w : World}
def BackR1 {α : Type} (R : RP) (n : Nat) (I : α → Prop) (S : α → Sig) (W : α → World) (μ : α → Nat) (x0 : α) : Act → World → Prop :=
  BackR R n (fun p : α => I p) (fun p => S p) (fun p => W p) (fun p => μ p) x0
def MetR1 {α : Type} (R : RP) (n : Nat) (I : α → Prop) (S : α → Sig) (W : α → World) : Act → World → Prop :=
  MetR R n (fun p : α => I p) (fun p => S p) (fun p => W p)
theorem KR.loop1 {α : Type} (I : α → Prop) (S : α → Sig) (W : α → World) (μ : α → Nat) {c : Code} (x0 : α) (hs : Subs (S x0) σ) (hw : w = W x0) (hi : I x0)
    (round : ∀ x0, I x0 → KR P R (.code c :: .asr (BackR1 R n I S W μ x0) :: k) n (S x0) (W x0)) : KR P R (.code (.loop c) :: k) n σ w :=
  KR.loop (fun p : α => I p) (fun p => S p) (fun p => W p) (fun p => μ p) x0 hs hw hi fun p hp => round p hp
theorem KR.back1 {α : Type} {I : α → Prop} {S : α → Sig} {W : α → World} {μ : α → Nat} {y0 : α} (x0 : α) (hs : Subs (S x0) σ) (hw : w = W x0) (hi : I x0) (hm : μ x0 < μ y0) :
    KR P R (.asr (BackR1 R n I S W μ y0) :: k) n σ w :=
  KR.back (I := fun p : α => I p) (S := fun p => S p) (W := fun p => W p) (μ := fun p => μ p) x0 hs hw hi hm
theorem KR.cut1 {α : Type} (I : α → Prop) (S : α → Sig) (W : α → World) {c : Code} (h : KR P R (.code c :: .asr (MetR1 R n I S W) :: k) n σ w)
    (h2 : ∀ x0, I x0 → KR P R k n (S x0) (W x0)) : KR P R (.code c :: k) n σ w :=
  KR.cut (fun p : α => I p) (fun p => S p) (fun p => W p) h fun p hp => h2 p hp
theorem KR.meet1 {α : Type} {I : α → Prop} {S : α → Sig} {W : α → World} (x0 : α) (hs : Subs (S x0) σ) (hw : w = W x0) (hi : I x0) :
    KR P R (.asr (MetR1 R n I S W) :: k) n σ w :=
  KR.meet (I := fun p : α => I p) (S := fun p => S p) (W := fun p => W p) x0 hs hw hi
def BackR2 {α β : Type} (R : RP) (n : Nat) (I : α → β → Prop) (S : α → β → Sig) (W : α → β → World) (μ : α → β → Nat) (x0 : α) (x1 : β) : Act → World → Prop :=
  BackR R n (fun p : α × β => I p.1 p.2) (fun p => S p.1 p.2) (fun p => W p.1 p.2) (fun p => μ p.1 p.2) (x0, x1)
def MetR2 {α β : Type} (R : RP) (n : Nat) (I : α → β → Prop) (S : α → β → Sig) (W : α → β → World) : Act → World → Prop :=
  MetR R n (fun p : α × β => I p.1 p.2) (fun p => S p.1 p.2) (fun p => W p.1 p.2)
theorem KR.loop2 {α β : Type} (I : α → β → Prop) (S : α → β → Sig) (W : α → β → World) (μ : α → β → Nat) {c : Code} (x0 : α) (x1 : β) (hs : Subs (S x0 x1) σ) (hw : w = W x0 x1) (hi : I x0 x1)
    (round : ∀ x0 x1, I x0 x1 → KR P R (.code c :: .asr (BackR2 R n I S W μ x0 x1) :: k) n (S x0 x1) (W x0 x1)) : KR P R (.code (.loop c) :: k) n σ w :=
  KR.loop (fun p : α × β => I p.1 p.2) (fun p => S p.1 p.2) (fun p => W p.1 p.2) (fun p => μ p.1 p.2) (x0, x1) hs hw hi fun p hp => round p.1 p.2 hp
theorem KR.back2 {α β : Type} {I : α → β → Prop} {S : α → β → Sig} {W : α → β → World} {μ : α → β → Nat} {y0 : α} {y1 : β} (x0 : α) (x1 : β) (hs : Subs (S x0 x1) σ) (hw : w = W x0 x1) (hi : I x0 x1) (hm : μ x0 x1 < μ y0 y1) :
    KR P R (.asr (BackR2 R n I S W μ y0 y1) :: k) n σ w :=
  KR.back (I := fun p : α × β => I p.1 p.2) (S := fun p => S p.1 p.2) (W := fun p => W p.1 p.2) (μ := fun p => μ p.1 p.2) (x0, x1) hs hw hi hm
theorem KR.cut2 {α β : Type} (I : α → β → Prop) (S : α → β → Sig) (W : α → β → World) {c : Code} (h : KR P R (.code c :: .asr (MetR2 R n I S W) :: k) n σ w)
    (h2 : ∀ x0 x1, I x0 x1 → KR P R k n (S x0 x1) (W x0 x1)) : KR P R (.code c :: k) n σ w :=
  KR.cut (fun p : α × β => I p.1 p.2) (fun p => S p.1 p.2) (fun p => W p.1 p.2) h fun p hp => h2 p.1 p.2 hp
theorem KR.meet2 {α β : Type} {I : α → β → Prop} {S : α → β → Sig} {W : α → β → World} (x0 : α) (x1 : β) (hs : Subs (S x0 x1) σ) (hw : w = W x0 x1) (hi : I x0 x1) :
    KR P R (.asr (MetR2 R n I S W) :: k) n σ w :=
  KR.meet (I := fun p : α × β => I p.1 p.2) (S := fun p => S p.1 p.2) (W := fun p => W p.1 p.2) (x0, x1) hs hw hi
def BackR3 {α β γ : Type} (R : RP) (n : Nat) (I : α → β → γ → Prop) (S : α → β → γ → Sig) (W : α → β → γ → World) (μ : α → β → γ → Nat) (x0 : α) (x1 : β) (x2 : γ) : Act → World → Prop :=
  BackR R n (fun p : α × β × γ => I p.1 p.2.1 p.2.2) (fun p => S p.1 p.2.1 p.2.2) (fun p => W p.1 p.2.1 p.2.2) (fun p => μ p.1 p.2.1 p.2.2) (x0, x1, x2)
def MetR3 {α β γ : Type} (R : RP) (n : Nat) (I : α → β → γ → Prop) (S : α → β → γ → Sig) (W : α → β → γ → World) : Act → World → Prop :=
  MetR R n (fun p : α × β × γ => I p.1 p.2.1 p.2.2) (fun p => S p.1 p.2.1 p.2.2) (fun p => W p.1 p.2.1 p.2.2)
theorem KR.loop3 {α β γ : Type} (I : α → β → γ → Prop) (S : α → β → γ → Sig) (W : α → β → γ → World) (μ : α → β → γ → Nat) {c : Code} (x0 : α) (x1 : β) (x2 : γ) (hs : Subs (S x0 x1 x2) σ) (hw : w = W x0 x1 x2) (hi : I x0 x1 x2)
    (round : ∀ x0 x1 x2, I x0 x1 x2 → KR P R (.code c :: .asr (BackR3 R n I S W μ x0 x1 x2) :: k) n (S x0 x1 x2) (W x0 x1 x2)) : KR P R (.code (.loop c) :: k) n σ w :=
  KR.loop (fun p : α × β × γ => I p.1 p.2.1 p.2.2) (fun p => S p.1 p.2.1 p.2.2) (fun p => W p.1 p.2.1 p.2.2) (fun p => μ p.1 p.2.1 p.2.2) (x0, x1, x2) hs hw hi fun p hp => round p.1 p.2.1 p.2.2 hp
theorem KR.back3 {α β γ : Type} {I : α → β → γ → Prop} {S : α → β → γ → Sig} {W : α → β → γ → World} {μ : α → β → γ → Nat} {y0 : α} {y1 : β} {y2 : γ} (x0 : α) (x1 : β) (x2 : γ) (hs : Subs (S x0 x1 x2) σ) (hw : w = W x0 x1 x2) (hi : I x0 x1 x2) (hm : μ x0 x1 x2 < μ y0 y1 y2) :
    KR P R (.asr (BackR3 R n I S W μ y0 y1 y2) :: k) n σ w :=
  KR.back (I := fun p : α × β × γ => I p.1 p.2.1 p.2.2) (S := fun p => S p.1 p.2.1 p.2.2) (W := fun p => W p.1 p.2.1 p.2.2) (μ := fun p => μ p.1 p.2.1 p.2.2) (x0, x1, x2) hs hw hi hm
theorem KR.cut3 {α β γ : Type} (I : α → β → γ → Prop) (S : α → β → γ → Sig) (W : α → β → γ → World) {c : Code} (h : KR P R (.code c :: .asr (MetR3 R n I S W) :: k) n σ w)
    (h2 : ∀ x0 x1 x2, I x0 x1 x2 → KR P R k n (S x0 x1 x2) (W x0 x1 x2)) : KR P R (.code c :: k) n σ w :=
  KR.cut (fun p : α × β × γ => I p.1 p.2.1 p.2.2) (fun p => S p.1 p.2.1 p.2.2) (fun p => W p.1 p.2.1 p.2.2) h fun p hp => h2 p.1 p.2.1 p.2.2 hp
theorem KR.meet3 {α β γ : Type} {I : α → β → γ → Prop} {S : α → β → γ → Sig} {W : α → β → γ → World} (x0 : α) (x1 : β) (x2 : γ) (hs : Subs (S x0 x1 x2) σ) (hw : w = W x0 x1 x2) (hi : I x0 x1 x2) :
    KR P R (.asr (MetR3 R n I S W) :: k) n σ w :=
  KR.meet (I := fun p : α × β × γ => I p.1 p.2.1 p.2.2) (S := fun p => S p.1 p.2.1 p.2.2) (W := fun p => W p.1 p.2.1 p.2.2) (x0, x1, x2) hs hw hi
def BackR4 {α β γ δ : Type} (R : RP) (n : Nat) (I : α → β → γ → δ → Prop) (S : α → β → γ → δ → Sig) (W : α → β → γ → δ → World) (μ : α → β → γ → δ → Nat) (x0 : α) (x1 : β) (x2 : γ) (x3 : δ) : Act → World → Prop :=
  BackR R n (fun p : α × β × γ × δ => I p.1 p.2.1 p.2.2.1 p.2.2.2) (fun p => S p.1 p.2.1 p.2.2.1 p.2.2.2) (fun p => W p.1 p.2.1 p.2.2.1 p.2.2.2) (fun p => μ p.1 p.2.1 p.2.2.1 p.2.2.2) (x0, x1, x2, x3)
def MetR4 {α β γ δ : Type} (R : RP) (n : Nat) (I : α → β → γ → δ → Prop) (S : α → β → γ → δ → Sig) (W : α → β → γ → δ → World) : Act → World → Prop :=
  MetR R n (fun p : α × β × γ × δ => I p.1 p.2.1 p.2.2.1 p.2.2.2) (fun p => S p.1 p.2.1 p.2.2.1 p.2.2.2) (fun p => W p.1 p.2.1 p.2.2.1 p.2.2.2)
theorem KR.loop4 {α β γ δ : Type} (I : α → β → γ → δ → Prop) (S : α → β → γ → δ → Sig) (W : α → β → γ → δ → World) (μ : α → β → γ → δ → Nat) {c : Code} (x0 : α) (x1 : β) (x2 : γ) (x3 : δ) (hs : Subs (S x0 x1 x2 x3) σ) (hw : w = W x0 x1 x2 x3) (hi : I x0 x1 x2 x3)
    (round : ∀ x0 x1 x2 x3, I x0 x1 x2 x3 → KR P R (.code c :: .asr (BackR4 R n I S W μ x0 x1 x2 x3) :: k) n (S x0 x1 x2 x3) (W x0 x1 x2 x3)) : KR P R (.code (.loop c) :: k) n σ w :=
  KR.loop (fun p : α × β × γ × δ => I p.1 p.2.1 p.2.2.1 p.2.2.2) (fun p => S p.1 p.2.1 p.2.2.1 p.2.2.2) (fun p => W p.1 p.2.1 p.2.2.1 p.2.2.2) (fun p => μ p.1 p.2.1 p.2.2.1 p.2.2.2) (x0, x1, x2, x3) hs hw hi fun p hp => round p.1 p.2.1 p.2.2.1 p.2.2.2 hp
theorem KR.back4 {α β γ δ : Type} {I : α → β → γ → δ → Prop} {S : α → β → γ → δ → Sig} {W : α → β → γ → δ → World} {μ : α → β → γ → δ → Nat} {y0 : α} {y1 : β} {y2 : γ} {y3 : δ} (x0 : α) (x1 : β) (x2 : γ) (x3 : δ) (hs : Subs (S x0 x1 x2 x3) σ) (hw : w = W x0 x1 x2 x3) (hi : I x0 x1 x2 x3) (hm : μ x0 x1 x2 x3 < μ y0 y1 y2 y3) :
    KR P R (.asr (BackR4 R n I S W μ y0 y1 y2 y3) :: k) n σ w :=
  KR.back (I := fun p : α × β × γ × δ => I p.1 p.2.1 p.2.2.1 p.2.2.2) (S := fun p => S p.1 p.2.1 p.2.2.1 p.2.2.2) (W := fun p => W p.1 p.2.1 p.2.2.1 p.2.2.2) (μ := fun p => μ p.1 p.2.1 p.2.2.1 p.2.2.2) (x0, x1, x2, x3) hs hw hi hm
theorem KR.cut4 {α β γ δ : Type} (I : α → β → γ → δ → Prop) (S : α → β → γ → δ → Sig) (W : α → β → γ → δ → World) {c : Code} (h : KR P R (.code c :: .asr (MetR4 R n I S W) :: k) n σ w)
    (h2 : ∀ x0 x1 x2 x3, I x0 x1 x2 x3 → KR P R k n (S x0 x1 x2 x3) (W x0 x1 x2 x3)) : KR P R (.code c :: k) n σ w :=
  KR.cut (fun p : α × β × γ × δ => I p.1 p.2.1 p.2.2.1 p.2.2.2) (fun p => S p.1 p.2.1 p.2.2.1 p.2.2.2) (fun p => W p.1 p.2.1 p.2.2.1 p.2.2.2) h fun p hp => h2 p.1 p.2.1 p.2.2.1 p.2.2.2 hp
theorem KR.meet4 {α β γ δ : Type} {I : α → β → γ → δ → Prop} {S : α → β → γ → δ → Sig} {W : α → β → γ → δ → World} (x0 : α) (x1 : β) (x2 : γ) (x3 : δ) (hs : Subs (S x0 x1 x2 x3) σ) (hw : w = W x0 x1 x2 x3) (hi : I x0 x1 x2 x3) :
    KR P R (.asr (MetR4 R n I S W) :: k) n σ w :=
  KR.meet (I := fun p : α × β × γ × δ => I p.1 p.2.1 p.2.2.1 p.2.2.2) (S := fun p => S p.1 p.2.1 p.2.2.1 p.2.2.2) (W := fun p => W p.1 p.2.1 p.2.2.1 p.2.2.2) (x0, x1, x2, x3) hs hw hi
def BackR5 {α β γ δ ε : Type} (R : RP) (n : Nat) (I : α → β → γ → δ → ε → Prop) (S : α → β → γ → δ → ε → Sig) (W : α → β → γ → δ → ε → World) (μ : α → β → γ → δ → ε → Nat) (x0 : α) (x1 : β) (x2 : γ) (x3 : δ) (x4 : ε) : Act → World → Prop :=
  BackR R n (fun p : α × β × γ × δ × ε => I p.1 p.2.1 p.2.2.1 p.2.2.2.1 p.2.2.2.2) (fun p => S p.1 p.2.1 p.2.2.1 p.2.2.2.1 p.2.2.2.2) (fun p => W p.1 p.2.1 p.2.2.1 p.2.2.2.1 p.2.2.2.2) (fun p => μ p.1 p.2.1 p.2.2.1 p.2.2.2.1 p.2.2.2.2) (x0, x1, x2, x3, x4)
def MetR5 {α β γ δ ε : Type} (R : RP) (n : Nat) (I : α → β → γ → δ → ε → Prop) (S : α → β → γ → δ → ε → Sig) (W : α → β → γ → δ → ε → World) : Act → World → Prop :=
  MetR R n (fun p : α × β × γ × δ × ε => I p.1 p.2.1 p.2.2.1 p.2.2.2.1 p.2.2.2.2) (fun p => S p.1 p.2.1 p.2.2.1 p.2.2.2.1 p.2.2.2.2) (fun p => W p.1 p.2.1 p.2.2.1 p.2.2.2.1 p.2.2.2.2)
theorem KR.loop5 {α β γ δ ε : Type} (I : α → β → γ → δ → ε → Prop) (S : α → β → γ → δ → ε → Sig) (W : α → β → γ → δ → ε → World) (μ : α → β → γ → δ → ε → Nat) {c : Code} (x0 : α) (x1 : β) (x2 : γ) (x3 : δ) (x4 : ε) (hs : Subs (S x0 x1 x2 x3 x4) σ) (hw : w = W x0 x1 x2 x3 x4) (hi : I x0 x1 x2 x3 x4)
    (round : ∀ x0 x1 x2 x3 x4, I x0 x1 x2 x3 x4 → KR P R (.code c :: .asr (BackR5 R n I S W μ x0 x1 x2 x3 x4) :: k) n (S x0 x1 x2 x3 x4) (W x0 x1 x2 x3 x4)) : KR P R (.code (.loop c) :: k) n σ w :=
  KR.loop (fun p : α × β × γ × δ × ε => I p.1 p.2.1 p.2.2.1 p.2.2.2.1 p.2.2.2.2) (fun p => S p.1 p.2.1 p.2.2.1 p.2.2.2.1 p.2.2.2.2) (fun p => W p.1 p.2.1 p.2.2.1 p.2.2.2.1 p.2.2.2.2) (fun p => μ p.1 p.2.1 p.2.2.1 p.2.2.2.1 p.2.2.2.2) (x0, x1, x2, x3, x4) hs hw hi fun p hp => round p.1 p.2.1 p.2.2.1 p.2.2.2.1 p.2.2.2.2 hp
theorem KR.back5 {α β γ δ ε : Type} {I : α → β → γ → δ → ε → Prop} {S : α → β → γ → δ → ε → Sig} {W : α → β → γ → δ → ε → World} {μ : α → β → γ → δ → ε → Nat} {y0 : α} {y1 : β} {y2 : γ} {y3 : δ} {y4 : ε} (x0 : α) (x1 : β) (x2 : γ) (x3 : δ) (x4 : ε) (hs : Subs (S x0 x1 x2 x3 x4) σ) (hw : w = W x0 x1 x2 x3 x4) (hi : I x0 x1 x2 x3 x4) (hm : μ x0 x1 x2 x3 x4 < μ y0 y1 y2 y3 y4) :
    KR P R (.asr (BackR5 R n I S W μ y0 y1 y2 y3 y4) :: k) n σ w :=
  KR.back (I := fun p : α × β × γ × δ × ε => I p.1 p.2.1 p.2.2.1 p.2.2.2.1 p.2.2.2.2) (S := fun p => S p.1 p.2.1 p.2.2.1 p.2.2.2.1 p.2.2.2.2) (W := fun p => W p.1 p.2.1 p.2.2.1 p.2.2.2.1 p.2.2.2.2) (μ := fun p => μ p.1 p.2.1 p.2.2.1 p.2.2.2.1 p.2.2.2.2) (x0, x1, x2, x3, x4) hs hw hi hm
theorem KR.cut5 {α β γ δ ε : Type} (I : α → β → γ → δ → ε → Prop) (S : α → β → γ → δ → ε → Sig) (W : α → β → γ → δ → ε → World) {c : Code} (h : KR P R (.code c :: .asr (MetR5 R n I S W) :: k) n σ w)
    (h2 : ∀ x0 x1 x2 x3 x4, I x0 x1 x2 x3 x4 → KR P R k n (S x0 x1 x2 x3 x4) (W x0 x1 x2 x3 x4)) : KR P R (.code c :: k) n σ w :=
  KR.cut (fun p : α × β × γ × δ × ε => I p.1 p.2.1 p.2.2.1 p.2.2.2.1 p.2.2.2.2) (fun p => S p.1 p.2.1 p.2.2.1 p.2.2.2.1 p.2.2.2.2) (fun p => W p.1 p.2.1 p.2.2.1 p.2.2.2.1 p.2.2.2.2) h fun p hp => h2 p.1 p.2.1 p.2.2.1 p.2.2.2.1 p.2.2.2.2 hp
theorem KR.meet5 {α β γ δ ε : Type} {I : α → β → γ → δ → ε → Prop} {S : α → β → γ → δ → ε → Sig} {W : α → β → γ → δ → ε → World} (x0 : α) (x1 : β) (x2 : γ) (x3 : δ) (x4 : ε) (hs : Subs (S x0 x1 x2 x3 x4) σ) (hw : w = W x0 x1 x2 x3 x4) (hi : I x0 x1 x2 x3 x4) :
    KR P R (.asr (MetR5 R n I S W) :: k) n σ w :=
  KR.meet (I := fun p : α × β × γ × δ × ε => I p.1 p.2.1 p.2.2.1 p.2.2.2.1 p.2.2.2.2) (S := fun p => S p.1 p.2.1 p.2.2.1 p.2.2.2.1 p.2.2.2.2) (W := fun p => W p.1 p.2.1 p.2.2.1 p.2.2.2.1 p.2.2.2.2) (x0, x1, x2, x3, x4) hs hw hi
def BackR6 {α β γ δ ε ζ : Type} (R : RP) (n : Nat) (I : α → β → γ → δ → ε → ζ → Prop) (S : α → β → γ → δ → ε → ζ → Sig) (W : α → β → γ → δ → ε → ζ → World) (μ : α → β → γ → δ → ε → ζ → Nat) (x0 : α) (x1 : β) (x2 : γ) (x3 : δ) (x4 : ε) (x5 : ζ) : Act → World → Prop :=
  BackR R n (fun p : α × β × γ × δ × ε × ζ => I p.1 p.2.1 p.2.2.1 p.2.2.2.1 p.2.2.2.2.1 p.2.2.2.2.2) (fun p => S p.1 p.2.1 p.2.2.1 p.2.2.2.1 p.2.2.2.2.1 p.2.2.2.2.2) (fun p => W p.1 p.2.1 p.2.2.1 p.2.2.2.1 p.2.2.2.2.1 p.2.2.2.2.2) (fun p => μ p.1 p.2.1 p.2.2.1 p.2.2.2.1 p.2.2.2.2.1 p.2.2.2.2.2) (x0, x1, x2, x3, x4, x5)
def MetR6 {α β γ δ ε ζ : Type} (R : RP) (n : Nat) (I : α → β → γ → δ → ε → ζ → Prop) (S : α → β → γ → δ → ε → ζ → Sig) (W : α → β → γ → δ → ε → ζ → World) : Act → World → Prop :=
  MetR R n (fun p : α × β × γ × δ × ε × ζ => I p.1 p.2.1 p.2.2.1 p.2.2.2.1 p.2.2.2.2.1 p.2.2.2.2.2) (fun p => S p.1 p.2.1 p.2.2.1 p.2.2.2.1 p.2.2.2.2.1 p.2.2.2.2.2) (fun p => W p.1 p.2.1 p.2.2.1 p.2.2.2.1 p.2.2.2.2.1 p.2.2.2.2.2)
theorem KR.loop6 {α β γ δ ε ζ : Type} (I : α → β → γ → δ → ε → ζ → Prop) (S : α → β → γ → δ → ε → ζ → Sig) (W : α → β → γ → δ → ε → ζ → World) (μ : α → β → γ → δ → ε → ζ → Nat) {c : Code} (x0 : α) (x1 : β) (x2 : γ) (x3 : δ) (x4 : ε) (x5 : ζ) (hs : Subs (S x0 x1 x2 x3 x4 x5) σ) (hw : w = W x0 x1 x2 x3 x4 x5) (hi : I x0 x1 x2 x3 x4 x5)
    (round : ∀ x0 x1 x2 x3 x4 x5, I x0 x1 x2 x3 x4 x5 → KR P R (.code c :: .asr (BackR6 R n I S W μ x0 x1 x2 x3 x4 x5) :: k) n (S x0 x1 x2 x3 x4 x5) (W x0 x1 x2 x3 x4 x5)) : KR P R (.code (.loop c) :: k) n σ w :=
  KR.loop (fun p : α × β × γ × δ × ε × ζ => I p.1 p.2.1 p.2.2.1 p.2.2.2.1 p.2.2.2.2.1 p.2.2.2.2.2) (fun p => S p.1 p.2.1 p.2.2.1 p.2.2.2.1 p.2.2.2.2.1 p.2.2.2.2.2) (fun p => W p.1 p.2.1 p.2.2.1 p.2.2.2.1 p.2.2.2.2.1 p.2.2.2.2.2) (fun p => μ p.1 p.2.1 p.2.2.1 p.2.2.2.1 p.2.2.2.2.1 p.2.2.2.2.2) (x0, x1, x2, x3, x4, x5) hs hw hi fun p hp => round p.1 p.2.1 p.2.2.1 p.2.2.2.1 p.2.2.2.2.1 p.2.2.2.2.2 hp
theorem KR.back6 {α β γ δ ε ζ : Type} {I : α → β → γ → δ → ε → ζ → Prop} {S : α → β → γ → δ → ε → ζ → Sig} {W : α → β → γ → δ → ε → ζ → World} {μ : α → β → γ → δ → ε → ζ → Nat} {y0 : α} {y1 : β} {y2 : γ} {y3 : δ} {y4 : ε} {y5 : ζ} (x0 : α) (x1 : β) (x2 : γ) (x3 : δ) (x4 : ε) (x5 : ζ) (hs : Subs (S x0 x1 x2 x3 x4 x5) σ) (hw : w = W x0 x1 x2 x3 x4 x5) (hi : I x0 x1 x2 x3 x4 x5) (hm : μ x0 x1 x2 x3 x4 x5 < μ y0 y1 y2 y3 y4 y5) :
    KR P R (.asr (BackR6 R n I S W μ y0 y1 y2 y3 y4 y5) :: k) n σ w :=
  KR.back (I := fun p : α × β × γ × δ × ε × ζ => I p.1 p.2.1 p.2.2.1 p.2.2.2.1 p.2.2.2.2.1 p.2.2.2.2.2) (S := fun p => S p.1 p.2.1 p.2.2.1 p.2.2.2.1 p.2.2.2.2.1 p.2.2.2.2.2) (W := fun p => W p.1 p.2.1 p.2.2.1 p.2.2.2.1 p.2.2.2.2.1 p.2.2.2.2.2) (μ := fun p => μ p.1 p.2.1 p.2.2.1 p.2.2.2.1 p.2.2.2.2.1 p.2.2.2.2.2) (x0, x1, x2, x3, x4, x5) hs hw hi hm
theorem KR.cut6 {α β γ δ ε ζ : Type} (I : α → β → γ → δ → ε → ζ → Prop) (S : α → β → γ → δ → ε → ζ → Sig) (W : α → β → γ → δ → ε → ζ → World) {c : Code} (h : KR P R (.code c :: .asr (MetR6 R n I S W) :: k) n σ w)
    (h2 : ∀ x0 x1 x2 x3 x4 x5, I x0 x1 x2 x3 x4 x5 → KR P R k n (S x0 x1 x2 x3 x4 x5) (W x0 x1 x2 x3 x4 x5)) : KR P R (.code c :: k) n σ w :=
  KR.cut (fun p : α × β × γ × δ × ε × ζ => I p.1 p.2.1 p.2.2.1 p.2.2.2.1 p.2.2.2.2.1 p.2.2.2.2.2) (fun p => S p.1 p.2.1 p.2.2.1 p.2.2.2.1 p.2.2.2.2.1 p.2.2.2.2.2) (fun p => W p.1 p.2.1 p.2.2.1 p.2.2.2.1 p.2.2.2.2.1 p.2.2.2.2.2) h fun p hp => h2 p.1 p.2.1 p.2.2.1 p.2.2.2.1 p.2.2.2.2.1 p.2.2.2.2.2 hp
theorem KR.meet6 {α β γ δ ε ζ : Type} {I : α → β → γ → δ → ε → ζ → Prop} {S : α → β → γ → δ → ε → ζ → Sig} {W : α → β → γ → δ → ε → ζ → World} (x0 : α) (x1 : β) (x2 : γ) (x3 : δ) (x4 : ε) (x5 : ζ) (hs : Subs (S x0 x1 x2 x3 x4 x5) σ) (hw : w = W x0 x1 x2 x3 x4 x5) (hi : I x0 x1 x2 x3 x4 x5) :
    KR P R (.asr (MetR6 R n I S W) :: k) n σ w :=
  KR.meet (I := fun p : α × β × γ × δ × ε × ζ => I p.1 p.2.1 p.2.2.1 p.2.2.2.1 p.2.2.2.2.1 p.2.2.2.2.2) (S := fun p => S p.1 p.2.1 p.2.2.1 p.2.2.2.1 p.2.2.2.2.1 p.2.2.2.2.2) (W := fun p => W p.1 p.2.1 p.2.2.1 p.2.2.2.1 p.2.2.2.2.1 p.2.2.2.2.2) (x0, x1, x2, x3, x4, x5) hs hw hi
def BackR7 {α β γ δ ε ζ η : Type} (R : RP) (n : Nat) (I : α → β → γ → δ → ε → ζ → η → Prop) (S : α → β → γ → δ → ε → ζ → η → Sig) (W : α → β → γ → δ → ε → ζ → η → World) (μ : α → β → γ → δ → ε → ζ → η → Nat) (x0 : α) (x1 : β) (x2 : γ) (x3 : δ) (x4 : ε) (x5 : ζ) (x6 : η) : Act → World → Prop :=
  BackR R n (fun p : α × β × γ × δ × ε × ζ × η => I p.1 p.2.1 p.2.2.1 p.2.2.2.1 p.2.2.2.2.1 p.2.2.2.2.2.1 p.2.2.2.2.2.2) (fun p => S p.1 p.2.1 p.2.2.1 p.2.2.2.1 p.2.2.2.2.1 p.2.2.2.2.2.1 p.2.2.2.2.2.2) (fun p => W p.1 p.2.1 p.2.2.1 p.2.2.2.1 p.2.2.2.2.1 p.2.2.2.2.2.1 p.2.2.2.2.2.2) (fun p => μ p.1 p.2.1 p.2.2.1 p.2.2.2.1 p.2.2.2.2.1 p.2.2.2.2.2.1 p.2.2.2.2.2.2) (x0, x1, x2, x3, x4, x5, x6)
def MetR7 {α β γ δ ε ζ η : Type} (R : RP) (n : Nat) (I : α → β → γ → δ → ε → ζ → η → Prop) (S : α → β → γ → δ → ε → ζ → η → Sig) (W : α → β → γ → δ → ε → ζ → η → World) : Act → World → Prop :=
  MetR R n (fun p : α × β × γ × δ × ε × ζ × η => I p.1 p.2.1 p.2.2.1 p.2.2.2.1 p.2.2.2.2.1 p.2.2.2.2.2.1 p.2.2.2.2.2.2) (fun p => S p.1 p.2.1 p.2.2.1 p.2.2.2.1 p.2.2.2.2.1 p.2.2.2.2.2.1 p.2.2.2.2.2.2) (fun p => W p.1 p.2.1 p.2.2.1 p.2.2.2.1 p.2.2.2.2.1 p.2.2.2.2.2.1 p.2.2.2.2.2.2)
theorem KR.loop7 {α β γ δ ε ζ η : Type} (I : α → β → γ → δ → ε → ζ → η → Prop) (S : α → β → γ → δ → ε → ζ → η → Sig) (W : α → β → γ → δ → ε → ζ → η → World) (μ : α → β → γ → δ → ε → ζ → η → Nat) {c : Code} (x0 : α) (x1 : β) (x2 : γ) (x3 : δ) (x4 : ε) (x5 : ζ) (x6 : η) (hs : Subs (S x0 x1 x2 x3 x4 x5 x6) σ) (hw : w = W x0 x1 x2 x3 x4 x5 x6) (hi : I x0 x1 x2 x3 x4 x5 x6)
    (round : ∀ x0 x1 x2 x3 x4 x5 x6, I x0 x1 x2 x3 x4 x5 x6 → KR P R (.code c :: .asr (BackR7 R n I S W μ x0 x1 x2 x3 x4 x5 x6) :: k) n (S x0 x1 x2 x3 x4 x5 x6) (W x0 x1 x2 x3 x4 x5 x6)) : KR P R (.code (.loop c) :: k) n σ w :=
  KR.loop (fun p : α × β × γ × δ × ε × ζ × η => I p.1 p.2.1 p.2.2.1 p.2.2.2.1 p.2.2.2.2.1 p.2.2.2.2.2.1 p.2.2.2.2.2.2) (fun p => S p.1 p.2.1 p.2.2.1 p.2.2.2.1 p.2.2.2.2.1 p.2.2.2.2.2.1 p.2.2.2.2.2.2) (fun p => W p.1 p.2.1 p.2.2.1 p.2.2.2.1 p.2.2.2.2.1 p.2.2.2.2.2.1 p.2.2.2.2.2.2) (fun p => μ p.1 p.2.1 p.2.2.1 p.2.2.2.1 p.2.2.2.2.1 p.2.2.2.2.2.1 p.2.2.2.2.2.2) (x0, x1, x2, x3, x4, x5, x6) hs hw hi fun p hp => round p.1 p.2.1 p.2.2.1 p.2.2.2.1 p.2.2.2.2.1 p.2.2.2.2.2.1 p.2.2.2.2.2.2 hp
theorem KR.back7 {α β γ δ ε ζ η : Type} {I : α → β → γ → δ → ε → ζ → η → Prop} {S : α → β → γ → δ → ε → ζ → η → Sig} {W : α → β → γ → δ → ε → ζ → η → World} {μ : α → β → γ → δ → ε → ζ → η → Nat} {y0 : α} {y1 : β} {y2 : γ} {y3 : δ} {y4 : ε} {y5 : ζ} {y6 : η} (x0 : α) (x1 : β) (x2 : γ) (x3 : δ) (x4 : ε) (x5 : ζ) (x6 : η) (hs : Subs (S x0 x1 x2 x3 x4 x5 x6) σ) (hw : w = W x0 x1 x2 x3 x4 x5 x6) (hi : I x0 x1 x2 x3 x4 x5 x6) (hm : μ x0 x1 x2 x3 x4 x5 x6 < μ y0 y1 y2 y3 y4 y5 y6) :
    KR P R (.asr (BackR7 R n I S W μ y0 y1 y2 y3 y4 y5 y6) :: k) n σ w :=
  KR.back (I := fun p : α × β × γ × δ × ε × ζ × η => I p.1 p.2.1 p.2.2.1 p.2.2.2.1 p.2.2.2.2.1 p.2.2.2.2.2.1 p.2.2.2.2.2.2) (S := fun p => S p.1 p.2.1 p.2.2.1 p.2.2.2.1 p.2.2.2.2.1 p.2.2.2.2.2.1 p.2.2.2.2.2.2) (W := fun p => W p.1 p.2.1 p.2.2.1 p.2.2.2.1 p.2.2.2.2.1 p.2.2.2.2.2.1 p.2.2.2.2.2.2) (μ := fun p => μ p.1 p.2.1 p.2.2.1 p.2.2.2.1 p.2.2.2.2.1 p.2.2.2.2.2.1 p.2.2.2.2.2.2) (x0, x1, x2, x3, x4, x5, x6) hs hw hi hm
theorem KR.cut7 {α β γ δ ε ζ η : Type} (I : α → β → γ → δ → ε → ζ → η → Prop) (S : α → β → γ → δ → ε → ζ → η → Sig) (W : α → β → γ → δ → ε → ζ → η → World) {c : Code} (h : KR P R (.code c :: .asr (MetR7 R n I S W) :: k) n σ w)
    (h2 : ∀ x0 x1 x2 x3 x4 x5 x6, I x0 x1 x2 x3 x4 x5 x6 → KR P R k n (S x0 x1 x2 x3 x4 x5 x6) (W x0 x1 x2 x3 x4 x5 x6)) : KR P R (.code c :: k) n σ w :=
  KR.cut (fun p : α × β × γ × δ × ε × ζ × η => I p.1 p.2.1 p.2.2.1 p.2.2.2.1 p.2.2.2.2.1 p.2.2.2.2.2.1 p.2.2.2.2.2.2) (fun p => S p.1 p.2.1 p.2.2.1 p.2.2.2.1 p.2.2.2.2.1 p.2.2.2.2.2.1 p.2.2.2.2.2.2) (fun p => W p.1 p.2.1 p.2.2.1 p.2.2.2.1 p.2.2.2.2.1 p.2.2.2.2.2.1 p.2.2.2.2.2.2) h fun p hp => h2 p.1 p.2.1 p.2.2.1 p.2.2.2.1 p.2.2.2.2.1 p.2.2.2.2.2.1 p.2.2.2.2.2.2 hp
theorem KR.meet7 {α β γ δ ε ζ η : Type} {I : α → β → γ → δ → ε → ζ → η → Prop} {S : α → β → γ → δ → ε → ζ → η → Sig} {W : α → β → γ → δ → ε → ζ → η → World} (x0 : α) (x1 : β) (x2 : γ) (x3 : δ) (x4 : ε) (x5 : ζ) (x6 : η) (hs : Subs (S x0 x1 x2 x3 x4 x5 x6) σ) (hw : w = W x0 x1 x2 x3 x4 x5 x6) (hi : I x0 x1 x2 x3 x4 x5 x6) :
    KR P R (.asr (MetR7 R n I S W) :: k) n σ w :=
  KR.meet (I := fun p : α × β × γ × δ × ε × ζ × η => I p.1 p.2.1 p.2.2.1 p.2.2.2.1 p.2.2.2.2.1 p.2.2.2.2.2.1 p.2.2.2.2.2.2) (S := fun p => S p.1 p.2.1 p.2.2.1 p.2.2.2.1 p.2.2.2.2.1 p.2.2.2.2.2.1 p.2.2.2.2.2.2) (W := fun p => W p.1 p.2.1 p.2.2.1 p.2.2.2.1 p.2.2.2.2.1 p.2.2.2.2.2.1 p.2.2.2.2.2.2) (x0, x1, x2, x3, x4, x5, x6) hs hw hi
end


/-! ### A region -/
def OR (P : Program) (R : RP) (ops : Array Oper) (l : List Oper) (k : List KI) (n : Nat) (σ : Sig) (w : World) : Prop := ∀ a, FrD R n σ a → wpListIn R.F R.m P ops (psr P R k) l a w
section
variable {P : Program} {R : RP} {ops : Array Oper} {l rest : List Oper} {k : List KI} {n : Nat} {σ : Sig} {w w' : World}
theorem KR.region {id : Nat} (h : OR P R l.toArray l k n σ w) : KR P R (.code (.region id l.toArray false) :: k) n σ w := fun a ha => wpIn_region_lit (h a ha)
theorem OR.nil (h : KR P R k n σ w) : OR P R ops [] k n σ w := h
theorem OR.sub {σ' : Sig} (hs : Subs σ' σ) (h : OR P R ops l k n σ' w) : OR P R ops l k n σ w := fun a ha => h a (ha.sub hs)
theorem FrD.as {a : Act} (t : Nat) (v' : Value) {v : Value} (ht : lk σ t = some v) (e : v = v') (ha : FrD R n σ a) : FrD R n ((t, v') :: σ) a :=
  ⟨⟨ha.fr.size, fun i u hu => by
    rw [lk_cons] at hu
    by_cases e' : t = i
    · subst e'
      simp at hu
      subst hu
      rw [← e]
      exact ha.fr.val t _ ht
    · simp [e'] at hu
      exact ha.fr.val i u hu, ha.fr.df⟩, ha.df⟩
theorem OR.as (t : Nat) (v' : Value) {v : Value} (ht : lk σ t = some v) (e : v = v') (h : OR P R ops l k n ((t, v') :: σ) w) : OR P R ops l k n σ w := fun a ha => h a (ha.as t v' ht e)
theorem KR.as (t : Nat) (v' : Value) {v : Value} (ht : lk σ t = some v) (e : v = v') (h : KR P R k n ((t, v') :: σ) w) : KR P R k n σ w := fun a ha => h a (ha.as t v' ht e)
theorem OR.split (t : Nat) {b : Bool} (ht : lk σ t = some (.bool b)) (h1 : b = true → OR P R ops l k n ((t, .bool true) :: σ) w) (h2 : b = false → OR P R ops l k n ((t, .bool false) :: σ) w) : OR P R ops l k n σ w := by
  cases b with
  | true => exact OR.as t _ ht rfl (h1 rfl)
  | false => exact OR.as t _ ht rfl (h2 rfl)
theorem OR.splitD (t : Nat) {p : Prop} [Decidable p] (ht : lk σ t = some (.bool (decide p))) (h1 : p → OR P R ops l k n ((t, .bool true) :: σ) w) (h2 : ¬ p → OR P R ops l k n ((t, .bool false) :: σ) w) : OR P R ops l k n σ w :=
  OR.split t ht (fun e => h1 (of_decide_eq_true e)) (fun e => h2 (of_decide_eq_false e))
theorem wantD {a : Act} (ha : FrD R n σ a) {o : Oper} {b : Bool} (h : wantS ops σ o.guard = some b) : Region.wanted o (yielded ops a.tmps) = b := wantS_spec ha.fr h
theorem RP.semAt (R : RP) {ρ : Operand → Value} {o : Oper} {r : Result Next} {w : World} (h : (execOp ρ o).run P w = r) (hd : ∀ c, o.op ≠ .defer c) : (o.semAt R.F.round ρ).run P w = r := by rw [Oper.semAt_eq _ _ _ hd]; exact h
theorem EX.noDefer {op : Op} {ty : TypeId} {v : Value} (he : EX P n σ op ty w v w') {a : Act} (ha : Fr n σ a) : ∀ c, op ≠ .defer c := fun c e => by
  subst e
  have h := he a ha none "" #[] none
  unfold execOp at h
  simp only [Sem.run_bind] at h
  unfold Result.andThen at h
  split at h <;> simp at h
theorem EU.noDefer {op : Op} {ty : TypeId} (he : EU P n σ op ty w w') {a : Act} (ha : Fr n σ a) : ∀ c, op ≠ .defer c := fun c e => by
  subst e
  have h := he a ha none "" #[] none
  unfold execOp at h
  simp only [Sem.run_bind] at h
  unfold Result.andThen at h
  split at h <;> simp at h
theorem EC.noDefer {op : Op} {ty : TypeId} {f : FuncId} {args : Array Value} (he : EC P n σ op ty w f args) {a : Act} (ha : Fr n σ a) : ∀ c, op ≠ .defer c := fun c e => by
  subst e
  have h := he a ha none "" #[] none
  unfold execOp at h
  simp only [Sem.run_bind] at h
  unfold Result.andThen at h
  split at h <;> simp at h
theorem evalD (a : Act) : ({ a with defers := [] } : Act).eval = a.eval := by funext x; cases x <;> rfl
theorem OR.val {d : Nat} {op : Op} {ty : TypeId} {pos : String} {after : Array Edge} {g : Option (Nat × Bool)} {v : Value} (hg : wantS ops σ g = some true) (hd : Nat.blt d n = true) (he : EX P n σ op ty w v w')
    (h : OR P R ops rest k n ((d, v) :: σ) w') : OR P R ops (⟨some d, op, ty, pos, after, g⟩ :: rest) k n σ w := fun a ha => by
  have h1 := he _ ha.fr (some d) pos after g
  rw [evalD] at h1
  unfold wpListIn
  rw [if_pos (wantD ha (o := ⟨some d, op, ty, pos, after, g⟩) hg)]
  refine ⟨fun _ _ => trivial, ?_⟩
  rw [R.semAt h1 (he.noDefer ha.fr)]
  exact h _ (ha.put hd v)
theorem OR.eff {op : Op} {ty : TypeId} {pos : String} {after : Array Edge} {g : Option (Nat × Bool)} (hg : wantS ops σ g = some true) (he : EU P n σ op ty w w')
    (h : OR P R ops rest k n σ w') : OR P R ops (⟨none, op, ty, pos, after, g⟩ :: rest) k n σ w := fun a ha => by
  have h1 := he _ ha.fr none pos after g
  rw [evalD] at h1
  unfold wpListIn
  rw [if_pos (wantD ha (o := ⟨none, op, ty, pos, after, g⟩) hg)]
  refine ⟨fun _ _ => trivial, ?_⟩
  rw [R.semAt h1 (he.noDefer ha.fr)]
  exact h _ ha
theorem OR.pass {d : Nat} {op : Op} {ty : TypeId} {pos : String} {after : Array Edge} {g : Option (Nat × Bool)} (hg : wantS ops σ g = some false) (hd : Nat.blt d n = true)
    (h : OR P R ops rest k n ((d, undef) :: σ) w) : OR P R ops (⟨some d, op, ty, pos, after, g⟩ :: rest) k n σ w := fun a ha => by
  unfold wpListIn
  rw [if_neg (by rw [wantD ha (o := ⟨some d, op, ty, pos, after, g⟩) hg]; simp)]
  exact ⟨fun _ _ => trivial, h _ (ha.put hd undef)⟩
theorem OR.passU {op : Op} {ty : TypeId} {pos : String} {after : Array Edge} {g : Option (Nat × Bool)} (hg : wantS ops σ g = some false)
    (h : OR P R ops rest k n σ w) : OR P R ops (⟨none, op, ty, pos, after, g⟩ :: rest) k n σ w := fun a ha => by
  unfold wpListIn
  rw [if_neg (by rw [wantD ha (o := ⟨none, op, ty, pos, after, g⟩) hg]; simp)]
  exact ⟨fun _ _ => trivial, h _ ha⟩
theorem callsIn_round {r : Option Nat} {m : Nat} {f : FuncId} {args : Array Value} {Q : Ending → World → Prop} (h : Calls P f args w Q) : CallsIn { Fence.wide with round := r } m P f args w Q := by
  have h1 : CallsIn Fence.wide m P f args w Q := callsIn_wide.2 h
  exact h1
theorem OR.callE {d : Nat} {op : Op} {ty : TypeId} {pos : String} {after : Array Edge} {g : Option (Nat × Bool)} {f : FuncId} {args : List Value} {Q : Value → World → Prop} (hg : wantS ops σ g = some true) (hd : Nat.blt d n = true)
    (he : EC P n σ op ty w f args.toArray) (hc : Ret P f args w Q) (h : ∀ v w', Q v w' → OR P R ops rest k n ((d, v) :: σ) w') : OR P R ops (⟨some d, op, ty, pos, after, g⟩ :: rest) k n σ w := fun a ha => by
  have h1 := he _ ha.fr (some d) pos after g
  rw [evalD] at h1
  unfold wpListIn
  rw [if_pos (wantD ha (o := ⟨some d, op, ty, pos, after, g⟩) hg)]
  refine ⟨fun _ _ => trivial, ?_⟩
  rw [R.semAt h1 (he.noDefer ha.fr)]
  refine ⟨fun q => (by cases q), ?_⟩
  refine callsIn_round (hc.2.mono fun e w'' ⟨v, he, q⟩ => ?_)
  subst he
  exact h v w'' q _ (ha.put hd v)
theorem OR.call {d : Nat} {f : FuncId} {xs : List Operand} {ats : Array TypeId} {ty : TypeId} {pos : String} {after : Array Edge} {g : Option (Nat × Bool)} {vs : List Value} {Q : Value → World → Prop}
    (hg : wantS ops σ g = some true) (hd : Nat.blt d n = true) (hx : evs σ xs = some vs) (hc : Ret P f vs w Q) (h : ∀ v w', Q v w' → OR P R ops rest k n ((d, v) :: σ) w') :
    OR P R ops (⟨some d, .call { callee := .value (.func f), args := xs.toArray, argTypes := ats }, ty, pos, after, g⟩ :: rest) k n σ w := by
  obtain ⟨⟨fn, h1, h2⟩, _⟩ := id hc
  exact OR.callE hg hd (EC.go h1 h2 hx) hc h
/-- a call of yield: the round's word -/
def YieldR (P : Program) (m l : Nat) (args : List Value) (W : World) (Q : Value → World → Prop) : Prop := YieldAt Fence.wide m P l args.toArray W fun e W' => ∃ v, e = .returned v ∧ Q v W'
theorem OR.yield {d : Nat} {x t : Operand} {ats : Array TypeId} {ty : TypeId} {pos : String} {after : Array Edge} {g : Option (Nat × Bool)} {lr : Nat} {v : Value} {Q : Value → World → Prop} (hr : R.round = none)
    (hg : wantS ops σ g = some true) (hd : Nat.blt d n = true) (ht : ev σ t = some (.func (.yield lr) #[] #[])) (hx : ev σ x = some v) (hc : YieldR P (R.m - 1) lr [v] w Q)
    (h : ∀ u w', Q u w' → OR P R ops rest k n ((d, u) :: σ) w') :
    OR P R ops (⟨some d, .call { callee := .value t, args := #[x], argTypes := ats }, ty, pos, after, g⟩ :: rest) k n σ w := fun a ha => by
  obtain ⟨ro, m, ds, post⟩ := R
  simp only at hr
  subst hr
  obtain ⟨fn, tmps, assign, body, hy, hR⟩ := hc
  have et : a.eval t = .func (.yield lr) #[] #[] := by have := ha.fr.ev ht; rwa [evalD] at this
  have ex : a.eval x = v := by have := ha.fr.ev hx; rwa [evalD] at this
  unfold wpListIn
  rw [if_pos (wantD ha (o := ⟨some d, .call { callee := .value t, args := #[x], argTypes := ats }, ty, pos, after, g⟩) hg)]
  refine ⟨fun _ _ => trivial, ?_⟩
  have h1 : (execOp a.eval ⟨some d, .call { callee := .value t, args := #[x], argTypes := ats }, ty, pos, after, g⟩).run P w = .ok (.round lr fn tmps assign body) w := by
    simp only [execOp, resolve, Deferred.ofValue, et, Sem.run_bind, Sem.run_pure, Result.andThen_ok, invoke]
    simpa [ex] using hy
  rw [RP.semAt _ h1 (by simp)]
  refine ⟨fun q => (by cases q), ?_⟩
  have hR' : RoundIn (RP.F ⟨none, m, ds, post⟩) (m - 1) P lr fn tmps assign body w _ := hR
  refine hR'.mono fun e w'' ⟨u, he, q⟩ => ?_
  subst he
  exact h u w'' q _ (ha.put hd u)
end
section
variable {P : Program} {R : RP} {ops : Array Oper} {rest : List Oper} {k : List KI} {n : Nat} {σ : Sig} {w : World} {x y t : Operand} {T T' e ty : TypeId} {pos : String} {after : Array Edge} {gd : Option (Nat × Bool)} {d : Nat} {v z : Value} {s bs : Nat} {l : List Value}
theorem OR.boxB (hg : wantS ops σ gd = some true) (hd : Nat.blt d n = true) (hx : ev σ x = some v) (h1 : v.oneCell' = true)
    (h : ∀ b w', w.heap.size ≤ b → Bk w' b T [v] → Ext w w' → OR P R ops rest k n ((d, .pointer (some ⟨b, 0, none⟩)) :: σ) w') :
    OR P R ops (⟨some d, .box T x, ty, pos, after, gd⟩ :: rest) k n σ w :=
  OR.val hg hd (EX.box1 hx h1) (h _ _ (Nat.le_refl _) (Bk.new w T [v]) (Ext.alloc w _))
theorem OR.allocB (hg : wantS ops σ gd = some true) (hd : Nat.blt d n = true) (hi : TI P T z s bs) (hl : z.cells.toList = l)
    (h : ∀ b w', w.heap.size ≤ b → Bk w' b T l → Ext w w' → OR P R ops rest k n ((d, .pointer (some ⟨b, 0, none⟩)) :: σ) w') :
    OR P R ops (⟨some d, .alloc T, ty, pos, after, gd⟩ :: rest) k n σ w :=
  OR.val hg hd (EX.alloc hi hl) (h _ _ (Nat.le_refl _) (Bk.new w T l) (Ext.alloc w _))
theorem OR.storeB {b i : Nat} (hg : wantS ops σ gd = some true) (hi : TI P T z 1 bs) (hx : ev σ x = some (.pointer (some ⟨b, i, none⟩))) (hy : ev σ y = some v) (h1 : v.oneCell' = true) (hb : Bk w b T' l) (hlt : i < l.length)
    (h : ∀ w', Bk w' b T' (l.set i v) → Mo w w' [b] → OR P R ops rest k n σ w') :
    OR P R ops (⟨none, .store T x y, ty, pos, after, gd⟩ :: rest) k n σ w :=
  OR.eff hg (EU.storeBk hi hx hy h1 hb hlt) (h _ (hb.set i v) (Mo.set w b i v))
theorem OR.buildB {parts : Array (Nat × Operand)} {vs : List Value} (len : Nat) (hg : wantS ops σ gd = some true) (hd : Nat.blt d n = true) (ht : P.underlying T = some (.slice e)) (hi : TI P e z 1 bs) (hz1 : z.oneCell' = true)
    (hv : evs σ (parts.toList.map (·.2)) = some vs) (hp : parts.toList.map (·.1) = List.range' 0 parts.toList.length) (hl : vs.length = len) (h1 : vs.all (·.oneCell') = true) (hlen : len ≤ 16777216)
    (h : ∀ b w', w.heap.size ≤ b → Bk w' b e vs → Ext w w' → OR P R ops rest k n ((d, .slice (some ⟨b, 0, none⟩) len len) :: σ) w') :
    OR P R ops (⟨some d, .buildSlice T len parts, ty, pos, after, gd⟩ :: rest) k n σ w :=
  OR.val hg hd (EX.buildSlice len ht hi hz1 hv hp hl h1 hlen) (h _ _ (Nat.le_refl _) (Bk.new w e vs) (Ext.alloc w _))
theorem OR.callV {f : FuncId} {xs : List Operand} {ats : Array TypeId} {vs fv cv args : List Value} {Q : Value → World → Prop}
    (hg : wantS ops σ gd = some true) (hd : Nat.blt d n = true) (ht : ev σ t = some (.func (.func f) fv.toArray cv.toArray)) (hx : evs σ xs = some vs) (he : fv ++ vs ++ cv = args) (hc : Ret P f args w Q)
    (h : ∀ v w', Q v w' → OR P R ops rest k n ((d, v) :: σ) w') :
    OR P R ops (⟨some d, .call { callee := .value t, args := xs.toArray, argTypes := ats }, ty, pos, after, gd⟩ :: rest) k n σ w := by
  obtain ⟨⟨fn, h1, h2⟩, _⟩ := id hc
  exact OR.callE hg hd (EC.val h1 h2 ht hx he) hc h
end
section
variable {P : Program} {R : RP} {ops : Array Oper} {rest : List Oper} {k : List KI} {n : Nat} {σ : Sig} {w : World} {x y : Operand} {t t' e ty : TypeId} {pos : String} {after : Array Edge} {gd : Option (Nat × Bool)} {d : Nat}
theorem OR.append (B : Nat) {z : Value} {s bs : Nat} (hg : wantS ops σ gd = some true) (hd : Nat.blt d n = true) (ht : P.underlying t = some (.slice e)) (hi : TI P e z s bs) (hzs : z.cells.size = s) (hs0 : 0 < s)
    {v xv : Value} {m l : Nat} {xs news : List Value} (hx : ev σ x = some v) (hy : ev σ y = some xv) (hown : Own w B e s v l xs) (hsrc : Src P s t' xv m news w)
    (h63 : l + m ≤ maxLen) (hbytes : (l + m) * bs ≤ 140737488355328) (hB : B ≤ w.heap.size)
    (h : ∀ v' w', Own w' B e s v' (l + m) (xs ++ news) → w.grownBy w' v.ownBlock → (v'.ownBlock = v.ownBlock ∨ v'.ownBlock = some w.heap.size) → OR P R ops rest k n ((d, v') :: σ) w') :
    OR P R ops (⟨some d, .call { callee := .builtin .append, args := #[x, y], argTypes := #[t, t'] }, ty, pos, after, gd⟩ :: rest) k n σ w := by
  obtain ⟨v', w', hr, h2, h3, h4⟩ := run_append (P := P) B t t' ty e ht hi hzs hs0 hown hsrc h63 hbytes hB
  refine OR.val hg hd (v := v') (w' := w') ?_ (h v' w' h2 h3 h4)
  intro A ha dst pos after g
  simp only [execOp, resolve, invoke, builtin, Sem.run_bind, Sem.run_pure, Result.andThen_ok, List.map_toArray, List.map_cons, List.map_nil, ha.ev hx, ha.ev hy, hr]
end
section
variable {P : Program} {R : RP} {ops : Array Oper} {rest : List Oper} {k : List KI} {n : Nat} {σ : Sig} {w w0 : World} {x y : Operand} {t t' e ty ty1 : TypeId} {pos pos1 : String} {after after1 : Array Edge} {gd gd1 : Option (Nat × Bool)} {d d1 : Nat}
theorem OR.appendX {z : Value} {s bs : Nat} (hg : wantS ops σ gd = some true) (hd : Nat.blt d n = true) (ht : P.underlying t = some (.slice e)) (hi : TI P e z s bs) (hzs : z.cells.size = s) (hs0 : 0 < s)
    {v xv : Value} {m l : Nat} {xs news : List Value} (hx : ev σ x = some v) (hy : ev σ y = some xv) (hext : Ext w0 w) (hown : Own w w0.heap.size e s v l xs) (hsrc : Src P s t' xv m news w)
    (h63 : l + m ≤ maxLen) (hbytes : (l + m) * bs ≤ 140737488355328)
    (h : ∀ v' w', Own w' w0.heap.size e s v' (l + m) (xs ++ news) → Ext w0 w' → w.grownBy w' v.ownBlock → (v'.ownBlock = v.ownBlock ∨ v'.ownBlock = some w.heap.size) → OR P R ops rest k n ((d, v') :: σ) w') :
    OR P R ops (⟨some d, .call { callee := .builtin .append, args := #[x, y], argTypes := #[t, t'] }, ty, pos, after, gd⟩ :: rest) k n σ w :=
  OR.append w0.heap.size hg hd ht hi hzs hs0 hx hy hown hsrc h63 hbytes hext.size fun v' w' h1 h2 h3 => h v' w' h1 (hext.grown h2 fun g hg => (hown.lt g hg).1) h2 h3
theorem OR.push {z : Value} {bs : Nat} (hg1 : wantS ops σ gd1 = some true) (hd1 : Nat.blt d1 n = true) (hg : ∀ u, wantS ops ((d1, u) :: σ) gd = some true) (hd : Nat.blt d n = true) (ht : P.underlying t = some (.slice e)) (hi : TI P e z 1 bs) (hz1 : z.oneCell' = true)
    {v u : Value} {l : Nat} {xs : List Value} (hy : ev σ y = some u) (hx : ∀ q, ev ((d1, q) :: σ) x = some v) (hu : u.oneCell' = true) (hext : Ext w0 w) (hown : Own w w0.heap.size e 1 v l xs)
    (h63 : l + 1 ≤ maxLen) (hbytes : (l + 1) * bs ≤ 140737488355328)
    (h : ∀ q v' w', Own w' w0.heap.size e 1 v' (l + 1) (xs ++ [u]) → Ext w0 w' → w.grownBy w' v.ownBlock → (v'.ownBlock = v.ownBlock ∨ ∃ g, v'.ownBlock = some g ∧ w.heap.size ≤ g) → OR P R ops rest k n ((d, v') :: (d1, q) :: σ) w') :
    OR P R ops (⟨some d1, .buildSlice t 1 #[(0, y)], ty1, pos1, after1, gd1⟩ :: ⟨some d, .call { callee := .builtin .append, args := #[x, .tmp d1], argTypes := #[t, t] }, ty, pos, after, gd⟩ :: rest) k n σ w := by
  refine OR.val hg1 hd1 (EX.buildSlice (vs := [u]) 1 ht hi hz1 (by simp [evs, hy]) rfl rfl (by simp [hu]) (by decide)) ?_
  have hx1 : Ext w0 (w.alloc (.cells [u].toArray e)) := hext.trans (Ext.alloc w _)
  have hb := Bk.new w e [u]
  refine OR.appendX (hg _) hd ht hi (by rw [oneCell_cells hz1]; rfl) (by decide) (hx _) (lk_cons_same _ _ _) hx1 (hown.alloc _) (Src.of_sl ht (Sl.of_bk hb hb.lt) rfl (by simpa using hu) (by decide)) h63 hbytes ?_
  intro v' w' h1 h2 h3 h4
  refine h _ v' w' h1 h2 ⟨h3.os, h3.tape, h3.output, by have := h3.size; simp at this; omega, fun j hj hne => ?_⟩ ?_
  · rw [h3.block j (by simp; omega) hne]
    exact Below.heap_alloc w _ j hj
  · rcases h4 with h4 | h4
    · exact .inl h4
    · exact .inr ⟨_, h4, by simp⟩
end
/-! ### The statement; a function's beginning and its end -/
def RP.mark (R : RP) (D : Nat) : RP := { R with ds := { target := .collected D, args := #[] } :: R.ds }
theorem psr_mark {P : Program} {R : RP} {D : Nat} : ∀ (k : List KI) (e : Exit), psr P (R.mark D) k e = psr P R k e
  | [], e => rfl
  | .code c :: k, e => by
    have ih : psr P (R.mark D) k = psr P R k := funext (psr_mark k)
    cases e <;> (simp only [psr, ih]; try rfl)
  | .blk id :: k, e => by
    have ih : psr P (R.mark D) k = psr P R k := funext (psr_mark k)
    cases e <;> simp only [psr, ih]
  | .asr I :: k, e => by
    have ih : psr P (R.mark D) k = psr P R k := funext (psr_mark k)
    cases e <;> simp only [psr, ih]
section
variable {P : Program} {R : RP} {k : List KI} {n : Nat} {σ : Sig} {w : World}
theorem stepR_scope {b : Frame} {a : Act} {c : Code} {k : List Item} {cs : List Frame} : step P (lone (b.atR a (.code (.scope c) :: k)) cs w) = .next (lone (b.atR a (.code c :: .inScope c :: k)) cs w) :=
  step_lone_go (by simp [stepG, stepG.exec, Frame.atR])
theorem stepR_inScope {b : Frame} {a : Act} {c : Code} {k : List Item} {cs : List Frame} : step P (lone (b.atR a (.inScope c :: k)) cs w) = .next (lone (b.atR a k) cs w) :=
  step_lone_go (by simp [stepG, stepG.exec, Frame.atR])
theorem wpIn_scope {F : Fence} {n : Nat} {a : Act} {Q : Exit → Act → World → Prop} {c : Code} (h : c.wpIn F n P Q a w) (hg : ∀ l a w, Q (.goto l) a w → False) : (Code.scope c).wpIn F n P Q a w := by
  intro b k cs hro hb hr
  have h0 : (lone (b.atR a (.code (.scope c) :: k)) cs w).fenced P F := fenced_calm hb hr rfl
  obtain ⟨e, a₁, w₁, hq, harr⟩ := h b (.inScope c :: k) cs hro hb hr
  cases e with
  | normal => exact ⟨.normal, a₁, w₁, hq, .head h0 stepR_scope (StepsIn.trans harr (.one (fenced_calm hb hr rfl) stepR_inScope))⟩
  | exit id =>
    have hx : exitTo id (.inScope c :: k) = exitTo id k := by simp [exitTo]
    exact ⟨_, a₁, w₁, hq, fun k' hk => .head h0 stepR_scope (harr.1 k' (by rw [hx]; exact hk)),
      fun hr' hk => let ⟨k₁, h1, h2⟩ := harr.2 hr' (by rw [hx]; exact hk); ⟨k₁, h1, .head h0 stepR_scope h2⟩⟩
  | goto l => exact (hg _ _ _ hq).elim
  | ret => exact ⟨_, a₁, w₁, hq, .of_steps (.one h0 stepR_scope) harr⟩
  | panic ch => exact ⟨_, a₁, w₁, hq, .of_steps (.one h0 stepR_scope) harr⟩
  | outgrown => exact ⟨_, a₁, w₁, hq, .of_steps (.one h0 stepR_scope) harr⟩
theorem psr_goto {l : Nat} : ∀ (k : List KI) (a : Act) (w : World), psr P R k (.goto l) a w = R.post (.goto l) a w
  | [], _, _ => rfl
  | .code _ :: k, a, w => psr_goto k a w
  | .blk _ :: k, a, w => psr_goto k a w
  | .asr _ :: k, a, w => psr_goto k a w
theorem KR.scope {c : Code} (hg : ∀ l a w, R.post (.goto l) a w → False) (h : KR P R (.code c :: k) n σ w) : KR P R (.code (.scope c) :: k) n σ w := fun a ha =>
  wpIn_scope (h a ha) (fun l a w q => hg l a w (by rw [psr_goto] at q; exact q))
/-- out of all that is ahead -/
theorem KR.exitOut {id : Nat} (hk : popTo id k = none) (h : ∀ a, FrD R n σ a → R.post (.exit id) a w) : KR P R (.code (.exit id) :: k) n σ w := fun a ha => by
  refine wpIn_exit ?_
  have key : ∀ k, popTo id k = none → psr P R k (.exit id) a w = R.post (.exit id) a w := by
    intro k
    induction k with
    | nil => intro _; rfl
    | cons x k ih =>
      intro hk
      cases x with
      | code c => exact ih hk
      | asr I => exact ih hk
      | blk i =>
        simp only [popTo] at hk
        by_cases e : id = i
        · subst e
          have : Nat.beq id id = true := by simp
          rw [this] at hk
          cases hk
        · have : Nat.beq id i = false := by
            cases hb : Nat.beq id i with
            | false => rfl
            | true => exact absurd (Nat.eq_of_beq_eq_true hb) e
          rw [this] at hk
          simp only [psr]
          rw [if_neg e]
          exact ih hk
  rw [key k hk]
  exact h a ha
theorem KR.rangeF {α : Type} (hr : R.round = none) (hm : 1 ≤ R.m) {g : Operand} {p d id : Nat} {op : Op} {ty : TypeId} {pos : String} {after : Array Edge} {body : Code} {gf : Nat} {lb : List Value} {fn : Func}
    (hf : P.funcs[gf]? = some fn) (hn : (!(fn.name == "runtime.NumGoroutine") && fn.body.isSome) = true)
    (hg : ev σ g = some (.func (.func gf) #[] lb.toArray)) (hp : Nat.blt p n = true) (hd : Nat.blt d n = true)
    (hop : ∀ (a : Act) (W : World), (execOp a.eval ⟨some d, op, ty, pos, after, none⟩).run P W = .ok (.value (a.eval (.tmp p))) W) (hopd : ∀ c, op ≠ .defer c)
    {enc : α → Value} {Kp : World → World → Prop} {S Sp : List α → Prop} {N : Nat} (hseq : SeqStopsK Fence.wide (R.m - 1) P gf lb.toArray (fun x => #[enc x]) Kp S Sp N w)
    (hKt : ∀ {A B C : World}, Kp A B → Kp B C → Kp A C) (hKb : ∀ (W : World) (l : Nat) (o o' : Obj), w.heap.size ≤ l → W.heap[l]? = some o → o.isCells = false → o.isWalk = false → Kp W (W.putObj l o'))
    (I : List α → World → Prop) (Ix : Code → List α → World → Prop) (hI : OwnFrom w.heap.size I) (hIx : ∀ c, OwnFrom w.heap.size (Ix c)) (h0 : I [] w)
    (hbody : ∀ (l : Nat) (pre : List α) (x : α) (W : World), I pre W → pre.length < N → KR P ⟨some l, R.m - 1 - 1, [], ownPostK Kp I Ix (pre ++ [x]) W⟩ [.code body] n ((d, enc x) :: (p, enc x) :: σ) W)
    (hdone : ∀ (D : Nat) (xs : List α) (W : World), w.heap.size ≤ D → S xs → I xs W → W.heap[D]? = some (.deferred (some [])) → KR P (R.mark D) k n σ W)
    (hstop : ∀ (D : Nat) (c : Code) (pre : List α) (W : World), w.heap.size ≤ D → Sp pre → Ix c pre W → W.heap[D]? = some (.deferred (some [])) → KR P (R.mark D) (.code c :: k) n σ W) :
    KR P R (.code (.rangeFunc g #[p] (.region id #[⟨some d, op, ty, pos, after, none⟩] false) body) :: k) n σ w := fun a ha => by
  obtain ⟨ro, m, ds, post⟩ := R
  simp only at hr
  subst hr
  have hge : a.eval g = .func (.func gf) #[] lb.toArray := ha.ev hg
  have hps : p < a.tmps.size := by have := ha.fr.size; simp only at this; rw [this]; simpa [Nat.blt_eq] using hp
  show Code.wpIn Fence.wide m P _ (psr P _ k) a w
  refine wpIn_rangeFunc_ownF (F := Fence.wide) (n := m) rfl hm (lb := lb.toArray) hge trivial (fun args w => run_callFunc hf hn args) hseq hKt hKb (Below.refl _ _) (fun _ => rfl) I Ix hI hIx h0
    (fun x => { tmps := (a.tmps.setIfInBounds p (enc x)).setIfInBounds d (enc x), defers := [] }) ?_ ?_ ?_ ?_
  · intro l x W K hK
    refine wpIn_region_lit (l := [⟨some d, op, ty, pos, after, none⟩]) ?_
    have ez : ∀ f : Array Value → Tmp × Value → Array Value, ((#[p] : Array Tmp).zip #[enc x]).foldl f a.tmps = f a.tmps (p, enc x) := fun f => by simp
    rw [ez]
    unfold wpListIn
    rw [if_pos (by rfl)]
    refine ⟨fun _ _ => trivial, ?_⟩
    rw [Oper.semAt_eq _ _ _ hopd, hop]
    have e : (({ tmps := a.tmps.setIfInBounds p (enc x), defers := [] } : Act).eval (.tmp p)) = enc x := by simp [Act.eval, hps]
    show K (Act.put { tmps := a.tmps.setIfInBounds p (enc x), defers := [] } (some d) (Act.eval { tmps := a.tmps.setIfInBounds p (enc x), defers := [] } (.tmp p))) W
    rw [e]
    exact hK
  · intro l pre x W hi hl
    exact hbody l pre x W hi hl _ ⟨(ha.fr.put hp (enc x)).put hd (enc x), rfl⟩
  · intro D xs W hD hS hi hK
    have h := hdone D xs W hD hS hi hK { a with defers := { target := .collected D, args := #[] } :: a.defers } ⟨ha.fr, by show _ :: a.defers = _ :: ds; rw [ha.df]⟩
    rw [psr_mark] at h
    exact h
  · intro D c pre W hD hS hi hK
    have h := hstop D c pre W hD hS hi hK { a with defers := { target := .collected D, args := #[] } :: a.defers } ⟨ha.fr, by show _ :: a.defers = _ :: ds; rw [ha.df]⟩
    rw [psr_mark] at h
    exact h
end
theorem Ret.enterR {P : Program} {f : FuncId} {fn : Func} {c : Code} {args : List Value} {w : World} {Q : Value → World → Prop} {n : Nat} (m : Nat) (hf : P.funcs[f]? = some fn) (hb : fn.body = some c) (hnt : fn.ntmps = n)
    (hn : (!(fn.name == "runtime.NumGoroutine") && fn.body.isSome) = true) (hl : args.length + (n - args.length) = n)
    (h : KR P ⟨none, m, [], bodyPostM Fence.wide m P fn (fun e w' => ∃ v, e = .returned v ∧ Q v w')⟩ [.code c] n (argSig 0 args) w) : Ret P f args w Q := by
  refine ⟨⟨fn, hf, hn⟩, (callsIn_wide (n := m)).1 (callsIn_of_wp_marks hf hb trivial ?_)⟩
  have hfr : Fr n (argSig 0 args) { tmps := args.toArray ++ Array.replicate (fn.ntmps - args.toArray.size) undef, defers := [] } := by
    have := Fr.start args (n - args.length)
    rw [hl] at this
    simpa [hnt] using this
  exact h _ ⟨hfr, rfl⟩
section
variable {P : Program} {fn : Func} {Q : Value → World → Prop} {n m D : Nat} {σ : Sig} {w : World} {R : RP}
theorem retR_of {v : Value} {e : Exit} (he : e = .normal ∨ e = .ret) (hds : R.ds = []) (hp : R.post = bodyPostM Fence.wide m P fn (fun e w' => ∃ v, e = .returned v ∧ Q v w')) (hr : ∀ a, FrD R n σ a → (results fn a.tmps).run P w = .ok v w) (hq : Q v w) :
    ∀ a, FrD R n σ a → R.post e a w := fun a ha => by
  rw [hp]
  have h1 : LeavesInM Fence.wide m P fn a.tmps (fun e w' => ∃ v, e = .returned v ∧ Q v w') a.defers .returning w := by
    rw [ha.df, hds]
    exact ⟨v, hr a ha, v, rfl, hq⟩
  rcases he with rfl | rfl <;> exact h1
theorem retM_of {v : Value} {e : Exit} (he : e = .normal ∨ e = .ret) (hds : R.ds = [{ target := .collected D, args := #[] }]) (hp : R.post = bodyPostM Fence.wide m P fn (fun e w' => ∃ v, e = .returned v ∧ Q v w')) (hK : w.heap[D]? = some (.deferred (some [])))
    (hr : ∀ a w, FrD R n σ a → (results fn a.tmps).run P w = .ok v w) (hq : Q v (w.putObj D (.deferred none))) :
    ∀ a, FrD R n σ a → R.post e a w := fun a ha => by
  rw [hp]
  have h1 : LeavesInM Fence.wide m P fn a.tmps (fun e w' => ∃ v, e = .returned v ∧ Q v w') a.defers .returning w := by
    rw [ha.df, hds]
    exact ⟨by simp, .inl ⟨D, _, rfl, run_takeDeferred hK, v, hr a _ ha, v, rfl, hq⟩⟩
  rcases he with rfl | rfl <;> exact h1
theorem retR0 {e : Exit} (he : e = .normal ∨ e = .ret) (hds : R.ds = []) (hp : R.post = bodyPostM Fence.wide m P fn (fun e w' => ∃ v, e = .returned v ∧ Q v w')) (hs : fn.results = #[]) (hq : Q (.tuple #[]) w) : ∀ a, FrD R n σ a → R.post e a w :=
  retR_of he hds hp (fun _ _ => results_none hs _ _ _) hq
theorem retR2 {e : Exit} (he : e = .normal ∨ e = .ret) {t u : Nat} {v x : Value} (hds : R.ds = []) (hp : R.post = bodyPostM Fence.wide m P fn (fun e w' => ∃ v, e = .returned v ∧ Q v w')) (hs : fn.results = #[.tmp t, .tmp u]) (hv : lk σ t = some v) (hx : lk σ u = some x) (hq : Q (.tuple #[v, x]) w) :
    ∀ a, FrD R n σ a → R.post e a w :=
  retR_of he hds hp (fun a ha => by rw [results_tmp2 hs]; have h1 := ha.fr.val t v hv; have h2 := ha.fr.val u x hx; simp only at h1 h2; simp [h1, h2]) hq
theorem retM2 {e : Exit} (he : e = .normal ∨ e = .ret) {t u : Nat} {v x : Value} (hds : R.ds = [{ target := .collected D, args := #[] }]) (hp : R.post = bodyPostM Fence.wide m P fn (fun e w' => ∃ v, e = .returned v ∧ Q v w')) (hK : w.heap[D]? = some (.deferred (some []))) (hs : fn.results = #[.tmp t, .tmp u]) (hv : lk σ t = some v) (hx : lk σ u = some x) (hq : Q (.tuple #[v, x]) (w.putObj D (.deferred none))) :
    ∀ a, FrD R n σ a → R.post e a w :=
  retM_of he hds hp hK (fun a w ha => by rw [results_tmp2 hs]; have h1 := ha.fr.val t v hv; have h2 := ha.fr.val u x hx; simp only at h1 h2; simp [h1, h2]) hq
end
theorem Ext.putObj {w W : World} (h : Ext w W) {D : Nat} (hD : w.heap.size ≤ D) (o : Obj) : Ext w (W.putObj D o) :=
  ⟨h.os, h.tape, h.output, by simpa using h.size, fun k hk => (World.putObj_heap_other (by omega)).trans (h.block k hk)⟩
theorem Bk.putObj {w : World} {b D : Nat} {T : TypeId} {l : List Value} (h : Bk w b T l) (hD : b ≠ D) (o : Obj) : Bk (w.putObj D o) b T l := h.of_block (World.putObj_heap_other hD)
end Go.Proofs.YtjgeoeeikfjmdaaDoor
