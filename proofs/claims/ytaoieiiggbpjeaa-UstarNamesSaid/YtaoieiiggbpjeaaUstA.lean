/-
  ustar: fields are made, and joined.
-/
import Derived.Test.YtaoieiiggbpjeaaKu
import Derived.Test.YtaoieiiggbpjeaaBld
import Derived.Test.YtaoieiiggbpjeaaFieT
import Derived.Test.YtaoieiiggbpjeaaUstD
namespace Go.Proofs.Ytaoieiiggbpjeaa
open Go.RowKit Fld Ust
set_option linter.unusedVariables false
set_option linter.unusedSimpArgs false

abbrev Fd := List UInt8 × Nat
def fdV (f : Fd) : List Value := [str f.1, .int .i64 ((f.2 : Nat) : Int)]
def fieldT (s : List UInt8) (width most : Int) : Fd := ((text s width).1, if most < (s.length : Int) then 150 else (text s width).2)
theorem utext_s (s : List UInt8) (hs : s.length ≤ 140737488355328) (n : Int) (h0 : -9223372036854775808 ≤ n) (h1 : n ≤ 9223372036854775807) (m : Int) (w : World) :
    Ret Try.prog 20 [str s, .int .i64 n, .int .i64 m] w fun v w' => v = .agg (fdV (fieldT s n m)).toArray ∧ Ext w w' := by
  refine Ret.enter Try.func20 rfl Try.ntmps20 (by kernel_rfl) rfl ?_
  refine KW.seq (KW.region ?_)
  refine OW.allocB (l := [str [], .int .i64 0]) rfl rfl ti48 rfl ?_
  rintro fb w1 hge1 hb1 hx1
  refine OW.nil ?_
  refine KW.seq (KW.region ?_)
  refine OW.val rfl rfl (EX.move rfl) ?_
  refine OW.val rfl rfl (EX.move rfl) ?_
  refine OW.call rfl rfl rfl (text_s s hs n h0 h1 w1) ?_
  rintro _ w2 ⟨rfl, hx2⟩
  refine OW.val rfl rfl (EX.move rfl) ?_
  refine OW.val rfl rfl (EX.extract rfl rfl) ?_
  refine OW.val rfl rfl (EX.extract rfl rfl) ?_
  refine OW.val rfl rfl (EX.assign rfl) ?_
  refine OW.val rfl rfl (EX.assign rfl) ?_
  refine OW.nil ?_
  refine KW.seq (KW.seq (KW.region ?_))
  refine OW.val rfl rfl (EX.move rfl) ?_
  refine OW.val rfl rfl (EX.lenS Try.underlying9 rfl) ?_
  refine OW.val rfl rfl (EX.move rfl) ?_
  refine OW.val rfl rfl (by first | exact EX.gtrN rfl rfl | exact EX.gtrZ rfl rfl) ?_
  refine OW.nil ?_
  have hb2 := hb1.ext hx2
  have x2 := hx1.trans hx2
  refine KW.condD rfl (fun hm => ?_) (fun hm => ?_)
  · have e : fieldT s n m = ((text s n).1, 150) := by unfold fieldT; rw [if_pos hm]
    refine KW.region ?_
    refine OW.val rfl rfl (EX.assign rfl) ?_
    refine OW.nil ?_
    refine KW.seq (KW.region ?_)
    refine OW.val rfl rfl (EX.move rfl) ?_
    refine OW.val rfl rfl (EX.move rfl) ?_
    refine OW.val rfl rfl (EX.buildS (pl := [(0, 1), (1, 1)]) (ks := [0, 1]) (is := [0, 1]) (zs := [str [], .int .i64 0]) Try.underlying48 ti48 (by kernel_rfl) rfl rfl rfl (by first | rfl | (simp only [List.all_cons, List.all_nil, Bool.and_true, Bool.true_and, Bool.and_eq_true, Value.oneCell']; repeat (first | assumption | exact Own.one (by assumption) | constructor))) (by simp only [setAll, List.set_cons_zero, List.set_cons_succ]; rfl)) ?_
    refine OW.storeS rfl ti48 rfl rfl rfl (by first | rfl | (simp only [List.all_cons, List.all_nil, Bool.and_true, Bool.true_and, Bool.and_eq_true, Value.oneCell']; repeat (first | assumption | exact Own.one (by assumption) | constructor))) (hb2) (Nat.le_refl _) ?_
    rintro w3 hb3 hm3
    refine OW.nil ?_
    refine KW.ret (retC1 rfl Try.underlying48 rfl ti48 rfl (hb3) rfl ?_)
    rw [e]
    exact ⟨rfl, below_mo x2 hm3 x2.size (fun k hk => by simp at hk; omega)⟩
  · have e : fieldT s n m = ((text s n).1, (text s n).2) := by unfold fieldT; rw [if_neg hm]
    refine KW.skip (KW.seq (KW.region ?_))
    refine OW.val rfl rfl (EX.move rfl) ?_
    refine OW.val rfl rfl (EX.move rfl) ?_
    refine OW.val rfl rfl (EX.buildS (pl := [(0, 1), (1, 1)]) (ks := [0, 1]) (is := [0, 1]) (zs := [str [], .int .i64 0]) Try.underlying48 ti48 (by kernel_rfl) rfl rfl rfl (by first | rfl | (simp only [List.all_cons, List.all_nil, Bool.and_true, Bool.true_and, Bool.and_eq_true, Value.oneCell']; repeat (first | assumption | exact Own.one (by assumption) | constructor))) (by simp only [setAll, List.set_cons_zero, List.set_cons_succ]; rfl)) ?_
    refine OW.storeS rfl ti48 rfl rfl rfl (by first | rfl | (simp only [List.all_cons, List.all_nil, Bool.and_true, Bool.true_and, Bool.and_eq_true, Value.oneCell']; repeat (first | assumption | exact Own.one (by assumption) | constructor))) (hb2) (Nat.le_refl _) ?_
    rintro w3 hb3 hm3
    refine OW.nil ?_
    refine KW.ret (retC1 rfl Try.underlying48 rfl ti48 rfl (hb3) rfl ?_)
    rw [e]
    exact ⟨rfl, below_mo x2 hm3 x2.size (fun k hk => by simp at hk; omega)⟩
theorem unumber_s (n : Int) (h0 : -9223372036854775808 ≤ n) (h1 : n ≤ 9223372036854775807) (m : Int) (g0 : -9223372036854775808 ≤ m) (g1 : m ≤ 9223372036854775807) (w : World) :
    Ret Try.prog 21 [.int .i64 n, .int .i64 m] w fun v w' => v = .agg (fdV (octal n m)).toArray ∧ Ext w w' := by
  refine Ret.enter Try.func21 rfl Try.ntmps21 (by kernel_rfl) rfl ?_
  refine KW.seq (KW.region ?_)
  refine OW.allocB (l := [str [], .int .i64 0]) rfl rfl ti48 rfl ?_
  rintro fb w1 hge1 hb1 hx1
  refine OW.nil ?_
  refine KW.seq (KW.region ?_)
  refine OW.val rfl rfl (EX.move rfl) ?_
  refine OW.val rfl rfl (EX.move rfl) ?_
  refine OW.call rfl rfl rfl (octal_s n h0 h1 m g0 g1 w1) ?_
  rintro _ w2 ⟨rfl, hx2⟩
  refine OW.val rfl rfl (EX.move rfl) ?_
  refine OW.val rfl rfl (EX.extract rfl rfl) ?_
  refine OW.val rfl rfl (EX.extract rfl rfl) ?_
  refine OW.val rfl rfl (EX.assign rfl) ?_
  refine OW.val rfl rfl (EX.assign rfl) ?_
  refine OW.nil ?_
  refine KW.seq (KW.region ?_)
  refine OW.val rfl rfl (EX.move rfl) ?_
  refine OW.val rfl rfl (EX.move rfl) ?_
  refine OW.val rfl rfl (EX.buildS (pl := [(0, 1), (1, 1)]) (ks := [0, 1]) (is := [0, 1]) (zs := [str [], .int .i64 0]) Try.underlying48 ti48 (by kernel_rfl) rfl rfl rfl (by first | rfl | (simp only [List.all_cons, List.all_nil, Bool.and_true, Bool.true_and, Bool.and_eq_true, Value.oneCell']; repeat (first | assumption | exact Own.one (by assumption) | constructor))) (by simp only [setAll, List.set_cons_zero, List.set_cons_succ]; rfl)) ?_
  have hb2 := hb1.ext hx2
  have x2 := hx1.trans hx2
  refine OW.storeS rfl ti48 rfl rfl rfl (by first | rfl | (simp only [List.all_cons, List.all_nil, Bool.and_true, Bool.true_and, Bool.and_eq_true, Value.oneCell']; repeat (first | assumption | exact Own.one (by assumption) | constructor))) (hb2) (Nat.le_refl _) ?_
  rintro w3 hb3 hm3
  refine OW.nil ?_
  refine KW.ret (retC1 rfl Try.underlying48 rfl ti48 rfl (hb3) rfl ?_)
  exact ⟨rfl, below_mo x2 hm3 x2.size (fun k hk => by simp at hk; omega)⟩
def joinF (l : List Fd) : List UInt8 × Bool := if ∀ f ∈ l, f.2 = 0 then (l.flatMap (·.1), true) else ([], false)
theorem joined_s (l : List Fd) (hne : ∀ f ∈ l, f.2 = 0 → f.1 ≠ []) (hlen : ∀ f ∈ l, f.1.length ≤ 1000) (hl : l.length ≤ 1000) (A : Option Addr) (k B : Nat) (w : World) (hs : Sl w B A (l.flatMap fdV)) :
    Ret Try.prog 19 [.slice A l.length k] w fun v w' => v = .tuple #[str (joinF l).1, .bool (joinF l).2] ∧ Ext w w' := by
  have htot : ∀ i, ((l.take i).flatMap (·.1)).length ≤ 1000 * i := by
    intro i
    induction i with
    | zero => simp
    | succ i ih =>
      rw [List.take_add_one]
      rcases hq : l[i]? with _ | f
      · simp; simp at ih; omega
      · have := hlen f (List.mem_of_getElem? hq)
        simp at ih ⊢
        omega
  refine Ret.enter Try.func19 rfl Try.ntmps19 (by kernel_rfl) rfl ?_
  refine KW.seq (KW.region ?_)
  refine OW.val rfl rfl (EX.assign rfl) ?_
  refine OW.val rfl rfl (EX.assign rfl) ?_
  refine OW.nil ?_
  refine KW.seq (KW.region ?_)
  refine OW.allocB (l := [.pointer none, .slice none 0 0]) rfl rfl ti69 rfl ?_
  rintro bb w1 hge1 hb1 hx1
  refine OW.nil ?_
  refine KW.seq (KW.seq (KW.region ?_))
  refine OW.val rfl rfl (EX.move rfl) ?_
  refine OW.val rfl rfl (EX.lenA Try.underlying66 rfl) ?_
  refine OW.val rfl rfl (EX.move rfl) ?_
  refine OW.nil ?_
  refine KW.block ?_
  refine KW.loop2 (fun (i : Nat) (wr : World) => i ≤ l.length ∧ (∀ j f, j < i → l[j]? = some f → f.2 = 0) ∧ Bd wr w.heap.size bb ((l.take i).flatMap (·.1)) ∧ Ext w wr) (fun (i : Nat) (wr : World) => [(4, .pointer (some ⟨bb, 0, none⟩)), (7, .slice A l.length k), (8, .int .i64 ((l.length : Nat) : Int)), (9, .int .i64 ((i : Nat) : Int))]) (fun (i : Nat) (wr : World) => wr) (fun (i : Nat) (wr : World) => l.length - i) (0) (w1) ⟨rfl, rfl, rfl, rfl, trivial⟩ rfl ?_ ?_
  · exact ⟨by omega, fun j f hj => by omega, Bd.new hge1 hb1, hx1⟩
  · rintro i wr ⟨hi, hz, hbd, hx⟩
    have hti := htot i
    refine KW.seq (KW.region ?_)
    refine OW.val rfl rfl (by first | exact EX.lssN rfl rfl | exact EX.lssZ rfl rfl) ?_
    refine OW.nil ?_
    refine KW.seq ?_
    refine KW.condD rfl (fun hlt => ?_) (fun hlt => ?_)
    · obtain ⟨b, o, rfl, _, hcell⟩ := (hs.ext hx).flat (c := 2) (fun _ => rfl) (by decide) hlt
      have hmem := List.getElem_mem hlt
      have hsn : l.take (i + 1) = l.take i ++ [l[i]] := (List.take_append_getElem hlt).symm
      have hgi : l[i]? = some l[i] := List.getElem?_eq_getElem hlt
      have hfl := hlen _ hmem
      have hfn := hne _ hmem
      generalize l[i] = f at hcell hsn hgi hfl hfn
      refine KW.skip (KW.seq (KW.block (KW.seq (KW.region ?_))))
      refine OW.val rfl rfl (EX.indexAddrS Try.underlying66 ti48 rfl rfl (by omega)) ?_
      refine OW.val rfl rfl (EX.loadA (l := fdV f) Try.underlying48 rfl ti48 rfl rfl hcell) ?_
      refine OW.allocB (l := [str [], .int .i64 0]) rfl rfl ti48 rfl ?_
      rintro fb w2 hge2 hf2 hx2
      refine OW.storeS rfl ti48 rfl rfl rfl (by first | rfl | (simp only [List.all_cons, List.all_nil, Bool.and_true, Bool.true_and, Bool.and_eq_true, Value.oneCell']; repeat (first | assumption | exact Own.one (by assumption) | constructor))) (hf2) (Nat.le_refl _) ?_
      rintro w3 hf3 hm3
      refine OW.nil ?_
      refine KW.seq (KW.seq (KW.region ?_))
      refine OW.val rfl rfl (EX.fieldAddr (off := 1) Try.underlying48 rfl rfl ti26 rfl rfl) ?_
      replace hf3 : Bk w3 fb 48 (fdV f) := hf3
      have xr3 : Ext wr w3 := below_mo hx2 hm3 hx2.size (fun k hk => by simp at hk; omega)
      have x3 := hx.trans xr3
      have hbd3 := hbd.ext xr3
      refine OW.val rfl rfl (EX.load Try.underlying26 rfl rfl (hf3.cell_of rfl)) ?_
      refine OW.val rfl rfl (by first | exact EX.neqN (b := 0) rfl rfl | exact EX.neqZ rfl rfl) ?_
      refine OW.nil ?_
      refine KW.condD rfl (fun hbad => ?_) (fun hbad => ?_)
      · refine KW.seq (KW.region ?_)
        refine OW.val rfl rfl (EX.assign rfl) ?_
        refine OW.val rfl rfl (EX.assign rfl) ?_
        refine OW.nil ?_
        refine KW.ret (ret2 rfl rfl rfl ?_)
        have e : joinF l = ([], false) := by
          unfold joinF
          rw [if_neg]
          intro h
          have := h f (List.mem_of_getElem? hgi)
          omega
        rw [e]
        exact ⟨rfl, x3⟩
      · have h0 : f.2 = 0 := by omega
        refine KW.skip (KW.region ?_)
        refine OW.val rfl rfl (EX.fieldAddr (off := 0) Try.underlying48 rfl rfl ti9 rfl rfl) ?_
        refine OW.val rfl rfl (EX.load Try.underlying9 rfl rfl (hf3.cell_of rfl)) ?_
        refine OW.call rfl rfl rfl (writeString_b w.heap.size bb _ f.1 w3 hbd3 (hfn h0) (by omega) x3.size) ?_
        rintro _ w4 ⟨⟨q4, rfl⟩, hbd4, b4⟩
        refine OW.nil ?_
        refine KW.leave (KW.region ?_)
        refine OW.val rfl rfl (by first | exact EX.addN (b := 1) (m := 9223372036854775807) rfl rfl rfl (by omega) | exact EX.addZ (m := 9223372036854775807) rfl rfl rfl rfl (by omega)) ?_
        refine OW.val rfl rfl (EX.move rfl) ?_
        refine OW.nil ?_
        refine KW.back2 (i + 1) (w4) ⟨rfl, rfl, rfl, rfl, trivial⟩ rfl ?_ (by omega)
        refine ⟨by omega, fun j g hj hg => ?_, ?_, Below.trans x3 b4⟩
        · by_cases e : j = i
          · subst e
            rw [hgi] at hg
            cases hg
            exact h0
          · exact hz j g (by omega) hg
        · rw [hsn, List.flatMap_append]
          simpa using hbd4
    · obtain rfl : i = l.length := by omega
      rw [List.take_length] at hbd hti
      refine KW.exit rfl (KW.seq (KW.region ?_))
      refine OW.call rfl rfl rfl (bstring_b w.heap.size bb _ wr hbd (by omega) hx.size) ?_
      rintro _ w5 ⟨rfl, b5⟩
      refine OW.val rfl rfl (EX.assign rfl) ?_
      refine OW.val rfl rfl (EX.assign rfl) ?_
      refine OW.nil ?_
      refine KW.ret (ret2 rfl rfl rfl ?_)
      have e : joinF l = (l.flatMap (·.1), true) := by
        unfold joinF
        rw [if_pos]
        intro f hf
        obtain ⟨j, hj, rfl⟩ := List.getElem_of_mem hf
        exact hz j _ hj (List.getElem?_eq_getElem hj)
      rw [e]
      exact ⟨rfl, Below.trans hx b5⟩
end Go.Proofs.Ytaoieiiggbpjeaa
