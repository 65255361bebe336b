/-
  What the statements rest on, part 5 of 6: many small texts, one behind the other.
-/
import Derived.Test.YthgfdpcpbghkpaaGreatDoorMrgD
import Derived.Lib.Builder
import Derived.Lib.UnsafeStr
import Derived.Laws.Externs
/- paths: parts, comparisons, Split, Under, by the program and by the document. -/
namespace Go.Proofs.YthgfdpcpbghkpaaGreatDoor
set_option linter.unnecessarySimpa false
open Go.RowKit Pth
set_option linter.unusedVariables false
set_option linter.unusedSimpArgs false

/-- what strings.Split asks of the world: a variable of the library holds a number -/
def MLen (w : World) : Prop := ∃ m : Int, w.cell? ⟨0, 0, none⟩ = some (.int .i64 m)
theorem MLen.ext {w w' : World} (h : MLen w) (hx : Ext w w') : MLen w' := by
  obtain ⟨m, hm⟩ := h
  refine ⟨m, ?_⟩
  have hlt : 0 < w.heap.size := World.block_lt_of_cell? w _ hm
  have := hx.block _ hlt
  unfold World.cell? at hm ⊢
  rwa [this]
theorem split_c (s : List UInt8) (hs : s.length ≤ 2000000) (w : World) (hG : MLen w) :
    Ret Tryz.prog 96 [str s, str [47]] w fun v w' => ∃ b, v = .slice (some ⟨b, 0, none⟩) (parts s).length (parts s).length ∧ w.heap.size ≤ b ∧ Bk w' b 9 (txtsV (parts s)) ∧ Ext w w' := by
  have hn : (!(Tryz.f96.name == "runtime.NumGoroutine") && Tryz.f96.body.isSome) = true := by kernel_rfl
  obtain ⟨m, hm⟩ := hG
  have h := Tryz.strings_Split ⟨s.toArray⟩ ⟨#[47]⟩ m w (by show s.length < _; omega) hm (by show 1 ≤ 1; omega)
  have hd := Go.Lib.splitB_data ⟨#[47]⟩ 0 (Go.Lib.countB ⟨s.toArray⟩ ⟨#[47]⟩) ⟨s.toArray⟩
  have hp : (Go.Lib.splitB ⟨#[47]⟩ 0 (Go.Lib.countB ⟨s.toArray⟩ ⟨#[47]⟩) ⟨s.toArray⟩).map (·.data.toList) = parts s := hd.trans (split_parts _ s rfl)
  have hlen := congrArg List.length hp
  rw [List.length_map, Go.Lib.splitB_all ⟨#[47]⟩ (by show 1 ≤ 1; omega) 0 _ ⟨s.toArray⟩ rfl] at hlen
  have hv : (Go.Lib.splitB ⟨#[47]⟩ 0 (Go.Lib.countB ⟨s.toArray⟩ ⟨#[47]⟩) ⟨s.toArray⟩).map Value.string = txtsV (parts s) := by
    rw [← hp, txtsV, List.map_map]
    rfl
  rw [hv, hlen] at h
  refine (Ret.of_calls Tryz.func96 hn (h.mono (fun e w' q => q))).mono ?_
  rintro v w' ⟨rfl, rfl⟩
  exact ⟨w.heap.size, rfl, Nat.le_refl _, Bk.new w _ _, Ext.alloc w _⟩
theorem parts_p (s : List UInt8) (hs : s.length ≤ 2000000) (w : World) (hG : MLen w) :
    Ret Tryz.prog 69 [str s] w fun v w' => ∃ b, v = .slice (some ⟨b, 0, none⟩) (parts s).length (parts s).length ∧ w.heap.size ≤ b ∧ Bk w' b 9 (txtsV (parts s)) ∧ Ext w w' := by
  refine Ret.enter Tryz.func69 rfl Tryz.ntmps69 (by kernel_rfl) rfl ?_
  refine KW.seq (KW.region ?_)
  refine OW.val rfl rfl (EX.assign rfl) ?_
  refine OW.nil ?_
  refine KW.seq (KW.region ?_)
  refine OW.val rfl rfl (EX.move rfl) ?_
  refine OW.call rfl rfl rfl (split_c s hs w hG) ?_
  rintro _ w1 ⟨b, rfl, hb⟩
  refine OW.val rfl rfl (EX.assign rfl) ?_
  refine OW.nil ?_
  refine KW.ret (ret1 rfl rfl ?_)
  exact ⟨b, rfl, hb⟩
theorem parts_len (s : List UInt8) : (parts s).length ≤ s.length + 1 := by
  have h1 := wt_len (parts s)
  rwa [wt_parts] at h1
/-! ### Comparisons -/
theorem compare_c (x y : List UInt8) (w : World) : Ret Tryz.prog 70 [str x, str y] w fun v w' => v = .int .i64 (Go.Lib.compareBytes x y) ∧ w = w' := by
  have hn : (!(Tryz.f70.name == "runtime.NumGoroutine") && Tryz.f70.body.isSome) = true := by kernel_rfl
  refine (Ret.of_calls Tryz.func70 hn ((Tryz.strings_Compare ⟨x.toArray⟩ ⟨y.toArray⟩ w).mono (fun e w' q => q))).mono ?_
  rintro v w' ⟨rfl, rfl⟩
  exact ⟨rfl, rfl⟩
theorem RetQ.of1 {P : Program} {f : FuncId} {args : List Value} {w : World} {v : Value} (h : Ret P f args w fun v' w' => v' = v ∧ w = w') : RetQ P f args w v :=
  h.mono fun _ _ ⟨h1, h2⟩ => ⟨h1, 0, by subst h2; rfl⟩
theorem cmpL_skip : ∀ (i : Nat) (x y : Txts), (∀ j, j < i → x[j]? = y[j]?) → i ≤ x.length → i ≤ y.length → cmpL x y = cmpL (x.drop i) (y.drop i)
  | 0, x, y, _, _, _ => rfl
  | i + 1, [], y, _, h, _ => by simp at h
  | i + 1, x, [], _, _, h => by simp at h
  | i + 1, a :: x, b :: y, h, h1, h2 => by
    have h0 := h 0 (by omega)
    simp only [List.getElem?_cons_zero, Option.some.injEq] at h0
    subst h0
    rw [cmpL, if_pos rfl]
    simp only [List.drop_succ_cons]
    exact cmpL_skip i x y (fun j hj => by have := h (j + 1) (by omega); simpa using this) (by simpa using h1) (by simpa using h2)
theorem cmpL_at {x y : Txts} {i : Nat} (hs : ∀ j, j < i → x[j]? = y[j]?) (h1 : i < x.length) (h2 : i < y.length) (hne : x[i] ≠ y[i]) : cmpL x y = Go.Lib.compareBytes x[i] y[i] := by
  rw [cmpL_skip i x y hs (by omega) (by omega), List.drop_eq_getElem_cons h1, List.drop_eq_getElem_cons h2, cmpL, if_neg hne]
theorem cmpL_end {x y : Txts} {i : Nat} (hs : ∀ j, j < i → x[j]? = y[j]?) (hi : i = min x.length y.length) : cmpL x y = if x.length < y.length then -1 else if y.length < x.length then 1 else 0 := by
  rw [cmpL_skip i x y hs (by omega) (by omega)]
  rcases hx : x.drop i with _ | ⟨a, x'⟩
  · rcases hy : y.drop i with _ | ⟨b, y'⟩
    · have e1 := congrArg List.length hx
      have e2 := congrArg List.length hy
      simp only [List.length_drop, List.length_nil] at e1 e2
      rw [if_neg (by omega), if_neg (by omega)]
      rfl
    · have e1 := congrArg List.length hx
      have e2 := congrArg List.length hy
      simp only [List.length_drop, List.length_nil, List.length_cons] at e1 e2
      rw [if_pos (by omega)]
      rfl
  · rcases hy : y.drop i with _ | ⟨b, y'⟩
    · have e1 := congrArg List.length hx
      have e2 := congrArg List.length hy
      simp only [List.length_drop, List.length_nil, List.length_cons] at e1 e2
      rw [if_neg (by omega), if_pos (by omega)]
      rfl
    · have e1 := congrArg List.length hx
      have e2 := congrArg List.length hy
      simp only [List.length_drop, List.length_cons] at e1 e2
      omega
theorem same_snoc {x y : Txts} {i : Nat} (hs : ∀ j, j < i → x[j]? = y[j]?) (h1 : i < x.length) (h2 : i < y.length) (h : x[i] = y[i]) : ∀ j, j < i + 1 → x[j]? = y[j]? := fun j hj => by
  by_cases e : j = i
  · subst e
    rw [List.getElem?_eq_getElem h1, List.getElem?_eq_getElem h2, h]
  · exact hs j (by omega)
set_option maxRecDepth 20000 in
theorem cmp_s (a b : List UInt8) (ha : a.length ≤ 2000000) (hb : b.length ≤ 2000000) (w : World) (hG : MLen w) :
    Ret Tryz.prog 38 [str a, str b] w fun v w' => v = .int .i64 (cmpP a b) ∧ Ext w w' := by
  have la := parts_len a
  have lb := parts_len b
  refine Ret.enter Tryz.func38 rfl Tryz.ntmps38 (by kernel_rfl) rfl ?_
  refine KW.seq (KW.region ?_)
  refine OW.val rfl rfl (EX.assign rfl) ?_
  refine OW.nil ?_
  refine KW.seq (KW.region ?_)
  refine OW.val rfl rfl (EX.move rfl) ?_
  refine OW.call rfl rfl rfl (parts_p a ha w hG) ?_
  rintro _ w1 ⟨ba, rfl, hga, hba, hx1⟩
  refine OW.val rfl rfl (EX.move rfl) ?_
  refine OW.call rfl rfl rfl (parts_p b hb w1 (hG.ext hx1)) ?_
  rintro _ w2 ⟨bb, rfl, hgb, hbb, hx2⟩
  refine OW.val rfl rfl (EX.assign rfl) ?_
  refine OW.val rfl rfl (EX.assign rfl) ?_
  refine OW.nil ?_
  refine KW.seq (KW.seq (KW.region ?_))
  refine OW.val rfl rfl (EX.move rfl) ?_
  refine OW.val rfl rfl (EX.lenA Tryz.underlying24 rfl) ?_
  refine OW.val rfl rfl (EX.move rfl) ?_
  refine OW.val rfl rfl (EX.lenA Tryz.underlying24 rfl) ?_
  refine OW.val rfl rfl (by first | exact EX.minN rfl rfl | exact EX.minZ rfl rfl) ?_
  refine OW.val rfl rfl (EX.move rfl) ?_
  refine OW.nil ?_
  refine KW.block ?_
  have x2 := hx1.trans hx2
  have hba2 := hba.ext hx2
  unfold cmpP
  generalize hX : parts a = X at hba2 la
  generalize hY : parts b = Y at hbb lb
  refine KW.loop2 (fun (i : Nat) (wr : World) => i ≤ min X.length Y.length ∧ (∀ j, j < i → X[j]? = Y[j]?) ∧ Ext w2 wr) (fun (i : Nat) (wr : World) => [(5, .slice (some ⟨ba, 0, none⟩) X.length X.length), (6, .slice (some ⟨bb, 0, none⟩) Y.length Y.length), (16, .int .i64 (((min X.length Y.length) : Nat) : Int)), (17, .int .i64 ((i : Nat) : Int))]) (fun (i : Nat) (wr : World) => wr) (fun (i : Nat) (wr : World) => min X.length Y.length - i) (0) (w2) ⟨rfl, rfl, rfl, rfl, trivial⟩ rfl ?_ ?_
  · exact ⟨by omega, fun j hj => by omega, Ext.refl _⟩
  · rintro i wr ⟨hi, hs, hxr⟩
    have xr := x2.trans hxr
    have hbr := hba2.ext hxr
    have hcr := hbb.ext hxr
    refine KW.seq (KW.region ?_)
    refine OW.val rfl rfl (by first | exact EX.lssN rfl rfl | exact EX.lssZ rfl rfl) ?_
    refine OW.nil ?_
    refine KW.seq ?_
    refine KW.condD rfl (fun hlt => ?_) (fun hlt => ?_)
    · have h1 : i < X.length := by omega
      have h2 : i < Y.length := by omega
      have g1 := txtsV_get h1
      have g2 := txtsV_get h2
      refine KW.skip (KW.seq (KW.block (KW.seq (KW.region ?_))))
      refine OW.val rfl rfl (EX.move rfl) ?_
      refine OW.val rfl rfl (EX.assign rfl) ?_
      refine OW.nil ?_
      refine KW.seq ?_
      refine KW.regionQ (by kernel_rfl) (by kernel_rfl) ?_
      refine QW.val rfl rfl (fun _ => EX.move rfl) ?_
      refine QW.val rfl rfl (fun _ => EX.move rfl) ?_
      refine QW.val rfl rfl (fun _ => by first | exact EX.indexAddrS0 Tryz.underlying24 ti9 rfl rfl (by omega) | exact EX.indexAddrS1 Tryz.underlying24 ti9 rfl rfl (by omega)) ?_
      refine QW.val rfl rfl (fun _ => EX.load Tryz.underlying9 rfl rfl ((hbr.drewN _).cell_of g1)) ?_
      refine QW.val rfl rfl (fun _ => EX.move rfl) ?_
      refine QW.val rfl rfl (fun _ => EX.move rfl) ?_
      refine QW.val rfl rfl (fun _ => by first | exact EX.indexAddrS0 Tryz.underlying24 ti9 rfl rfl (by omega) | exact EX.indexAddrS1 Tryz.underlying24 ti9 rfl rfl (by omega)) ?_
      refine QW.val rfl rfl (fun _ => EX.load Tryz.underlying9 rfl rfl ((hcr.drewN _).cell_of g2)) ?_
      refine QW.val rfl rfl (fun _ => EX.neqS rfl rfl) ?_
      refine QW.nil (fun nq => ?_)
      refine KW.condD rfl (fun hne => ?_) (fun hne => ?_)
      · have hcm := cmpL_at hs h1 h2 hne
        have hbd := hbr.drewN nq
        have hcd := hcr.drewN nq
        refine KW.seq ?_
        refine KW.regionQ (by kernel_rfl) (by kernel_rfl) ?_
        refine QW.val rfl rfl (fun _ => EX.move rfl) ?_
        refine QW.val rfl rfl (fun _ => EX.move rfl) ?_
        refine QW.val rfl rfl (fun _ => by first | exact EX.indexAddrS0 Tryz.underlying24 ti9 rfl rfl (by omega) | exact EX.indexAddrS1 Tryz.underlying24 ti9 rfl rfl (by omega)) ?_
        refine QW.val rfl rfl (fun _ => EX.load Tryz.underlying9 rfl rfl ((hbd.drewN _).cell_of g1)) ?_
        refine QW.val rfl rfl (fun _ => EX.move rfl) ?_
        refine QW.val rfl rfl (fun _ => EX.move rfl) ?_
        refine QW.val rfl rfl (fun _ => by first | exact EX.indexAddrS0 Tryz.underlying24 ti9 rfl rfl (by omega) | exact EX.indexAddrS1 Tryz.underlying24 ti9 rfl rfl (by omega)) ?_
        refine QW.val rfl rfl (fun _ => EX.load Tryz.underlying9 rfl rfl ((hcd.drewN _).cell_of g2)) ?_
        refine QW.call rfl rfl rfl (fun _ => RetQ.of1 (compare_c X[i] Y[i] _)) ?_
        refine QW.val rfl rfl (fun _ => EX.assign rfl) ?_
        refine QW.nil (fun nq => ?_)
        refine KW.ret (ret1 rfl rfl ?_)
        rw [hcm]
        exact ⟨rfl, (xr.trans (Ext.drewN _ _)).trans (Ext.drewN _ _)⟩
      · refine KW.skip (KW.leave (KW.region ?_))
        refine OW.val rfl rfl (by first | exact EX.addN (b := 1) (m := 9223372036854775807) rfl rfl rfl (by omega) | exact EX.addZ (m := 9223372036854775807) rfl rfl rfl rfl (by omega)) ?_
        refine OW.val rfl rfl (EX.move rfl) ?_
        refine OW.nil ?_
        refine KW.back2 (i + 1) (wr.drewN nq) ⟨rfl, rfl, rfl, rfl, trivial⟩ rfl ?_ (by omega)
        exact ⟨by omega, same_snoc hs h1 h2 (by simpa using hne), hxr.trans (Ext.drewN wr nq)⟩
    · have hce := cmpL_end hs (by omega)
      refine KW.exit rfl (KW.seq (KW.block (KW.seq (KW.region ?_))))
      refine OW.val rfl rfl (EX.move rfl) ?_
      refine OW.val rfl rfl (EX.lenA Tryz.underlying24 rfl) ?_
      refine OW.val rfl rfl (EX.move rfl) ?_
      refine OW.val rfl rfl (EX.lenA Tryz.underlying24 rfl) ?_
      refine OW.val rfl rfl (by first | exact EX.lssN rfl rfl | exact EX.lssZ rfl rfl) ?_
      refine OW.val rfl rfl (EX.assign rfl) ?_
      refine OW.nil ?_
      refine KW.condD rfl (fun k1 => ?_) (fun k1 => ?_)
      · rw [if_pos k1] at hce
        refine KW.seq (KW.region ?_)
        refine OW.val rfl rfl (EX.assign rfl) ?_
        refine OW.nil ?_
        refine KW.ret (ret1 rfl rfl ?_)
        rw [hce]
        exact ⟨rfl, xr⟩
      · rw [if_neg k1] at hce
        refine KW.seq (KW.region ?_)
        refine OW.val rfl rfl (EX.move rfl) ?_
        refine OW.val rfl rfl (EX.lenA Tryz.underlying24 rfl) ?_
        refine OW.val rfl rfl (EX.move rfl) ?_
        refine OW.val rfl rfl (EX.lenA Tryz.underlying24 rfl) ?_
        refine OW.val rfl rfl (by first | exact EX.gtrN rfl rfl | exact EX.gtrZ rfl rfl) ?_
        refine OW.val rfl rfl (EX.assign rfl) ?_
        refine OW.nil ?_
        refine KW.condD rfl (fun k2 => ?_) (fun k2 => ?_)
        · rw [if_pos (by omega)] at hce
          refine KW.seq (KW.region ?_)
          refine OW.val rfl rfl (EX.assign rfl) ?_
          refine OW.nil ?_
          refine KW.ret (ret1 rfl rfl ?_)
          rw [hce]
          exact ⟨rfl, xr⟩
        · rw [if_neg (by omega)] at hce
          refine KW.skip (KW.leave (KW.seq (KW.region ?_)))
          refine OW.val rfl rfl (EX.assign rfl) ?_
          refine OW.nil ?_
          refine KW.ret (ret1 rfl rfl ?_)
          rw [hce]
          exact ⟨rfl, xr⟩
theorem less_cb : ∀ x y : List UInt8, lessB x y = decide (Go.Lib.compareBytes x y = -1)
  | [], [] => rfl
  | [], _ :: _ => rfl
  | _ :: _, [] => rfl
  | a :: x, b :: y => by
    have ih := less_cb x y
    unfold lessB at ih ⊢
    unfold Op.bytesLess Go.Lib.compareBytes
    rw [ih]
    by_cases h1 : a < b
    · simp [h1]
    · by_cases h2 : b < a
      · have h3 : a ≠ b := fun e => h1 (by subst e; exact h2)
        simp [h1, h2, h3]
      · have h3 : a = b := by
          have h1' : ¬ a.toNat < b.toNat := h1
          have h2' : ¬ b.toNat < a.toNat := h2
          exact UInt8.toNat_inj.1 (by omega)
        subst h3
        simp
set_option maxRecDepth 20000 in
theorem rcmp_s (a b : List UInt8) (ha : a.length ≤ 2000000) (hb : b.length ≤ 2000000) (w : World) :
    Ret Tryz.prog 41 [str a, str b] w fun v w' => v = .int .i64 (cmpP a b) ∧ Ext w w' := by
  have la := parts_len a
  have lb := parts_len b
  have pa : 0 < (parts a).length := List.length_pos_iff.2 (parts_ne a)
  have pb : 0 < (parts b).length := List.length_pos_iff.2 (parts_ne b)
  refine Ret.enter Tryz.func41 rfl Tryz.ntmps41 (by kernel_rfl) rfl ?_
  refine KW.seq (KW.region ?_)
  refine OW.val rfl rfl (EX.assign rfl) ?_
  refine OW.nil ?_
  refine KW.seq (KW.region ?_)
  refine OW.val rfl rfl (EX.move rfl) ?_
  refine OW.call rfl rfl rfl (rparts_s a (by omega) w) ?_
  rintro va w1 ⟨hoa, hx1⟩
  refine OW.val rfl rfl (EX.move rfl) ?_
  refine OW.call rfl rfl rfl (rparts_s b (by omega) w1) ?_
  rintro vb w2 ⟨hob, hx2⟩
  refine OW.val rfl rfl (EX.assign rfl) ?_
  refine OW.val rfl rfl (EX.assign rfl) ?_
  refine OW.nil ?_
  refine KW.seq (KW.seq (KW.region ?_))
  refine OW.val rfl rfl (EX.assign rfl) ?_
  refine OW.nil ?_
  refine KW.block ?_
  obtain ⟨ga, ca, ra, rfl, _, hba, _, _, _⟩ := (hoa.ext hx2).blk (by rw [txtsV_length]; exact pa)
  obtain ⟨gb, cb, rb, rfl, _, hbb, _, _, _⟩ := hob.blk (by rw [txtsV_length]; exact pb)
  have x2 := hx1.trans hx2
  clear hoa hob
  unfold cmpP
  generalize hX : parts a = X at hba la
  generalize hY : parts b = Y at hbb lb
  refine KW.loop2 (fun (i : Nat) (wr : World) => i ≤ X.length ∧ i ≤ Y.length ∧ (∀ j, j < i → X[j]? = Y[j]?) ∧ Ext w2 wr) (fun (i : Nat) (wr : World) => [(5, .slice (some ⟨ga, 0, none⟩) X.length ca), (6, .slice (some ⟨gb, 0, none⟩) Y.length cb), (7, .int .i64 ((i : Nat) : Int))]) (fun (i : Nat) (wr : World) => wr) (fun (i : Nat) (wr : World) => X.length - i) (0) (w2) ⟨rfl, rfl, rfl, trivial⟩ rfl ?_ ?_
  · exact ⟨by omega, by omega, fun j hj => by omega, Ext.refl _⟩
  · rintro i wr ⟨hi, hi2, hs, hxr⟩
    have xr := x2.trans hxr
    have hbr := hba.ext hxr
    have hcr := hbb.ext hxr
    have hend : i = min X.length Y.length → cmpL X Y = if X.length < Y.length then -1 else if Y.length < X.length then 1 else 0 := cmpL_end hs
    refine KW.seq (KW.seq ?_)
    refine KW.region ?_
    refine OW.val rfl rfl (EX.move rfl) ?_
    refine OW.val rfl rfl (EX.move rfl) ?_
    refine OW.val rfl rfl (EX.lenA Tryz.underlying24 rfl) ?_
    refine OW.val rfl rfl (by first | exact EX.lssN rfl rfl | exact EX.lssZ rfl rfl) ?_
    refine OW.val rfl rfl (EX.move rfl) ?_
    refine OW.splitD 16 rfl (fun c1 => ?_) (fun c1 => ?_)
    · refine OW.val rfl rfl (EX.move rfl) ?_
      refine OW.val rfl rfl (EX.move rfl) ?_
      refine OW.val rfl rfl (EX.lenA Tryz.underlying24 rfl) ?_
      refine OW.val rfl rfl (by first | exact EX.lssN rfl rfl | exact EX.lssZ rfl rfl) ?_
      refine OW.val rfl rfl (EX.pickT rfl rfl) ?_
      refine OW.nil ?_
      refine KW.condD rfl (fun c2 => ?_) (fun c2 => ?_)
      · have g1 : (txtsV X ++ ra)[i]? = some (str X[i]) := by rw [List.getElem?_append_left (by rw [txtsV_length]; exact c1)]; exact txtsV_get c1
        have g2 : (txtsV Y ++ rb)[i]? = some (str Y[i]) := by rw [List.getElem?_append_left (by rw [txtsV_length]; exact c2)]; exact txtsV_get c2
        refine KW.skip (KW.seq (KW.block (KW.seq (KW.seq ?_))))
        refine KW.regionQ (by kernel_rfl) (by kernel_rfl) ?_
        refine QW.val rfl rfl (fun _ => EX.move rfl) ?_
        refine QW.val rfl rfl (fun _ => EX.move rfl) ?_
        refine QW.val rfl rfl (fun _ => by first | exact EX.indexAddrS0 Tryz.underlying24 ti9 rfl rfl (by omega) | exact EX.indexAddrS1 Tryz.underlying24 ti9 rfl rfl (by omega)) ?_
        refine QW.val rfl rfl (fun _ => EX.load Tryz.underlying9 rfl rfl ((hbr.drewN _).cell_of g1)) ?_
        refine QW.val rfl rfl (fun _ => EX.move rfl) ?_
        refine QW.val rfl rfl (fun _ => EX.move rfl) ?_
        refine QW.val rfl rfl (fun _ => by first | exact EX.indexAddrS0 Tryz.underlying24 ti9 rfl rfl (by omega) | exact EX.indexAddrS1 Tryz.underlying24 ti9 rfl rfl (by omega)) ?_
        refine QW.val rfl rfl (fun _ => EX.load Tryz.underlying9 rfl rfl ((hcr.drewN _).cell_of g2)) ?_
        refine QW.val rfl rfl (fun _ => EX.lssS rfl rfl) ?_
        refine QW.nil (fun nq => ?_)
        rw [less_cb]
        refine KW.condD rfl (fun l1 => ?_) (fun l1 => ?_)
        · have hne : X[i] ≠ Y[i] := fun e => by rw [(Go.Proofs.YthgfdpcpbghkpaaGreatDoor.Pth.cb_eq _ _).2 e] at l1; omega
          have hcm := cmpL_at hs c1 c2 hne
          refine KW.seq (KW.region ?_)
          refine OW.val rfl rfl (EX.assign rfl) ?_
          refine OW.nil ?_
          refine KW.ret (ret1 rfl rfl ?_)
          rw [hcm, l1]
          exact ⟨rfl, xr.trans (Ext.drewN _ _)⟩
        · have hbd := hbr.drewN nq
          have hcd := hcr.drewN nq
          refine KW.skip (KW.seq ?_)
          refine KW.regionQ (by kernel_rfl) (by kernel_rfl) ?_
          refine QW.val rfl rfl (fun _ => EX.move rfl) ?_
          refine QW.val rfl rfl (fun _ => EX.move rfl) ?_
          refine QW.val rfl rfl (fun _ => by first | exact EX.indexAddrS0 Tryz.underlying24 ti9 rfl rfl (by omega) | exact EX.indexAddrS1 Tryz.underlying24 ti9 rfl rfl (by omega)) ?_
          refine QW.val rfl rfl (fun _ => EX.load Tryz.underlying9 rfl rfl ((hbd.drewN _).cell_of g1)) ?_
          refine QW.val rfl rfl (fun _ => EX.move rfl) ?_
          refine QW.val rfl rfl (fun _ => EX.move rfl) ?_
          refine QW.val rfl rfl (fun _ => by first | exact EX.indexAddrS0 Tryz.underlying24 ti9 rfl rfl (by omega) | exact EX.indexAddrS1 Tryz.underlying24 ti9 rfl rfl (by omega)) ?_
          refine QW.val rfl rfl (fun _ => EX.load Tryz.underlying9 rfl rfl ((hcd.drewN _).cell_of g2)) ?_
          refine QW.val rfl rfl (fun _ => EX.gtrS rfl rfl) ?_
          refine QW.nil (fun nq => ?_)
          refine KW.as 41 (.bool (decide (X[i] ≠ Y[i]))) rfl (congrArg Value.bool (by rw [less_cb, decide_eq_false l1, Bool.false_or, Bool.eq_iff_iff]; simp)) ?_
          refine KW.condD rfl (fun hne => ?_) (fun hne => ?_)
          · have hcm := cmpL_at hs c1 c2 hne
            have hv : Go.Lib.compareBytes X[i] Y[i] = 1 := by
              rcases cb_val X[i] Y[i] with h | h | h
              · exact absurd h l1
              · exact absurd ((cb_eq _ _).1 h) hne
              · exact h
            refine KW.seq (KW.region ?_)
            refine OW.val rfl rfl (EX.assign rfl) ?_
            refine OW.nil ?_
            refine KW.ret (ret1 rfl rfl ?_)
            rw [hcm, hv]
            exact ⟨rfl, (xr.trans (Ext.drewN _ _)).trans (Ext.drewN _ _)⟩
          · have hsn := same_snoc hs c1 c2 (by simpa using hne)
            refine KW.skip (KW.leave (KW.region ?_))
            refine OW.val rfl rfl (EX.move rfl) ?_
            refine OW.val rfl rfl (by first | exact EX.addN (b := 1) (m := 9223372036854775807) rfl rfl rfl (by omega) | exact EX.addZ (m := 9223372036854775807) rfl rfl rfl rfl (by omega)) ?_
            refine OW.val rfl rfl (EX.assign rfl) ?_
            refine OW.nil ?_
            refine KW.back2 (i + 1) ((wr.drewN _).drewN _) ⟨rfl, rfl, rfl, trivial⟩ rfl ?_ (by omega)
            exact ⟨by omega, by omega, hsn, (hxr.trans (Ext.drewN _ _)).trans (Ext.drewN _ _)⟩
      · have hce := hend (by omega)
        refine KW.exit rfl (KW.seq (KW.seq (KW.region ?_)))
        refine OW.val rfl rfl (EX.move rfl) ?_
        refine OW.val rfl rfl (EX.lenA Tryz.underlying24 rfl) ?_
        refine OW.val rfl rfl (EX.move rfl) ?_
        refine OW.val rfl rfl (EX.lenA Tryz.underlying24 rfl) ?_
        refine OW.val rfl rfl (by first | exact EX.lssN rfl rfl | exact EX.lssZ rfl rfl) ?_
        refine OW.nil ?_
        refine KW.condD rfl (fun k1 => ?_) (fun k1 => ?_)
        · omega
        · rw [if_neg k1] at hce
          refine KW.skip (KW.seq (KW.seq (KW.region ?_)))
          refine OW.val rfl rfl (EX.move rfl) ?_
          refine OW.val rfl rfl (EX.lenA Tryz.underlying24 rfl) ?_
          refine OW.val rfl rfl (EX.move rfl) ?_
          refine OW.val rfl rfl (EX.lenA Tryz.underlying24 rfl) ?_
          refine OW.val rfl rfl (by first | exact EX.gtrN rfl rfl | exact EX.gtrZ rfl rfl) ?_
          refine OW.nil ?_
          refine KW.condD rfl (fun k2 => ?_) (fun k2 => ?_)
          · rw [if_pos (by omega)] at hce
            refine KW.seq (KW.region ?_)
            refine OW.val rfl rfl (EX.assign rfl) ?_
            refine OW.nil ?_
            refine KW.ret (ret1 rfl rfl ?_)
            rw [hce]
            exact ⟨rfl, xr⟩
          · omega
    · have hce := hend (by omega)
      refine OW.pass rfl rfl ?_
      refine OW.pass rfl rfl ?_
      refine OW.pass rfl rfl ?_
      refine OW.pass rfl rfl ?_
      refine OW.val rfl rfl (EX.pickF rfl rfl) ?_
      refine OW.nil ?_
      refine KW.condF rfl (KW.exit rfl (KW.seq (KW.seq (KW.region ?_))))
      refine OW.val rfl rfl (EX.move rfl) ?_
      refine OW.val rfl rfl (EX.lenA Tryz.underlying24 rfl) ?_
      refine OW.val rfl rfl (EX.move rfl) ?_
      refine OW.val rfl rfl (EX.lenA Tryz.underlying24 rfl) ?_
      refine OW.val rfl rfl (by first | exact EX.lssN rfl rfl | exact EX.lssZ rfl rfl) ?_
      refine OW.nil ?_
      refine KW.condD rfl (fun k1 => ?_) (fun k1 => ?_)
      · rw [if_pos k1] at hce
        refine KW.seq (KW.region ?_)
        refine OW.val rfl rfl (EX.assign rfl) ?_
        refine OW.nil ?_
        refine KW.ret (ret1 rfl rfl ?_)
        rw [hce]
        exact ⟨rfl, xr⟩
      · rw [if_neg k1] at hce
        refine KW.skip (KW.seq (KW.seq (KW.region ?_)))
        refine OW.val rfl rfl (EX.move rfl) ?_
        refine OW.val rfl rfl (EX.lenA Tryz.underlying24 rfl) ?_
        refine OW.val rfl rfl (EX.move rfl) ?_
        refine OW.val rfl rfl (EX.lenA Tryz.underlying24 rfl) ?_
        refine OW.val rfl rfl (by first | exact EX.gtrN rfl rfl | exact EX.gtrZ rfl rfl) ?_
        refine OW.nil ?_
        refine KW.condD rfl (fun k2 => ?_) (fun k2 => ?_)
        · omega
        · rw [if_neg (by omega)] at hce
          refine KW.skip (KW.seq (KW.region ?_))
          refine OW.val rfl rfl (EX.assign rfl) ?_
          refine OW.nil ?_
          refine KW.ret (ret1 rfl rfl ?_)
          rw [hce]
          exact ⟨rfl, xr⟩
end Go.Proofs.YthgfdpcpbghkpaaGreatDoor
/- paths: comparing two paths lays blocks and draws, and changes nothing: in the sort's words. -/
namespace Go.Proofs.YthgfdpcpbghkpaaGreatDoor
set_option linter.unnecessarySimpa false
open Go.RowKit Pth
set_option linter.unusedVariables false
set_option linter.unusedSimpArgs false

theorem splitG_c (s : List UInt8) (hs : s.length ≤ 2000000) (w : World) (hG : MLen w) :
    Ret Tryz.prog 96 [str s, str [47]] w fun v w' => ∃ b, v = .slice (some ⟨b, 0, none⟩) (parts s).length (parts s).length ∧ w.heap.size ≤ b ∧ Bk w' b 9 (txtsV (parts s)) ∧ Gr w w' := by
  have hn : (!(Tryz.f96.name == "runtime.NumGoroutine") && Tryz.f96.body.isSome) = true := by kernel_rfl
  obtain ⟨m, hm⟩ := hG
  have h := Tryz.strings_Split ⟨s.toArray⟩ ⟨#[47]⟩ m w (by show s.length < _; omega) hm (by show 1 ≤ 1; omega)
  have hd := Go.Lib.splitB_data ⟨#[47]⟩ 0 (Go.Lib.countB ⟨s.toArray⟩ ⟨#[47]⟩) ⟨s.toArray⟩
  have hp : (Go.Lib.splitB ⟨#[47]⟩ 0 (Go.Lib.countB ⟨s.toArray⟩ ⟨#[47]⟩) ⟨s.toArray⟩).map (·.data.toList) = parts s := hd.trans (split_parts _ s rfl)
  have hlen := congrArg List.length hp
  rw [List.length_map, Go.Lib.splitB_all ⟨#[47]⟩ (by show 1 ≤ 1; omega) 0 _ ⟨s.toArray⟩ rfl] at hlen
  have hv : (Go.Lib.splitB ⟨#[47]⟩ 0 (Go.Lib.countB ⟨s.toArray⟩ ⟨#[47]⟩) ⟨s.toArray⟩).map Value.string = txtsV (parts s) := by
    rw [← hp, txtsV, List.map_map]
    rfl
  rw [hv, hlen] at h
  refine (Ret.of_calls Tryz.func96 hn (h.mono (fun e w' q => q))).mono ?_
  rintro v w' ⟨rfl, rfl⟩
  exact ⟨w.heap.size, rfl, Nat.le_refl _, Bk.new w _ _, Gr.alloc w _⟩
theorem partsG_p (s : List UInt8) (hs : s.length ≤ 2000000) (w : World) (hG : MLen w) :
    Ret Tryz.prog 69 [str s] w fun v w' => ∃ b, v = .slice (some ⟨b, 0, none⟩) (parts s).length (parts s).length ∧ w.heap.size ≤ b ∧ Bk w' b 9 (txtsV (parts s)) ∧ Gr w w' := by
  refine Ret.enter Tryz.func69 rfl Tryz.ntmps69 (by kernel_rfl) rfl ?_
  refine KW.seq (KW.region ?_)
  refine OW.val rfl rfl (EX.assign rfl) ?_
  refine OW.nil ?_
  refine KW.seq (KW.region ?_)
  refine OW.val rfl rfl (EX.move rfl) ?_
  refine OW.call rfl rfl rfl (splitG_c s hs w hG) ?_
  rintro _ w1 ⟨b, rfl, hb⟩
  refine OW.val rfl rfl (EX.assign rfl) ?_
  refine OW.nil ?_
  refine KW.ret (ret1 rfl rfl ?_)
  exact ⟨b, rfl, hb⟩
set_option maxRecDepth 20000 in
theorem cmpG_s (a b : List UInt8) (ha : a.length ≤ 2000000) (hb : b.length ≤ 2000000) (w : World) (hG : MLen w) :
    Ret Tryz.prog 38 [str a, str b] w fun v w' => v = .int .i64 (cmpP a b) ∧ Gr w w' := by
  have la := parts_len a
  have lb := parts_len b
  refine Ret.enter Tryz.func38 rfl Tryz.ntmps38 (by kernel_rfl) rfl ?_
  refine KW.seq (KW.region ?_)
  refine OW.val rfl rfl (EX.assign rfl) ?_
  refine OW.nil ?_
  refine KW.seq (KW.region ?_)
  refine OW.val rfl rfl (EX.move rfl) ?_
  refine OW.call rfl rfl rfl (partsG_p a ha w hG) ?_
  rintro _ w1 ⟨ba, rfl, hga, hba, hg1⟩
  refine OW.val rfl rfl (EX.move rfl) ?_
  have hx1 := hg1.1
  refine OW.call rfl rfl rfl (partsG_p b hb w1 (hG.ext hx1)) ?_
  rintro _ w2 ⟨bb, rfl, hgb, hbb, hg2⟩
  refine OW.val rfl rfl (EX.assign rfl) ?_
  refine OW.val rfl rfl (EX.assign rfl) ?_
  refine OW.nil ?_
  refine KW.seq (KW.seq (KW.region ?_))
  refine OW.val rfl rfl (EX.move rfl) ?_
  refine OW.val rfl rfl (EX.lenA Tryz.underlying24 rfl) ?_
  refine OW.val rfl rfl (EX.move rfl) ?_
  refine OW.val rfl rfl (EX.lenA Tryz.underlying24 rfl) ?_
  refine OW.val rfl rfl (by first | exact EX.minN rfl rfl | exact EX.minZ rfl rfl) ?_
  refine OW.val rfl rfl (EX.move rfl) ?_
  refine OW.nil ?_
  refine KW.block ?_
  have hx2 := hg2.1
  have x2 := hg1.trans hg2
  have hba2 := hba.ext hx2
  unfold cmpP
  generalize hX : parts a = X at hba2 la
  generalize hY : parts b = Y at hbb lb
  refine KW.loop2 (fun (i : Nat) (wr : World) => i ≤ min X.length Y.length ∧ (∀ j, j < i → X[j]? = Y[j]?) ∧ Gr w2 wr) (fun (i : Nat) (wr : World) => [(5, .slice (some ⟨ba, 0, none⟩) X.length X.length), (6, .slice (some ⟨bb, 0, none⟩) Y.length Y.length), (16, .int .i64 (((min X.length Y.length) : Nat) : Int)), (17, .int .i64 ((i : Nat) : Int))]) (fun (i : Nat) (wr : World) => wr) (fun (i : Nat) (wr : World) => min X.length Y.length - i) (0) (w2) ⟨rfl, rfl, rfl, rfl, trivial⟩ rfl ?_ ?_
  · exact ⟨by omega, fun j hj => by omega, Gr.refl _⟩
  · rintro i wr ⟨hi, hs, hxr⟩
    have xr := x2.trans hxr
    have hbr := hba2.ext hxr.1
    have hcr := hbb.ext hxr.1
    refine KW.seq (KW.region ?_)
    refine OW.val rfl rfl (by first | exact EX.lssN rfl rfl | exact EX.lssZ rfl rfl) ?_
    refine OW.nil ?_
    refine KW.seq ?_
    refine KW.condD rfl (fun hlt => ?_) (fun hlt => ?_)
    · have h1 : i < X.length := by omega
      have h2 : i < Y.length := by omega
      have g1 := txtsV_get h1
      have g2 := txtsV_get h2
      refine KW.skip (KW.seq (KW.block (KW.seq (KW.region ?_))))
      refine OW.val rfl rfl (EX.move rfl) ?_
      refine OW.val rfl rfl (EX.assign rfl) ?_
      refine OW.nil ?_
      refine KW.seq ?_
      refine KW.regionQ (by kernel_rfl) (by kernel_rfl) ?_
      refine QW.val rfl rfl (fun _ => EX.move rfl) ?_
      refine QW.val rfl rfl (fun _ => EX.move rfl) ?_
      refine QW.val rfl rfl (fun _ => by first | exact EX.indexAddrS0 Tryz.underlying24 ti9 rfl rfl (by omega) | exact EX.indexAddrS1 Tryz.underlying24 ti9 rfl rfl (by omega)) ?_
      refine QW.val rfl rfl (fun _ => EX.load Tryz.underlying9 rfl rfl ((hbr.drewN _).cell_of g1)) ?_
      refine QW.val rfl rfl (fun _ => EX.move rfl) ?_
      refine QW.val rfl rfl (fun _ => EX.move rfl) ?_
      refine QW.val rfl rfl (fun _ => by first | exact EX.indexAddrS0 Tryz.underlying24 ti9 rfl rfl (by omega) | exact EX.indexAddrS1 Tryz.underlying24 ti9 rfl rfl (by omega)) ?_
      refine QW.val rfl rfl (fun _ => EX.load Tryz.underlying9 rfl rfl ((hcr.drewN _).cell_of g2)) ?_
      refine QW.val rfl rfl (fun _ => EX.neqS rfl rfl) ?_
      refine QW.nil (fun nq => ?_)
      refine KW.condD rfl (fun hne => ?_) (fun hne => ?_)
      · have hcm := cmpL_at hs h1 h2 hne
        have hbd := hbr.drewN nq
        have hcd := hcr.drewN nq
        refine KW.seq ?_
        refine KW.regionQ (by kernel_rfl) (by kernel_rfl) ?_
        refine QW.val rfl rfl (fun _ => EX.move rfl) ?_
        refine QW.val rfl rfl (fun _ => EX.move rfl) ?_
        refine QW.val rfl rfl (fun _ => by first | exact EX.indexAddrS0 Tryz.underlying24 ti9 rfl rfl (by omega) | exact EX.indexAddrS1 Tryz.underlying24 ti9 rfl rfl (by omega)) ?_
        refine QW.val rfl rfl (fun _ => EX.load Tryz.underlying9 rfl rfl ((hbd.drewN _).cell_of g1)) ?_
        refine QW.val rfl rfl (fun _ => EX.move rfl) ?_
        refine QW.val rfl rfl (fun _ => EX.move rfl) ?_
        refine QW.val rfl rfl (fun _ => by first | exact EX.indexAddrS0 Tryz.underlying24 ti9 rfl rfl (by omega) | exact EX.indexAddrS1 Tryz.underlying24 ti9 rfl rfl (by omega)) ?_
        refine QW.val rfl rfl (fun _ => EX.load Tryz.underlying9 rfl rfl ((hcd.drewN _).cell_of g2)) ?_
        refine QW.call rfl rfl rfl (fun _ => RetQ.of1 (compare_c X[i] Y[i] _)) ?_
        refine QW.val rfl rfl (fun _ => EX.assign rfl) ?_
        refine QW.nil (fun nq => ?_)
        refine KW.ret (ret1 rfl rfl ?_)
        rw [hcm]
        exact ⟨rfl, (xr.trans (Gr.drewN _ _)).trans (Gr.drewN _ _)⟩
      · refine KW.skip (KW.leave (KW.region ?_))
        refine OW.val rfl rfl (by first | exact EX.addN (b := 1) (m := 9223372036854775807) rfl rfl rfl (by omega) | exact EX.addZ (m := 9223372036854775807) rfl rfl rfl rfl (by omega)) ?_
        refine OW.val rfl rfl (EX.move rfl) ?_
        refine OW.nil ?_
        refine KW.back2 (i + 1) (wr.drewN nq) ⟨rfl, rfl, rfl, rfl, trivial⟩ rfl ?_ (by omega)
        exact ⟨by omega, same_snoc hs h1 h2 (by simpa using hne), hxr.trans (Gr.drewN wr nq)⟩
    · have hce := cmpL_end hs (by omega)
      refine KW.exit rfl (KW.seq (KW.block (KW.seq (KW.region ?_))))
      refine OW.val rfl rfl (EX.move rfl) ?_
      refine OW.val rfl rfl (EX.lenA Tryz.underlying24 rfl) ?_
      refine OW.val rfl rfl (EX.move rfl) ?_
      refine OW.val rfl rfl (EX.lenA Tryz.underlying24 rfl) ?_
      refine OW.val rfl rfl (by first | exact EX.lssN rfl rfl | exact EX.lssZ rfl rfl) ?_
      refine OW.val rfl rfl (EX.assign rfl) ?_
      refine OW.nil ?_
      refine KW.condD rfl (fun k1 => ?_) (fun k1 => ?_)
      · rw [if_pos k1] at hce
        refine KW.seq (KW.region ?_)
        refine OW.val rfl rfl (EX.assign rfl) ?_
        refine OW.nil ?_
        refine KW.ret (ret1 rfl rfl ?_)
        rw [hce]
        exact ⟨rfl, xr⟩
      · rw [if_neg k1] at hce
        refine KW.seq (KW.region ?_)
        refine OW.val rfl rfl (EX.move rfl) ?_
        refine OW.val rfl rfl (EX.lenA Tryz.underlying24 rfl) ?_
        refine OW.val rfl rfl (EX.move rfl) ?_
        refine OW.val rfl rfl (EX.lenA Tryz.underlying24 rfl) ?_
        refine OW.val rfl rfl (by first | exact EX.gtrN rfl rfl | exact EX.gtrZ rfl rfl) ?_
        refine OW.val rfl rfl (EX.assign rfl) ?_
        refine OW.nil ?_
        refine KW.condD rfl (fun k2 => ?_) (fun k2 => ?_)
        · rw [if_pos (by omega)] at hce
          refine KW.seq (KW.region ?_)
          refine OW.val rfl rfl (EX.assign rfl) ?_
          refine OW.nil ?_
          refine KW.ret (ret1 rfl rfl ?_)
          rw [hce]
          exact ⟨rfl, xr⟩
        · rw [if_neg (by omega)] at hce
          refine KW.skip (KW.leave (KW.seq (KW.region ?_)))
          refine OW.val rfl rfl (EX.assign rfl) ?_
          refine OW.nil ?_
          refine KW.ret (ret1 rfl rfl ?_)
          rw [hce]
          exact ⟨rfl, xr⟩
end Go.Proofs.YthgfdpcpbghkpaaGreatDoor
/- Whether members may be, by the program and by the document. -/
namespace Go.Proofs.YthgfdpcpbghkpaaGreatDoor
set_option linter.unnecessarySimpa false
open Go.RowKit Pth Rec Srt Cat
set_option linter.unusedVariables false
set_option linter.unusedSimpArgs false

def cmpPrev (l : List M) (i : Nat) (m : M) : Int := match (l.take i).getLast? with | some p => cmpP p.path m.path | none => -1
structure PreC (l : List M) : Prop where
  may : ∀ m ∈ l, mayM m
  rises : Rises mkey l
theorem PreC.nil : PreC [] := ⟨by simp, List.Pairwise.nil⟩
theorem getLast_take {l : List M} {i : Nat} (h0 : 0 < i) (hi : i ≤ l.length) : (l.take i).getLast? = some (l[i - 1]'(by omega)) := by
  have e : l.take i = l.take (i - 1) ++ [l[i - 1]'(by omega)] := by
    have h := (List.take_append_getElem (show i - 1 < l.length by omega)).symm
    rw [show i - 1 + 1 = i by omega] at h
    exact h
  rw [e]
  exact List.getLast?_concat
theorem cmpPrev_pos {l : List M} {i : Nat} {m : M} (h0 : 0 < i) (hi : i ≤ l.length) : cmpPrev l i m = cmpP (l[i - 1]'(by omega)).path m.path := by
  unfold cmpPrev
  rw [getLast_take h0 hi]
theorem PreC.snoc {l : List M} {i : Nat} (h : PreC (l.take i)) {m : M} (hm : mayM m) (hc : ¬ 0 ≤ cmpPrev l i m) : PreC (l.take i ++ [m]) := by
  refine ⟨fun x hx => ?_, rises_snoc h.rises fun p hp => ?_⟩
  · rcases List.mem_append.1 hx with hx | hx
    · exact h.may x hx
    · simp only [List.mem_singleton] at hx
      subst hx
      exact hm
  · unfold cmpPrev at hc
    rw [hp] at hc
    simp only at hc
    have := cmpK_val mkey p m
    simp only [cmpK, mkey] at this
    omega
theorem not_okC {l : List M} {cap : Int} {i : Nat} (hi : i < l.length) (h : ¬ mayM l[i] ∨ 0 ≤ cmpPrev l i l[i]) : ¬ OkC l cap := fun q => by
  rcases h with h | h
  · exact h (q.may _ (List.getElem_mem hi))
  · rcases Nat.eq_zero_or_pos i with h0 | h0
    · subst h0
      simp [cmpPrev] at h
    · rw [cmpPrev_pos h0 (by omega)] at h
      have h1 : cmpK mkey (l[i - 1]'(by omega)) l[i] = -1 := List.pairwise_iff_getElem.1 q.rises (i - 1) i (by omega) hi (by omega)
      simp only [cmpK, mkey] at h1
      omega
theorem cell_extC {w w' : World} (h : Ext w w') {a : Addr} {u : Value} (hc : w.cell? a = some u) : w'.cell? a = some u := by
  have hlt := World.block_lt_of_cell? w _ hc
  have := h.block _ hlt
  unfold World.cell? at hc ⊢
  rw [this]
  exact hc
theorem exts_len (l : List M) : (exts l).length = l.length := by simp [exts]
set_option maxRecDepth 20000 in
theorem chk_s (l : List M) (hok : ∀ m ∈ l, m.Ok) (hl : l.length ≤ 140737488355328) (cap : Int) (A : Option Addr) (c B : Nat) (w : World) (hG : MLen w) (hs : Sl w B A (memsV l)) :
    Ret Tryz.prog 10 [.slice A l.length c, .int .i64 cap] w fun v w' => v = .int .i64 ((chkC l cap : Nat) : Int) ∧ Ext w w' := by
  refine Ret.enter Tryz.func10 rfl Tryz.ntmps10 (by kernel_rfl) rfl ?_
  refine KW.seq (KW.region ?_)
  refine OW.val rfl rfl (EX.assign rfl) ?_
  refine OW.nil ?_
  refine KW.seq (KW.seq (KW.region ?_))
  refine OW.val rfl rfl (EX.move rfl) ?_
  refine OW.val rfl rfl (EX.lenA Tryz.underlying22 rfl) ?_
  refine OW.val rfl rfl (by first | exact EX.gtrN (b := 16) rfl rfl | exact EX.gtrZ rfl rfl) ?_
  refine OW.nil ?_
  refine KW.condD rfl (fun hbig => ?_) (fun hbig => ?_)
  · refine KW.seq (KW.region ?_)
    refine OW.val rfl rfl (EX.assign rfl) ?_
    refine OW.nil ?_
    refine KW.ret (ret1 rfl rfl ?_)
    rw [chkC_no (fun h => by have := h.len; omega)]
    exact ⟨rfl, Ext.refl _⟩
  · refine KW.skip (KW.seq (KW.region ?_))
    refine OW.val rfl rfl (EX.assign rfl) ?_
    refine OW.nil ?_
    refine KW.seq (KW.seq (KW.region ?_))
    refine OW.val rfl rfl (EX.move rfl) ?_
    refine OW.val rfl rfl (EX.lenA Tryz.underlying22 rfl) ?_
    refine OW.val rfl rfl (EX.move rfl) ?_
    refine OW.nil ?_
    refine KW.block ?_
    refine KW.loop3 (fun (i : Nat) (v : Value) (wr : World) => i ≤ l.length ∧ PreC (l.take i) ∧ Own wr w.heap.size 88 2 v i (xtsV (exts (l.take i))) ∧ Ext w wr) (fun (i : Nat) (v : Value) (wr : World) => [(0, .slice A l.length c), (1, .int .i64 cap), (5, v), (11, .slice A l.length c), (12, .int .i64 ((l.length : Nat) : Int)), (13, .int .i64 ((i : Nat) : Int))]) (fun (i : Nat) (v : Value) (wr : World) => wr) (fun (i : Nat) (v : Value) (wr : World) => l.length - i) (0) (.slice none 0 0) (w) ⟨rfl, rfl, rfl, rfl, rfl, rfl, trivial⟩ rfl ?_ ?_
    · exact ⟨Nat.zero_le _, PreC.nil, Own.nil _ _ _ _, Ext.refl _⟩
    · rintro i v wr ⟨hi, hpre, hown, hx⟩
      refine KW.seq (KW.region ?_)
      refine OW.val rfl rfl (by first | exact EX.lssN rfl rfl | exact EX.lssZ rfl rfl) ?_
      refine OW.nil ?_
      refine KW.seq ?_
      refine KW.condD rfl (fun hlt => ?_) (fun hlt => ?_)
      · obtain ⟨b, o, rfl, _, hcell⟩ := (hs.ext hx).flat (i := i) (c := 5) (fun _ => rfl) (by decide) hlt
        have hsn : l.take (i + 1) = l.take i ++ [l[i]] := (List.take_append_getElem hlt).symm
        have hno := not_okC (cap := cap) hlt
        have hmo := hok l[i] (List.getElem_mem hlt)
        have hprev : ∀ h : 0 < i, cmpPrev l i l[i] = cmpP (l[i - 1]'(by omega)).path (l[i]).path := fun h => cmpPrev_pos h hi
        have hzero : i = 0 → cmpPrev l i l[i] = -1 := fun h => by subst h; simp [cmpPrev]
        have hpm : ∀ h : 0 < i, mayM (l[i - 1]'(by omega)) := fun h => hpre.may _ (List.mem_take_iff_getElem.2 ⟨i - 1, by omega, rfl⟩)
        have hcp : ∀ h : 0 < i, ∀ j u, (l[i - 1]'(by omega)).cells[j]? = some u → wr.cell? ⟨b, o + (i - 1) * 5 + j, none⟩ = some u := fun h => by
          obtain ⟨b2, o2, e2, _, h2⟩ := (hs.ext hx).flat (i := i - 1) (c := 5) (fun _ => rfl) (by decide) (by omega)
          cases e2
          exact h2
        generalize hmd : l[i] = m at hcell hsn hno hmo hprev hzero
        refine KW.skip (KW.seq (KW.block (KW.seq (KW.region ?_))))
        refine OW.val rfl rfl (EX.move rfl) ?_
        refine OW.val rfl rfl (EX.indexAddrS Tryz.underlying22 ti70 rfl rfl (by omega)) ?_
        refine OW.val rfl rfl (EX.loadA (l := m.cells) Tryz.underlying70 rfl ti70 rfl rfl hcell) ?_
        refine OW.allocB (l := [str [], .int .i64 0, .int .i64 0, .int .i64 0, .int .u32 0]) rfl rfl ti70 rfl ?_
        rintro mb w2 hge2 hb2 hx2
        refine OW.val rfl rfl (EX.assign rfl) ?_
        refine OW.storeS rfl ti70 rfl rfl rfl (by first | rfl | (simp only [List.all_cons, List.all_nil, Bool.and_true, Bool.true_and, Bool.and_eq_true, Value.oneCell']; repeat (first | assumption | exact Own.one (by assumption) | constructor))) (hb2) (Nat.le_refl _) ?_
        rintro w3 hb3 hm3
        refine OW.nil ?_
        refine KW.seq (KW.seq ?_)
        replace hb3 : Bk w3 mb 70 m.cells := hb3
        have x3 : Ext wr w3 := below_mo hx2 hm3 hx2.size (fun k hk => by simp at hk; omega)
        have xw3 := hx.trans x3
        have ck := fun w => checkM_s m hmo w
        refine KW.cut1 (fun (wq : World) => Ext w3 wq) (fun (wq : World) => [(0, .slice (some ⟨b, o, none⟩) l.length c), (1, .int .i64 cap), (5, v), (7, .pointer (some ⟨mb, 0, none⟩)), (11, .slice (some ⟨b, o, none⟩) l.length c), (12, .int .i64 ((l.length : Nat) : Int)), (13, .int .i64 ((i : Nat) : Int)), (36, .bool (decide ((¬ mayM m ∨ 0 ≤ cmpPrev l i m))))]) (fun (wq : World) => wq) ?_ ?_
        · skip
          rcases Decidable.em (mayM m) with hm | hm
          · have e0 : checkM m = 0 := (checkM_iff m).2 hm
            have hml := (may_path hm).1
            rw [e0] at ck
            rcases Nat.eq_zero_or_pos i with h0 | h0
            · refine KW.regionG (N := 19) (fun w' => Ext w3 w') (by kernel_rfl) rfl ?_
              have hS := Ext.drew w3
              refine GW.val 0 rfl (by kernel_rfl) (by kernel_rfl) (by kernel_rfl) rfl rfl hS (fun w' hS' => EX.loadBk Tryz.underlying70 rfl ti70 rfl (hb3.ext hS') rfl) ?_
              refine GW.call 1 rfl (by kernel_rfl) rfl rfl rfl (ck _) ?_
              rintro _ wq ⟨rfl, hxq⟩
              refine ⟨hS.trans hxq, fun hS => ?_⟩
              refine GW.val 2 rfl (by kernel_rfl) (by kernel_rfl) (by kernel_rfl) rfl rfl hS (fun w' hS' => by first | exact EX.neqN (b := 0) rfl rfl | exact EX.neqZ rfl rfl) ?_
              refine GW.val 3 rfl (by kernel_rfl) (by kernel_rfl) (by kernel_rfl) rfl rfl hS (fun w' hS' => EX.move rfl) ?_
              refine GW.as 21 (.bool false) rfl (congrArg Value.bool (decide_eq_false ((fun h => h rfl)))) ?_
              refine GW.val 4 rfl (by kernel_rfl) (by kernel_rfl) (by kernel_rfl) rfl rfl hS (fun w' hS' => EX.move rfl) ?_
              refine GW.val 5 rfl (by kernel_rfl) (by kernel_rfl) (by kernel_rfl) rfl rfl hS (fun w' hS' => by first | exact EX.gtrN (b := 0) rfl rfl | exact EX.gtrZ rfl rfl) ?_
              refine GW.val 6 rfl (by kernel_rfl) (by kernel_rfl) (by kernel_rfl) rfl rfl hS (fun w' hS' => EX.move rfl) ?_
              refine GW.as 24 (.bool false) rfl (congrArg Value.bool (decide_eq_false ((by omega)))) ?_
              refine GW.pass 7 rfl (by kernel_rfl) (by kernel_rfl) (by kernel_rfl) rfl rfl hS ?_
              refine GW.pass 8 rfl (by kernel_rfl) (by kernel_rfl) (by kernel_rfl) rfl rfl hS ?_
              refine GW.pass 9 rfl (by kernel_rfl) (by kernel_rfl) (by kernel_rfl) rfl rfl hS ?_
              refine GW.pass 10 rfl (by kernel_rfl) (by kernel_rfl) (by kernel_rfl) rfl rfl hS ?_
              refine GW.pass 11 rfl (by kernel_rfl) (by kernel_rfl) (by kernel_rfl) rfl rfl hS ?_
              refine GW.pass 12 rfl (by kernel_rfl) (by kernel_rfl) (by kernel_rfl) rfl rfl hS ?_
              refine GW.pass 13 rfl (by kernel_rfl) (by kernel_rfl) (by kernel_rfl) rfl rfl hS ?_
              refine GW.pass 14 rfl (by kernel_rfl) (by kernel_rfl) (by kernel_rfl) rfl rfl hS ?_
              refine GW.pass 15 rfl (by kernel_rfl) (by kernel_rfl) (by kernel_rfl) rfl rfl hS ?_
              refine GW.pass 16 rfl (by kernel_rfl) (by kernel_rfl) (by kernel_rfl) rfl rfl hS ?_
              refine GW.val 17 rfl (by kernel_rfl) (by kernel_rfl) (by kernel_rfl) rfl rfl hS (fun w' hS' => EX.pickF rfl rfl) ?_
              refine GW.val 18 rfl (by kernel_rfl) (by kernel_rfl) (by kernel_rfl) rfl rfl hS (fun w' hS' => EX.pickF rfl rfl) ?_
              refine GW.done (by kernel_rfl) ?_
              refine KW.as 36 (.bool (decide ((¬ mayM m ∨ 0 ≤ cmpPrev l i m)))) rfl (congrArg Value.bool (decide_eq_false (fun q => q.elim (fun z => z hm) (fun z => by have := hzero h0; omega))).symm) ?_
              refine KW.meet1 (wq) ⟨rfl, rfl, rfl, rfl, rfl, rfl, rfl, rfl, trivial⟩ rfl ?_
              exact hS
            · have e1 := hprev h0
              have e2 : (l[i - 1]'(by omega)).path.length ≤ 120 := (may_path (hpm h0)).1
              have e3 := hcp h0
              generalize (l[i - 1]'(by omega)) = p at e1 e2 e3
              have cc := fun w hG => cmp_s p.path m.path (by omega) (by omega) w hG
              rw [← e1] at cc
              refine KW.regionG (N := 19) (fun w' => Ext w3 w') (by kernel_rfl) rfl ?_
              have hS := Ext.drew w3
              refine GW.val 0 rfl (by kernel_rfl) (by kernel_rfl) (by kernel_rfl) rfl rfl hS (fun w' hS' => EX.loadBk Tryz.underlying70 rfl ti70 rfl (hb3.ext hS') rfl) ?_
              refine GW.call 1 rfl (by kernel_rfl) rfl rfl rfl (ck _) ?_
              rintro _ wq ⟨rfl, hxq⟩
              refine ⟨hS.trans hxq, fun hS => ?_⟩
              refine GW.val 2 rfl (by kernel_rfl) (by kernel_rfl) (by kernel_rfl) rfl rfl hS (fun w' hS' => by first | exact EX.neqN (b := 0) rfl rfl | exact EX.neqZ rfl rfl) ?_
              refine GW.val 3 rfl (by kernel_rfl) (by kernel_rfl) (by kernel_rfl) rfl rfl hS (fun w' hS' => EX.move rfl) ?_
              refine GW.as 21 (.bool false) rfl (congrArg Value.bool (decide_eq_false ((fun h => h rfl)))) ?_
              refine GW.val 4 rfl (by kernel_rfl) (by kernel_rfl) (by kernel_rfl) rfl rfl hS (fun w' hS' => EX.move rfl) ?_
              refine GW.val 5 rfl (by kernel_rfl) (by kernel_rfl) (by kernel_rfl) rfl rfl hS (fun w' hS' => by first | exact EX.gtrN (b := 0) rfl rfl | exact EX.gtrZ rfl rfl) ?_
              refine GW.val 6 rfl (by kernel_rfl) (by kernel_rfl) (by kernel_rfl) rfl rfl hS (fun w' hS' => EX.move rfl) ?_
              refine GW.as 24 (.bool true) rfl (congrArg Value.bool (decide_eq_true ((by omega)))) ?_
              refine GW.val 7 rfl (by kernel_rfl) (by kernel_rfl) (by kernel_rfl) rfl rfl hS (fun w' hS' => EX.move rfl) ?_
              refine GW.val 8 rfl (by kernel_rfl) (by kernel_rfl) (by kernel_rfl) rfl rfl hS (fun w' hS' => EX.move rfl) ?_
              refine GW.val 9 rfl (by kernel_rfl) (by kernel_rfl) (by kernel_rfl) rfl rfl hS (fun w' hS' => by first | exact EX.subN (b := 1) (m := 9223372036854775807) rfl rfl rfl (by omega) | exact EX.subZ (m := 9223372036854775807) rfl rfl rfl rfl (by omega)) ?_
              refine GW.val 10 rfl (by kernel_rfl) (by kernel_rfl) (by kernel_rfl) rfl rfl hS (fun w' hS' => EX.indexAddrS Tryz.underlying22 ti70 rfl rfl (by omega)) ?_
              refine GW.val 11 rfl (by kernel_rfl) (by kernel_rfl) (by kernel_rfl) rfl rfl hS (fun w' hS' => EX.fieldAddr (off := 0) Tryz.underlying70 rfl rfl ti9 rfl rfl) ?_
              refine GW.val 12 rfl (by kernel_rfl) (by kernel_rfl) (by kernel_rfl) rfl rfl hS (fun w' hS' => EX.load Tryz.underlying9 rfl rfl (cell_extC (x3.trans hS') (e3 0 _ rfl))) ?_
              refine GW.val 13 rfl (by kernel_rfl) (by kernel_rfl) (by kernel_rfl) rfl rfl hS (fun w' hS' => EX.fieldAddr (off := 0) Tryz.underlying70 rfl rfl ti9 rfl rfl) ?_
              refine GW.val 14 rfl (by kernel_rfl) (by kernel_rfl) (by kernel_rfl) rfl rfl hS (fun w' hS' => EX.load Tryz.underlying9 rfl rfl ((hb3.ext hS').cell_of rfl)) ?_
              refine GW.call 15 rfl (by kernel_rfl) rfl rfl rfl (cc _ ((hG.ext xw3).ext hS)) ?_
              rintro _ wp ⟨rfl, hxp⟩
              refine ⟨hS.trans hxp, fun hS => ?_⟩
              refine GW.val 16 rfl (by kernel_rfl) (by kernel_rfl) (by kernel_rfl) rfl rfl hS (fun w' hS' => by first | exact EX.geqN (b := 0) rfl rfl | exact EX.geqZ rfl rfl) ?_
              refine GW.val 17 rfl (by kernel_rfl) (by kernel_rfl) (by kernel_rfl) rfl rfl hS (fun w' hS' => EX.pickT rfl rfl) ?_
              refine GW.val 18 rfl (by kernel_rfl) (by kernel_rfl) (by kernel_rfl) rfl rfl hS (fun w' hS' => EX.pickF rfl rfl) ?_
              refine GW.done (by kernel_rfl) ?_
              refine KW.as 36 (.bool (decide ((¬ mayM m ∨ 0 ≤ cmpPrev l i m)))) rfl (congrArg Value.bool (decide_eq_decide.2 ⟨fun h => .inr h, fun h => h.elim (fun q => absurd hm q) id⟩)) ?_
              refine KW.meet1 (wp) ⟨rfl, rfl, rfl, rfl, rfl, rfl, rfl, rfl, trivial⟩ rfl ?_
              exact hS
          · have e0 : checkM m ≠ 0 := fun q => hm ((checkM_iff m).1 q)
            refine KW.regionG (N := 19) (fun w' => Ext w3 w') (by kernel_rfl) rfl ?_
            have hS := Ext.drew w3
            refine GW.val 0 rfl (by kernel_rfl) (by kernel_rfl) (by kernel_rfl) rfl rfl hS (fun w' hS' => EX.loadBk Tryz.underlying70 rfl ti70 rfl (hb3.ext hS') rfl) ?_
            refine GW.call 1 rfl (by kernel_rfl) rfl rfl rfl (ck _) ?_
            rintro _ wq ⟨rfl, hxq⟩
            refine ⟨hS.trans hxq, fun hS => ?_⟩
            refine GW.val 2 rfl (by kernel_rfl) (by kernel_rfl) (by kernel_rfl) rfl rfl hS (fun w' hS' => by first | exact EX.neqN (b := 0) rfl rfl | exact EX.neqZ rfl rfl) ?_
            refine GW.val 3 rfl (by kernel_rfl) (by kernel_rfl) (by kernel_rfl) rfl rfl hS (fun w' hS' => EX.move rfl) ?_
            refine GW.as 21 (.bool true) rfl (congrArg Value.bool (decide_eq_true ((fun h => e0 h)))) ?_
            refine GW.pass 4 rfl (by kernel_rfl) (by kernel_rfl) (by kernel_rfl) rfl rfl hS ?_
            refine GW.pass 5 rfl (by kernel_rfl) (by kernel_rfl) (by kernel_rfl) rfl rfl hS ?_
            refine GW.pass 6 rfl (by kernel_rfl) (by kernel_rfl) (by kernel_rfl) rfl rfl hS ?_
            refine GW.pass 7 rfl (by kernel_rfl) (by kernel_rfl) (by kernel_rfl) rfl rfl hS ?_
            refine GW.pass 8 rfl (by kernel_rfl) (by kernel_rfl) (by kernel_rfl) rfl rfl hS ?_
            refine GW.pass 9 rfl (by kernel_rfl) (by kernel_rfl) (by kernel_rfl) rfl rfl hS ?_
            refine GW.pass 10 rfl (by kernel_rfl) (by kernel_rfl) (by kernel_rfl) rfl rfl hS ?_
            refine GW.pass 11 rfl (by kernel_rfl) (by kernel_rfl) (by kernel_rfl) rfl rfl hS ?_
            refine GW.pass 12 rfl (by kernel_rfl) (by kernel_rfl) (by kernel_rfl) rfl rfl hS ?_
            refine GW.pass 13 rfl (by kernel_rfl) (by kernel_rfl) (by kernel_rfl) rfl rfl hS ?_
            refine GW.pass 14 rfl (by kernel_rfl) (by kernel_rfl) (by kernel_rfl) rfl rfl hS ?_
            refine GW.pass 15 rfl (by kernel_rfl) (by kernel_rfl) (by kernel_rfl) rfl rfl hS ?_
            refine GW.pass 16 rfl (by kernel_rfl) (by kernel_rfl) (by kernel_rfl) rfl rfl hS ?_
            refine GW.pass 17 rfl (by kernel_rfl) (by kernel_rfl) (by kernel_rfl) rfl rfl hS ?_
            refine GW.val 18 rfl (by kernel_rfl) (by kernel_rfl) (by kernel_rfl) rfl rfl hS (fun w' hS' => EX.pickT rfl rfl) ?_
            refine GW.done (by kernel_rfl) ?_
            refine KW.as 36 (.bool (decide ((¬ mayM m ∨ 0 ≤ cmpPrev l i m)))) rfl (congrArg Value.bool (decide_eq_true (.inl hm)).symm) ?_
            refine KW.meet1 (wq) ⟨rfl, rfl, rfl, rfl, rfl, rfl, rfl, rfl, trivial⟩ rfl ?_
            exact hS
        · rintro wq hxq
          have xq := xw3.trans hxq
          have hbq := hb3.ext hxq
          have hownq := (hown.ext x3).ext hxq
          refine KW.condD rfl (fun hbad => ?_) (fun hbad => ?_)
          · refine KW.seq (KW.region ?_)
            refine OW.val rfl rfl (EX.assign rfl) ?_
            refine OW.nil ?_
            refine KW.ret (ret1 rfl rfl ?_)
            rw [chkC_no (hno hbad)]
            exact ⟨rfl, xq⟩
          · have hpre2 := hpre.snoc (m := m) (Decidable.of_not_not fun q => hbad (.inl q)) (fun q => hbad (.inr q))
            rw [← hsn] at hpre2
            refine KW.skip (KW.region ?_)
            refine OW.val rfl rfl (EX.move rfl) ?_
            refine OW.val rfl rfl (EX.fieldAddr (off := 1) Tryz.underlying70 rfl rfl ti3 rfl rfl) ?_
            refine OW.val rfl rfl (EX.load Tryz.underlying3 rfl rfl (hbq.cell_of rfl)) ?_
            refine OW.val rfl rfl (EX.fieldAddr (off := 2) Tryz.underlying70 rfl rfl ti3 rfl rfl) ?_
            refine OW.val rfl rfl (EX.load Tryz.underlying3 rfl rfl (hbq.cell_of rfl)) ?_
            refine OW.val rfl rfl (EX.buildS (pl := [(0, 1), (1, 1)]) (ks := [0, 1]) (is := [0, 1]) (zs := [.int .i64 0, .int .i64 0]) Tryz.underlying88 ti88 (by kernel_rfl) rfl rfl rfl (by first | rfl | (simp only [List.all_cons, List.all_nil, Bool.and_true, Bool.true_and, Bool.and_eq_true, Value.oneCell']; repeat (first | assumption | exact Own.one (by assumption) | constructor))) (by simp only [setAll, List.set_cons_zero, List.set_cons_succ]; rfl)) ?_
            refine OW.pushS rfl rfl (fun _ => rfl) rfl Tryz.underlying84 ti88 rfl (by decide) (by decide) rfl rfl (fun _ => rfl) (by first | rfl | assumption | (simp only [List.all_cons, List.all_nil, Bool.and_true, Bool.true_and, Bool.and_eq_true, Value.oneCell']; repeat (first | assumption | constructor))) (xq) (hownq) (by simp only [maxLen]; omega) (by omega) ?_
            rintro _ v4 w4 hown4 x4 hg4
            refine OW.val rfl rfl (EX.assign rfl) ?_
            refine OW.nil ?_
            refine KW.leave (KW.region ?_)
            refine OW.val rfl rfl (by first | exact EX.addN (b := 1) (m := 9223372036854775807) rfl rfl rfl (by omega) | exact EX.addZ (m := 9223372036854775807) rfl rfl rfl rfl (by omega)) ?_
            refine OW.val rfl rfl (EX.move rfl) ?_
            refine OW.nil ?_
            refine KW.back3 (i + 1) (v4) (w4) ⟨rfl, rfl, rfl, rfl, rfl, rfl, trivial⟩ rfl ?_ (by omega)
            refine ⟨by omega, hpre2, ?_, x4⟩
            rw [hsn, show exts (l.take i ++ [m]) = exts (l.take i) ++ [(m.start, m.sectors)] by simp [exts], xtsV_snoc]
            exact hown4
      · obtain rfl : i = l.length := by omega
        rw [List.take_length] at hpre hown
        obtain ⟨A4, c4, rfl, _, hsl4⟩ := hown.slice
        have cs := space_s (exts l) (by rw [exts_len]; omega) cap A4 c4 _ wr hsl4
        rw [exts_len] at cs
        refine KW.exit rfl (KW.seq (KW.seq (KW.region ?_)))
        refine OW.val rfl rfl (EX.move rfl) ?_
        refine OW.val rfl rfl (EX.move rfl) ?_
        refine OW.call rfl rfl rfl (cs) ?_
        rintro _ w5 ⟨rfl, hx5⟩
        refine OW.val rfl rfl (by first | exact EX.neqN (b := 0) rfl rfl | exact EX.neqZ rfl rfl) ?_
        refine OW.nil ?_
        refine KW.condD rfl (fun hsp => ?_) (fun hsp => ?_)
        · have hno : ¬ OkX (exts l) cap := fun q => hsp (by unfold spaceC; rw [if_pos q])
          refine KW.seq (KW.region ?_)
          refine OW.val rfl rfl (EX.assign rfl) ?_
          refine OW.nil ?_
          refine KW.ret (ret1 rfl rfl ?_)
          rw [chkC_no (fun h => hno h.ext)]
          exact ⟨rfl, hx.trans hx5⟩
        · have hyes : OkX (exts l) cap := Decidable.byContradiction fun q => hsp (by unfold spaceC; rw [if_neg q]; decide)
          refine KW.skip (KW.seq (KW.region ?_))
          refine OW.val rfl rfl (EX.assign rfl) ?_
          refine OW.nil ?_
          refine KW.ret (ret1 rfl rfl ?_)
          rw [chkC_ok ⟨by omega, hpre.may, hpre.rises, hyes⟩]
          exact ⟨rfl, hx.trans hx5⟩
set_option maxRecDepth 20000 in
theorem rexts_s (l : List M) (hl : l.length ≤ 1000000) (A : Option Addr) (c B : Nat) (w : World) (hs : Sl w B A (memsV l)) :
    Ret Tryz.prog 43 [.slice A l.length c] w fun v w' => Own w' w.heap.size 88 2 v l.length (xtsV (exts l)) ∧ Ext w w' := by
  refine Ret.enter Tryz.func43 rfl Tryz.ntmps43 (by kernel_rfl) rfl ?_
  refine KW.seq (KW.region ?_)
  refine OW.val rfl rfl (EX.assign rfl) ?_
  refine OW.nil ?_
  refine KW.seq (KW.region ?_)
  refine OW.val rfl rfl (EX.assign rfl) ?_
  refine OW.nil ?_
  refine KW.seq (KW.seq (KW.region ?_))
  refine OW.val rfl rfl (EX.assign rfl) ?_
  refine OW.nil ?_
  refine KW.block ?_
  refine KW.loop3 (fun (i : Nat) (v : Value) (wr : World) => i ≤ l.length ∧ Own wr w.heap.size 88 2 v i (xtsV (exts (l.take i))) ∧ Ext w wr) (fun (i : Nat) (v : Value) (wr : World) => [(0, .slice A l.length c), (3, v), (4, .int .i64 ((i : Nat) : Int))]) (fun (i : Nat) (v : Value) (wr : World) => wr) (fun (i : Nat) (v : Value) (wr : World) => l.length - i) (0) (.slice none 0 0) (w) ⟨rfl, rfl, rfl, trivial⟩ rfl ?_ ?_
  · exact ⟨Nat.zero_le _, Own.nil _ _ _ _, Ext.refl _⟩
  · rintro i v wr ⟨hi, hown, hx⟩
    refine KW.seq (KW.seq (KW.region ?_))
    refine OW.val rfl rfl (EX.move rfl) ?_
    refine OW.val rfl rfl (EX.move rfl) ?_
    refine OW.val rfl rfl (EX.lenA Tryz.underlying22 rfl) ?_
    refine OW.val rfl rfl (by first | exact EX.lssN rfl rfl | exact EX.lssZ rfl rfl) ?_
    refine OW.nil ?_
    refine KW.condD rfl (fun hlt => ?_) (fun hlt => ?_)
    · obtain ⟨b, o, rfl, _, hcell⟩ := hs.flat (i := i) (c := 5) (fun _ => rfl) (by decide) hlt
      have hsn : l.take (i + 1) = l.take i ++ [l[i]] := (List.take_append_getElem hlt).symm
      generalize l[i] = m at hcell hsn
      have hlow := fun k hk => (hown.lt k hk).1
      refine KW.skip (KW.seq (KW.block ?_))
      refine KW.regionG (N := 15) (fun w' => Ext w w') (by kernel_rfl) rfl ?_
      have hS := hx.trans (Ext.drew wr)
      refine GW.val 0 rfl (by kernel_rfl) (by kernel_rfl) (by kernel_rfl) rfl rfl hS (fun w' hS' => EX.move rfl) ?_
      refine GW.val 1 rfl (by kernel_rfl) (by kernel_rfl) (by kernel_rfl) rfl rfl hS (fun w' hS' => EX.move rfl) ?_
      refine GW.val 2 rfl (by kernel_rfl) (by kernel_rfl) (by kernel_rfl) rfl rfl hS (fun w' hS' => EX.move rfl) ?_
      refine GW.val 3 rfl (by kernel_rfl) (by kernel_rfl) (by kernel_rfl) rfl rfl hS (fun w' hS' => EX.indexAddrS Tryz.underlying22 ti70 rfl rfl (by omega)) ?_
      refine GW.val 4 rfl (by kernel_rfl) (by kernel_rfl) (by kernel_rfl) rfl rfl hS (fun w' hS' => EX.fieldAddr (off := 1) Tryz.underlying70 rfl rfl ti3 rfl rfl) ?_
      refine GW.val 5 rfl (by kernel_rfl) (by kernel_rfl) (by kernel_rfl) rfl rfl hS (fun w' hS' => EX.load Tryz.underlying3 rfl rfl (cell_extC hS' (hcell 1 _ rfl))) ?_
      refine GW.val 6 rfl (by kernel_rfl) (by kernel_rfl) (by kernel_rfl) rfl rfl hS (fun w' hS' => EX.move rfl) ?_
      refine GW.val 7 rfl (by kernel_rfl) (by kernel_rfl) (by kernel_rfl) rfl rfl hS (fun w' hS' => EX.move rfl) ?_
      refine GW.val 8 rfl (by kernel_rfl) (by kernel_rfl) (by kernel_rfl) rfl rfl hS (fun w' hS' => EX.indexAddrS Tryz.underlying22 ti70 rfl rfl (by omega)) ?_
      refine GW.val 9 rfl (by kernel_rfl) (by kernel_rfl) (by kernel_rfl) rfl rfl hS (fun w' hS' => EX.fieldAddr (off := 2) Tryz.underlying70 rfl rfl ti3 rfl rfl) ?_
      refine GW.val 10 rfl (by kernel_rfl) (by kernel_rfl) (by kernel_rfl) rfl rfl hS (fun w' hS' => EX.load Tryz.underlying3 rfl rfl (cell_extC hS' (hcell 2 _ rfl))) ?_
      refine GW.val 11 rfl (by kernel_rfl) (by kernel_rfl) (by kernel_rfl) rfl rfl hS (fun w' hS' => EX.buildS (pl := [(0, 1), (1, 1)]) (ks := [0, 1]) (is := [0, 1]) (zs := [.int .i64 0, .int .i64 0]) Tryz.underlying88 ti88 (by kernel_rfl) rfl rfl rfl (by first | rfl | (simp only [List.all_cons, List.all_nil, Bool.and_true, Bool.true_and, Bool.and_eq_true, Value.oneCell']; repeat (first | assumption | exact Own.one (by assumption) | constructor))) (by simp only [setAll, List.set_cons_zero, List.set_cons_succ]; rfl)) ?_
      refine GW.buildG 12 1 ([xcells (m.start, m.sectors)]) rfl (by kernel_rfl) rfl rfl Tryz.underlying84 ti88 rfl (by decide) rfl rfl rfl (by repeat' (first | exact List.forall_mem_nil _ | refine List.forall_mem_cons.2 ⟨by first | rfl | assumption, ?_⟩)) (by decide) ?_
      rintro eb w5 hge5 hb5 hx5
      refine ⟨hS.trans hx5, fun hS => ?_⟩
      refine GW.append 13 0 rfl (by kernel_rfl) rfl rfl Tryz.underlying84 ti88 rfl (by decide) rfl rfl (((hown.ext (Ext.drew wr)).ext hx5).more (Nat.zero_le _)) (Src.of_sl (m := 1) Tryz.underlying84 (Sl.of_bk hb5 hb5.lt) rfl (xtsV_one [(m.start, m.sectors)]) (by decide)) (by simp only [maxLen]; omega) (by omega) (Nat.zero_le _) ?_
      rintro v6 w6 hown6 hg6 hv6
      refine ⟨hS.grown hg6 hlow, fun hS => ?_⟩
      refine GW.val 14 rfl (by kernel_rfl) (by kernel_rfl) (by kernel_rfl) rfl rfl hS (fun w' hS' => EX.assign rfl) ?_
      refine GW.done (by kernel_rfl) ?_
      refine KW.leave (KW.region ?_)
      refine OW.val rfl rfl (EX.move rfl) ?_
      refine OW.val rfl rfl (by first | exact EX.addN (b := 1) (m := 9223372036854775807) rfl rfl rfl (by omega) | exact EX.addZ (m := 9223372036854775807) rfl rfl rfl rfl (by omega)) ?_
      refine OW.val rfl rfl (EX.assign rfl) ?_
      refine OW.nil ?_
      refine KW.back3 (i + 1) (v6) (w6) ⟨rfl, rfl, rfl, trivial⟩ rfl ?_ (by omega)
      refine ⟨by omega, ?_, hS⟩
      rw [hsn, show exts (l.take i ++ [m]) = exts (l.take i) ++ [(m.start, m.sectors)] by simp [exts], xtsV_snoc]
      refine Own.base hown6 fun k hk => ?_
      rcases hv6 with e | e
      · exact hlow k (by rw [← e]; exact hk)
      · rw [e] at hk
        cases hk
        exact (hx.trans ((Ext.drew wr).trans hx5)).size
    · obtain rfl : i = l.length := by omega
      rw [List.take_length] at hown
      refine KW.exit rfl (KW.seq (KW.region ?_))
      refine OW.val rfl rfl (EX.move rfl) ?_
      refine OW.val rfl rfl (EX.assign rfl) ?_
      refine OW.nil ?_
      refine KW.ret (ret1 rfl rfl ?_)
      exact ⟨hown, hx⟩
set_option maxRecDepth 20000 in
theorem rchk_s (l : List M) (hok : ∀ m ∈ l, m.Ok) (hl : l.length ≤ 140737488355328) (cap : Int) (A : Option Addr) (c B : Nat) (w : World) (hs : Sl w B A (memsV l)) :
    Ret Tryz.prog 11 [.slice A l.length c, .int .i64 cap] w fun v w' => v = .int .i64 ((chkC l cap : Nat) : Int) ∧ Ext w w' := by
  refine Ret.enter Tryz.func11 rfl Tryz.ntmps11 (by kernel_rfl) rfl ?_
  refine KW.seq (KW.region ?_)
  refine OW.val rfl rfl (EX.assign rfl) ?_
  refine OW.nil ?_
  refine KW.seq (KW.seq (KW.region ?_))
  refine OW.val rfl rfl (EX.move rfl) ?_
  refine OW.val rfl rfl (EX.lenA Tryz.underlying22 rfl) ?_
  refine OW.val rfl rfl (by first | exact EX.gtrN (b := 16) rfl rfl | exact EX.gtrZ rfl rfl) ?_
  refine OW.nil ?_
  refine KW.condD rfl (fun hbig => ?_) (fun hbig => ?_)
  · refine KW.seq (KW.region ?_)
    refine OW.val rfl rfl (EX.assign rfl) ?_
    refine OW.nil ?_
    refine KW.ret (ret1 rfl rfl ?_)
    rw [chkC_no (fun h => by have := h.len; omega)]
    exact ⟨rfl, Ext.refl _⟩
  · refine KW.skip (KW.seq (KW.seq (KW.region ?_)))
    refine OW.val rfl rfl (EX.assign rfl) ?_
    refine OW.nil ?_
    refine KW.block ?_
    refine KW.loop2 (fun (i : Nat) (wr : World) => i ≤ l.length ∧ PreC (l.take i) ∧ Ext w wr) (fun (i : Nat) (wr : World) => [(0, .slice A l.length c), (1, .int .i64 cap), (5, .int .i64 ((i : Nat) : Int))]) (fun (i : Nat) (wr : World) => wr) (fun (i : Nat) (wr : World) => l.length - i) (0) (w) ⟨rfl, rfl, rfl, trivial⟩ rfl ?_ ?_
    · exact ⟨Nat.zero_le _, PreC.nil, Ext.refl _⟩
    · rintro i wr ⟨hi, hpre, hx⟩
      refine KW.seq (KW.seq (KW.region ?_))
      refine OW.val rfl rfl (EX.move rfl) ?_
      refine OW.val rfl rfl (EX.move rfl) ?_
      refine OW.val rfl rfl (EX.lenA Tryz.underlying22 rfl) ?_
      refine OW.val rfl rfl (by first | exact EX.lssN rfl rfl | exact EX.lssZ rfl rfl) ?_
      refine OW.nil ?_
      refine KW.condD rfl (fun hlt => ?_) (fun hlt => ?_)
      · obtain ⟨b, o, rfl, _, hcell⟩ := (hs.ext hx).flat (i := i) (c := 5) (fun _ => rfl) (by decide) hlt
        have hsn : l.take (i + 1) = l.take i ++ [l[i]] := (List.take_append_getElem hlt).symm
        have hno := not_okC (cap := cap) hlt
        have hmo := hok l[i] (List.getElem_mem hlt)
        have hprev : ∀ h : 0 < i, cmpPrev l i l[i] = cmpP (l[i - 1]'(by omega)).path (l[i]).path := fun h => cmpPrev_pos h hi
        have hzero : i = 0 → cmpPrev l i l[i] = -1 := fun h => by subst h; simp [cmpPrev]
        have hpm : ∀ h : 0 < i, mayM (l[i - 1]'(by omega)) := fun h => hpre.may _ (List.mem_take_iff_getElem.2 ⟨i - 1, by omega, rfl⟩)
        have hcp : ∀ h : 0 < i, ∀ j u, (l[i - 1]'(by omega)).cells[j]? = some u → wr.cell? ⟨b, o + (i - 1) * 5 + j, none⟩ = some u := fun h => by
          obtain ⟨b2, o2, e2, _, h2⟩ := (hs.ext hx).flat (i := i - 1) (c := 5) (fun _ => rfl) (by decide) (by omega)
          cases e2
          exact h2
        generalize hmd : l[i] = m at hcell hsn hno hmo hprev hzero
        have ck := fun w => rcheckM_s m hmo w
        refine KW.skip (KW.seq (KW.block (KW.seq ?_)))
        refine KW.cut1 (fun (wq : World) => Ext wr wq) (fun (wq : World) => [(0, .slice (some ⟨b, o, none⟩) l.length c), (1, .int .i64 cap), (5, .int .i64 ((i : Nat) : Int)), (39, .bool (decide ((¬ mayM m ∨ 0 ≤ cmpPrev l i m))))]) (fun (wq : World) => wq) ?_ ?_
        · skip
          rcases Decidable.em (mayM m) with hm | hm
          · have e0 : checkM m = 0 := (checkM_iff m).2 hm
            have hml := (may_path hm).1
            rw [e0] at ck
            rcases Nat.eq_zero_or_pos i with h0 | h0
            · refine KW.regionG (N := 25) (fun w' => Ext wr w') (by kernel_rfl) rfl ?_
              have hS := Ext.drew wr
              refine GW.val 0 rfl (by kernel_rfl) (by kernel_rfl) (by kernel_rfl) rfl rfl hS (fun w' hS' => EX.move rfl) ?_
              refine GW.val 1 rfl (by kernel_rfl) (by kernel_rfl) (by kernel_rfl) rfl rfl hS (fun w' hS' => EX.move rfl) ?_
              refine GW.val 2 rfl (by kernel_rfl) (by kernel_rfl) (by kernel_rfl) rfl rfl hS (fun w' hS' => EX.indexAddrS Tryz.underlying22 ti70 rfl rfl (by omega)) ?_
              refine GW.val 3 rfl (by kernel_rfl) (by kernel_rfl) (by kernel_rfl) rfl rfl hS (fun w' hS' => EX.loadA (l := m.cells) Tryz.underlying70 rfl ti70 rfl rfl (fun j u h => cell_extC hS' (hcell j u h))) ?_
              refine GW.call 4 rfl (by kernel_rfl) rfl rfl rfl (ck _) ?_
              rintro _ wq ⟨rfl, hxq⟩
              refine ⟨hS.trans hxq, fun hS => ?_⟩
              refine GW.val 5 rfl (by kernel_rfl) (by kernel_rfl) (by kernel_rfl) rfl rfl hS (fun w' hS' => by first | exact EX.neqN (b := 0) rfl rfl | exact EX.neqZ rfl rfl) ?_
              refine GW.val 6 rfl (by kernel_rfl) (by kernel_rfl) (by kernel_rfl) rfl rfl hS (fun w' hS' => EX.move rfl) ?_
              refine GW.as 21 (.bool false) rfl (congrArg Value.bool (decide_eq_false ((fun h => h rfl)))) ?_
              refine GW.val 7 rfl (by kernel_rfl) (by kernel_rfl) (by kernel_rfl) rfl rfl hS (fun w' hS' => EX.move rfl) ?_
              refine GW.val 8 rfl (by kernel_rfl) (by kernel_rfl) (by kernel_rfl) rfl rfl hS (fun w' hS' => by first | exact EX.gtrN (b := 0) rfl rfl | exact EX.gtrZ rfl rfl) ?_
              refine GW.val 9 rfl (by kernel_rfl) (by kernel_rfl) (by kernel_rfl) rfl rfl hS (fun w' hS' => EX.move rfl) ?_
              refine GW.as 24 (.bool false) rfl (congrArg Value.bool (decide_eq_false ((by omega)))) ?_
              refine GW.pass 10 rfl (by kernel_rfl) (by kernel_rfl) (by kernel_rfl) rfl rfl hS ?_
              refine GW.pass 11 rfl (by kernel_rfl) (by kernel_rfl) (by kernel_rfl) rfl rfl hS ?_
              refine GW.pass 12 rfl (by kernel_rfl) (by kernel_rfl) (by kernel_rfl) rfl rfl hS ?_
              refine GW.pass 13 rfl (by kernel_rfl) (by kernel_rfl) (by kernel_rfl) rfl rfl hS ?_
              refine GW.pass 14 rfl (by kernel_rfl) (by kernel_rfl) (by kernel_rfl) rfl rfl hS ?_
              refine GW.pass 15 rfl (by kernel_rfl) (by kernel_rfl) (by kernel_rfl) rfl rfl hS ?_
              refine GW.pass 16 rfl (by kernel_rfl) (by kernel_rfl) (by kernel_rfl) rfl rfl hS ?_
              refine GW.pass 17 rfl (by kernel_rfl) (by kernel_rfl) (by kernel_rfl) rfl rfl hS ?_
              refine GW.pass 18 rfl (by kernel_rfl) (by kernel_rfl) (by kernel_rfl) rfl rfl hS ?_
              refine GW.pass 19 rfl (by kernel_rfl) (by kernel_rfl) (by kernel_rfl) rfl rfl hS ?_
              refine GW.pass 20 rfl (by kernel_rfl) (by kernel_rfl) (by kernel_rfl) rfl rfl hS ?_
              refine GW.pass 21 rfl (by kernel_rfl) (by kernel_rfl) (by kernel_rfl) rfl rfl hS ?_
              refine GW.pass 22 rfl (by kernel_rfl) (by kernel_rfl) (by kernel_rfl) rfl rfl hS ?_
              refine GW.val 23 rfl (by kernel_rfl) (by kernel_rfl) (by kernel_rfl) rfl rfl hS (fun w' hS' => EX.pickF rfl rfl) ?_
              refine GW.val 24 rfl (by kernel_rfl) (by kernel_rfl) (by kernel_rfl) rfl rfl hS (fun w' hS' => EX.pickF rfl rfl) ?_
              refine GW.done (by kernel_rfl) ?_
              refine KW.as 39 (.bool (decide ((¬ mayM m ∨ 0 ≤ cmpPrev l i m)))) rfl (congrArg Value.bool (decide_eq_false (fun q => q.elim (fun z => z hm) (fun z => by have := hzero h0; omega))).symm) ?_
              refine KW.meet1 (wq) ⟨rfl, rfl, rfl, rfl, trivial⟩ rfl ?_
              exact hS
            · have e1 := hprev h0
              have e2 : (l[i - 1]'(by omega)).path.length ≤ 120 := (may_path (hpm h0)).1
              have e3 := hcp h0
              generalize (l[i - 1]'(by omega)) = p at e1 e2 e3
              have cc := fun w => rcmp_s p.path m.path (by omega) (by omega) w
              rw [← e1] at cc
              refine KW.regionG (N := 25) (fun w' => Ext wr w') (by kernel_rfl) rfl ?_
              have hS := Ext.drew wr
              refine GW.val 0 rfl (by kernel_rfl) (by kernel_rfl) (by kernel_rfl) rfl rfl hS (fun w' hS' => EX.move rfl) ?_
              refine GW.val 1 rfl (by kernel_rfl) (by kernel_rfl) (by kernel_rfl) rfl rfl hS (fun w' hS' => EX.move rfl) ?_
              refine GW.val 2 rfl (by kernel_rfl) (by kernel_rfl) (by kernel_rfl) rfl rfl hS (fun w' hS' => EX.indexAddrS Tryz.underlying22 ti70 rfl rfl (by omega)) ?_
              refine GW.val 3 rfl (by kernel_rfl) (by kernel_rfl) (by kernel_rfl) rfl rfl hS (fun w' hS' => EX.loadA (l := m.cells) Tryz.underlying70 rfl ti70 rfl rfl (fun j u h => cell_extC hS' (hcell j u h))) ?_
              refine GW.call 4 rfl (by kernel_rfl) rfl rfl rfl (ck _) ?_
              rintro _ wq ⟨rfl, hxq⟩
              refine ⟨hS.trans hxq, fun hS => ?_⟩
              refine GW.val 5 rfl (by kernel_rfl) (by kernel_rfl) (by kernel_rfl) rfl rfl hS (fun w' hS' => by first | exact EX.neqN (b := 0) rfl rfl | exact EX.neqZ rfl rfl) ?_
              refine GW.val 6 rfl (by kernel_rfl) (by kernel_rfl) (by kernel_rfl) rfl rfl hS (fun w' hS' => EX.move rfl) ?_
              refine GW.as 21 (.bool false) rfl (congrArg Value.bool (decide_eq_false ((fun h => h rfl)))) ?_
              refine GW.val 7 rfl (by kernel_rfl) (by kernel_rfl) (by kernel_rfl) rfl rfl hS (fun w' hS' => EX.move rfl) ?_
              refine GW.val 8 rfl (by kernel_rfl) (by kernel_rfl) (by kernel_rfl) rfl rfl hS (fun w' hS' => by first | exact EX.gtrN (b := 0) rfl rfl | exact EX.gtrZ rfl rfl) ?_
              refine GW.val 9 rfl (by kernel_rfl) (by kernel_rfl) (by kernel_rfl) rfl rfl hS (fun w' hS' => EX.move rfl) ?_
              refine GW.as 24 (.bool true) rfl (congrArg Value.bool (decide_eq_true ((by omega)))) ?_
              refine GW.val 10 rfl (by kernel_rfl) (by kernel_rfl) (by kernel_rfl) rfl rfl hS (fun w' hS' => EX.move rfl) ?_
              refine GW.val 11 rfl (by kernel_rfl) (by kernel_rfl) (by kernel_rfl) rfl rfl hS (fun w' hS' => EX.move rfl) ?_
              refine GW.val 12 rfl (by kernel_rfl) (by kernel_rfl) (by kernel_rfl) rfl rfl hS (fun w' hS' => by first | exact EX.subN (b := 1) (m := 9223372036854775807) rfl rfl rfl (by omega) | exact EX.subZ (m := 9223372036854775807) rfl rfl rfl rfl (by omega)) ?_
              refine GW.val 13 rfl (by kernel_rfl) (by kernel_rfl) (by kernel_rfl) rfl rfl hS (fun w' hS' => EX.indexAddrS Tryz.underlying22 ti70 rfl rfl (by omega)) ?_
              refine GW.val 14 rfl (by kernel_rfl) (by kernel_rfl) (by kernel_rfl) rfl rfl hS (fun w' hS' => EX.fieldAddr (off := 0) Tryz.underlying70 rfl rfl ti9 rfl rfl) ?_
              refine GW.val 15 rfl (by kernel_rfl) (by kernel_rfl) (by kernel_rfl) rfl rfl hS (fun w' hS' => EX.load Tryz.underlying9 rfl rfl (cell_extC hS' (e3 0 _ rfl))) ?_
              refine GW.val 16 rfl (by kernel_rfl) (by kernel_rfl) (by kernel_rfl) rfl rfl hS (fun w' hS' => EX.move rfl) ?_
              refine GW.val 17 rfl (by kernel_rfl) (by kernel_rfl) (by kernel_rfl) rfl rfl hS (fun w' hS' => EX.move rfl) ?_
              refine GW.val 18 rfl (by kernel_rfl) (by kernel_rfl) (by kernel_rfl) rfl rfl hS (fun w' hS' => EX.indexAddrS Tryz.underlying22 ti70 rfl rfl (by omega)) ?_
              refine GW.val 19 rfl (by kernel_rfl) (by kernel_rfl) (by kernel_rfl) rfl rfl hS (fun w' hS' => EX.fieldAddr (off := 0) Tryz.underlying70 rfl rfl ti9 rfl rfl) ?_
              refine GW.val 20 rfl (by kernel_rfl) (by kernel_rfl) (by kernel_rfl) rfl rfl hS (fun w' hS' => EX.load Tryz.underlying9 rfl rfl (cell_extC hS' (hcell 0 _ rfl))) ?_
              refine GW.call 21 rfl (by kernel_rfl) rfl rfl rfl (cc _) ?_
              rintro _ wp ⟨rfl, hxp⟩
              refine ⟨hS.trans hxp, fun hS => ?_⟩
              refine GW.val 22 rfl (by kernel_rfl) (by kernel_rfl) (by kernel_rfl) rfl rfl hS (fun w' hS' => by first | exact EX.geqN (b := 0) rfl rfl | exact EX.geqZ rfl rfl) ?_
              refine GW.val 23 rfl (by kernel_rfl) (by kernel_rfl) (by kernel_rfl) rfl rfl hS (fun w' hS' => EX.pickT rfl rfl) ?_
              refine GW.val 24 rfl (by kernel_rfl) (by kernel_rfl) (by kernel_rfl) rfl rfl hS (fun w' hS' => EX.pickF rfl rfl) ?_
              refine GW.done (by kernel_rfl) ?_
              refine KW.as 39 (.bool (decide ((¬ mayM m ∨ 0 ≤ cmpPrev l i m)))) rfl (congrArg Value.bool (decide_eq_decide.2 ⟨fun h => .inr h, fun h => h.elim (fun q => absurd hm q) id⟩)) ?_
              refine KW.meet1 (wp) ⟨rfl, rfl, rfl, rfl, trivial⟩ rfl ?_
              exact hS
          · have e0 : checkM m ≠ 0 := fun q => hm ((checkM_iff m).1 q)
            refine KW.regionG (N := 25) (fun w' => Ext wr w') (by kernel_rfl) rfl ?_
            have hS := Ext.drew wr
            refine GW.val 0 rfl (by kernel_rfl) (by kernel_rfl) (by kernel_rfl) rfl rfl hS (fun w' hS' => EX.move rfl) ?_
            refine GW.val 1 rfl (by kernel_rfl) (by kernel_rfl) (by kernel_rfl) rfl rfl hS (fun w' hS' => EX.move rfl) ?_
            refine GW.val 2 rfl (by kernel_rfl) (by kernel_rfl) (by kernel_rfl) rfl rfl hS (fun w' hS' => EX.indexAddrS Tryz.underlying22 ti70 rfl rfl (by omega)) ?_
            refine GW.val 3 rfl (by kernel_rfl) (by kernel_rfl) (by kernel_rfl) rfl rfl hS (fun w' hS' => EX.loadA (l := m.cells) Tryz.underlying70 rfl ti70 rfl rfl (fun j u h => cell_extC hS' (hcell j u h))) ?_
            refine GW.call 4 rfl (by kernel_rfl) rfl rfl rfl (ck _) ?_
            rintro _ wq ⟨rfl, hxq⟩
            refine ⟨hS.trans hxq, fun hS => ?_⟩
            refine GW.val 5 rfl (by kernel_rfl) (by kernel_rfl) (by kernel_rfl) rfl rfl hS (fun w' hS' => by first | exact EX.neqN (b := 0) rfl rfl | exact EX.neqZ rfl rfl) ?_
            refine GW.val 6 rfl (by kernel_rfl) (by kernel_rfl) (by kernel_rfl) rfl rfl hS (fun w' hS' => EX.move rfl) ?_
            refine GW.as 21 (.bool true) rfl (congrArg Value.bool (decide_eq_true ((fun h => e0 h)))) ?_
            refine GW.pass 7 rfl (by kernel_rfl) (by kernel_rfl) (by kernel_rfl) rfl rfl hS ?_
            refine GW.pass 8 rfl (by kernel_rfl) (by kernel_rfl) (by kernel_rfl) rfl rfl hS ?_
            refine GW.pass 9 rfl (by kernel_rfl) (by kernel_rfl) (by kernel_rfl) rfl rfl hS ?_
            refine GW.pass 10 rfl (by kernel_rfl) (by kernel_rfl) (by kernel_rfl) rfl rfl hS ?_
            refine GW.pass 11 rfl (by kernel_rfl) (by kernel_rfl) (by kernel_rfl) rfl rfl hS ?_
            refine GW.pass 12 rfl (by kernel_rfl) (by kernel_rfl) (by kernel_rfl) rfl rfl hS ?_
            refine GW.pass 13 rfl (by kernel_rfl) (by kernel_rfl) (by kernel_rfl) rfl rfl hS ?_
            refine GW.pass 14 rfl (by kernel_rfl) (by kernel_rfl) (by kernel_rfl) rfl rfl hS ?_
            refine GW.pass 15 rfl (by kernel_rfl) (by kernel_rfl) (by kernel_rfl) rfl rfl hS ?_
            refine GW.pass 16 rfl (by kernel_rfl) (by kernel_rfl) (by kernel_rfl) rfl rfl hS ?_
            refine GW.pass 17 rfl (by kernel_rfl) (by kernel_rfl) (by kernel_rfl) rfl rfl hS ?_
            refine GW.pass 18 rfl (by kernel_rfl) (by kernel_rfl) (by kernel_rfl) rfl rfl hS ?_
            refine GW.pass 19 rfl (by kernel_rfl) (by kernel_rfl) (by kernel_rfl) rfl rfl hS ?_
            refine GW.pass 20 rfl (by kernel_rfl) (by kernel_rfl) (by kernel_rfl) rfl rfl hS ?_
            refine GW.pass 21 rfl (by kernel_rfl) (by kernel_rfl) (by kernel_rfl) rfl rfl hS ?_
            refine GW.pass 22 rfl (by kernel_rfl) (by kernel_rfl) (by kernel_rfl) rfl rfl hS ?_
            refine GW.pass 23 rfl (by kernel_rfl) (by kernel_rfl) (by kernel_rfl) rfl rfl hS ?_
            refine GW.val 24 rfl (by kernel_rfl) (by kernel_rfl) (by kernel_rfl) rfl rfl hS (fun w' hS' => EX.pickT rfl rfl) ?_
            refine GW.done (by kernel_rfl) ?_
            refine KW.as 39 (.bool (decide ((¬ mayM m ∨ 0 ≤ cmpPrev l i m)))) rfl (congrArg Value.bool (decide_eq_true (.inl hm)).symm) ?_
            refine KW.meet1 (wq) ⟨rfl, rfl, rfl, rfl, trivial⟩ rfl ?_
            exact hS
        · rintro wq hxq
          refine KW.condD rfl (fun hbad => ?_) (fun hbad => ?_)
          · refine KW.seq (KW.region ?_)
            refine OW.val rfl rfl (EX.assign rfl) ?_
            refine OW.nil ?_
            refine KW.ret (ret1 rfl rfl ?_)
            rw [chkC_no (hno hbad)]
            exact ⟨rfl, hx.trans hxq⟩
          · have hpre2 := hpre.snoc (m := m) (Decidable.of_not_not fun q => hbad (.inl q)) (fun q => hbad (.inr q))
            rw [← hsn] at hpre2
            refine KW.skip (KW.leave (KW.region ?_))
            refine OW.val rfl rfl (EX.move rfl) ?_
            refine OW.val rfl rfl (by first | exact EX.addN (b := 1) (m := 9223372036854775807) rfl rfl rfl (by omega) | exact EX.addZ (m := 9223372036854775807) rfl rfl rfl rfl (by omega)) ?_
            refine OW.val rfl rfl (EX.assign rfl) ?_
            refine OW.nil ?_
            refine KW.back2 (i + 1) (wq) ⟨rfl, rfl, rfl, trivial⟩ rfl ?_ (by omega)
            exact ⟨by omega, hpre2, hx.trans hxq⟩
      · obtain rfl : i = l.length := by omega
        rw [List.take_length] at hpre
        refine KW.exit rfl (KW.seq (KW.seq (KW.region ?_)))
        refine OW.val rfl rfl (EX.move rfl) ?_
        refine OW.call rfl rfl rfl (rexts_s l (by omega) A c B wr (hs.ext hx)) ?_
        rintro v4 w4 ⟨hown4, hx4⟩
        refine OW.val rfl rfl (EX.move rfl) ?_
        obtain ⟨A4, c4, rfl, _, hsl4⟩ := hown4.slice
        have cs := rspace_s (exts l) (by rw [exts_len]; omega) cap A4 c4 _ w4 hsl4
        rw [exts_len] at cs
        refine OW.call rfl rfl rfl (cs) ?_
        rintro _ w5 ⟨rfl, hx5⟩
        refine OW.val rfl rfl (by first | exact EX.neqN (b := 0) rfl rfl | exact EX.neqZ rfl rfl) ?_
        refine OW.nil ?_
        have x5 := (hx.trans hx4).trans hx5
        refine KW.condD rfl (fun hsp => ?_) (fun hsp => ?_)
        · have hno : ¬ OkX (exts l) cap := fun q => hsp (by unfold spaceC; rw [if_pos q])
          refine KW.seq (KW.region ?_)
          refine OW.val rfl rfl (EX.assign rfl) ?_
          refine OW.nil ?_
          refine KW.ret (ret1 rfl rfl ?_)
          rw [chkC_no (fun h => hno h.ext)]
          exact ⟨rfl, x5⟩
        · have hyes : OkX (exts l) cap := Decidable.byContradiction fun q => hsp (by unfold spaceC; rw [if_neg q]; decide)
          refine KW.skip (KW.seq (KW.region ?_))
          refine OW.val rfl rfl (EX.assign rfl) ?_
          refine OW.nil ?_
          refine KW.ret (ret1 rfl rfl ?_)
          rw [chkC_ok ⟨by omega, hpre.may, hpre.rises, hyes⟩]
          exact ⟨rfl, x5⟩
end Go.Proofs.YthgfdpcpbghkpaaGreatDoor
/- A slot's sectors, in plain words. No program is spoken of. -/
namespace Go.Proofs.YthgfdpcpbghkpaaGreatDoor.Cat
set_option linter.unnecessarySimpa false
open Pth Rec Srt
set_option linter.unusedSimpArgs false
set_option linter.unusedVariables false
def piece (s : List UInt8) (i : Nat) : List UInt8 := (s.drop (486 * i)).take 486
theorem piece_len (s : List UInt8) (i : Nat) : (piece s i).length ≤ 486 := by unfold piece; rw [List.length_take]; omega
def sec5 (gen : Int) (s : List UInt8) (i : Nat) : List UInt8 := text 4 gen.toNat i (piece s i)
def sect5 (gen : Int) (s : List UInt8) : Txts := (List.range 5).map (sec5 gen s)
theorem sect5_len (gen : Int) (s : List UInt8) : (sect5 gen s).length = 5 := by simp [sect5]
theorem sect5_get (gen : Int) (s : List UInt8) {i : Nat} (h : i < 5) : (sect5 gen s)[i]? = some (sec5 gen s i) := by simp [sect5, h]
structure OkE (gen : Int) (l : List M) : Prop where
  low : 0 ≤ gen
  high : gen ≤ 4611686018427387904
  chk : OkC l 4096
noncomputable def encC (gen : Int) (l : List M) : Txts × Nat := open Classical in if OkE gen l then (sect5 gen (allT l), 0) else ([], 230)
theorem encC_ok {gen : Int} {l : List M} (h : OkE gen l) : encC gen l = (sect5 gen (allT l), 0) := by unfold encC; rw [if_pos h]
theorem encC_no {gen : Int} {l : List M} (h : ¬ OkE gen l) : encC gen l = ([], 230) := by unfold encC; rw [if_neg h]
theorem encC_or (gen : Int) (l : List M) : (OkE gen l ∧ encC gen l = (sect5 gen (allT l), 0)) ∨ encC gen l = ([], 230) := by
  rcases Classical.em (OkE gen l) with h | h
  · exact .inl ⟨h, encC_ok h⟩
  · exact .inr (encC_no h)
theorem okE_len {gen : Int} {l : List M} (h : OkE gen l) : (allT l).length ≤ 2096 := by
  have h1 := allT_len l h.chk.may
  have := h.chk.len
  omega
theorem enc_sec {gen : Int} (h0 : 0 ≤ gen) (h1 : gen ≤ 4611686018427387904) (s : List UInt8) {i : Nat} (hi : i < 5) : encodeR 4 gen i (piece s i) = (sec5 gen s i, 0) := by
  have hb : ¬ bad 4 gen i (piece s i) := by
    unfold bad
    have := piece_len s i
    omega
  unfold encodeR
  rw [if_neg hb]
  rfl
theorem dec_sec {gen : Int} (h0 : 0 ≤ gen) (h1 : gen ≤ 4611686018427387904) (s : List UInt8) {i : Nat} (hi : i < 5) : decodeR (sec5 gen s i) = (⟨4, gen, i, piece s i⟩, 0) := dec_enc (by decide) (enc_sec h0 h1 s hi)
/-! ### Reading -/
def datas (ss : Txts) : List UInt8 := ss.flatMap fun s => (decodeR s).1.data
theorem datas_snoc (ss : Txts) (s : List UInt8) : datas (ss ++ [s]) = datas ss ++ (decodeR s).1.data := by simp [datas]
def genOf (ss : Txts) : Int := (decodeR (ss.getD 0 [])).1.gen
def memsOf (ss : Txts) : List M × Nat := memL ((datas ss).length + 1) (datas ss) []
structure OkD (ss : Txts) : Prop where
  mem : (memsOf ss).2 = 0
  enc : encC (genOf ss) (memsOf ss).1 = (ss, 0)
noncomputable def decC (ss : Txts) : Int × List M × Nat := open Classical in if OkD ss then (genOf ss, (memsOf ss).1, 0) else (0, [], 230)
theorem decC_ok {ss : Txts} (h : OkD ss) : decC ss = (genOf ss, (memsOf ss).1, 0) := by unfold decC; rw [if_pos h]
theorem decC_no {ss : Txts} (h : ¬ OkD ss) : decC ss = (0, [], 230) := by unfold decC; rw [if_neg h]
/-- what sectors are that were laid -/
theorem enc_parts {gen : Int} {l : List M} {ss : Txts} (h : encC gen l = (ss, 0)) : OkE gen l ∧ ss = sect5 gen (allT l) := by
  rcases encC_or gen l with ⟨h1, h2⟩ | h2
  · rw [h2] at h
    injection h with h3 h4
    exact ⟨h1, h3.symm⟩
  · rw [h2] at h
    injection h with h3 h4
    cases h4
theorem enc_at {gen : Int} {l : List M} {ss : Txts} (h : encC gen l = (ss, 0)) {i : Nat} (hi : i < ss.length) : ss.length = 5 ∧ decodeR ss[i] = (⟨4, gen, i, piece (allT l) i⟩, 0) := by
  obtain ⟨h1, rfl⟩ := enc_parts h
  rw [sect5_len] at hi
  have h2 := sect5_get gen (allT l) hi
  have h3 : (sect5 gen (allT l))[i]'(by rw [sect5_len]; exact hi) = sec5 gen (allT l) i := by
    rw [List.getElem?_eq_getElem (by rw [sect5_len]; exact hi)] at h2
    injection h2
  exact ⟨sect5_len _ _, by rw [h3]; exact dec_sec h1.low h1.high _ hi⟩
theorem enc_len {gen : Int} {l : List M} {ss : Txts} (h : encC gen l = (ss, 0)) : ss.length = 5 := by
  obtain ⟨_, rfl⟩ := enc_parts h
  exact sect5_len _ _
theorem enc_gen {gen : Int} {l : List M} {ss : Txts} (h : encC gen l = (ss, 0)) : genOf ss = gen := by
  have hl := enc_len h
  have h0 : 0 < ss.length := by omega
  have := (enc_at h h0).2
  unfold genOf
  rw [show ss.getD 0 [] = ss[0] by simp [List.getD_eq_getElem?_getD, List.getElem?_eq_getElem h0], this]
theorem pieces_all (s : List UInt8) : ∀ n, (List.range n).flatMap (piece s) = s.take (486 * n)
  | 0 => by simp
  | n + 1 => by
    rw [List.range_succ, List.flatMap_append, pieces_all s n]
    simp only [List.flatMap_cons, List.flatMap_nil, List.append_nil]
    unfold piece
    rw [show 486 * (n + 1) = 486 * n + 486 by omega, List.take_add]
theorem datas_enc {gen : Int} {l : List M} {ss : Txts} (h : encC gen l = (ss, 0)) : datas ss = allT l := by
  obtain ⟨h1, rfl⟩ := enc_parts h
  have hlen := okE_len h1
  have e : datas (sect5 gen (allT l)) = (List.range 5).flatMap (piece (allT l)) := by
    unfold datas sect5
    rw [List.flatMap_map]
    rw [List.flatMap_def, List.flatMap_def]
    congr 1
    apply List.map_congr_left
    intro i hi
    rw [dec_sec h1.low h1.high _ (List.mem_range.1 hi)]
  rw [e, pieces_all, List.take_of_length_le (by omega)]
/-- what was laid is read again -/
theorem dec_back {gen : Int} {l : List M} {ss : Txts} (hs : ∀ m ∈ l, m.sum ≤ 4294967295) (h : encC gen l = (ss, 0)) : decC ss = (gen, l, 0) := by
  have h1 := (enc_parts h).1
  have hm : memsOf ss = (l, 0) := by
    unfold memsOf
    rw [datas_enc h]
    have := memL_back l ((allT l).length + 1) [] (fun m hm => ⟨h1.chk.may m hm, hs m hm⟩) (Nat.lt_succ_self _)
    simpa using this
  have hg := enc_gen h
  have hd : OkD ss := ⟨by rw [hm], by rw [hm, hg]; exact h⟩
  rw [decC_ok hd, hm, hg]
/-- of the document's way: any sector's generation does -/
theorem okD_any {ss : Txts} {i : Nat} (hi : i < ss.length) (hm : (memsOf ss).2 = 0) (h : encC (decodeR ss[i]).1.gen (memsOf ss).1 = (ss, 0)) : OkD ss := by
  have := (enc_at h hi).2
  have hg := enc_gen h
  rw [this] at h hg
  exact ⟨hm, by rw [hg]; exact h⟩
theorem okD_at {ss : Txts} (h : OkD ss) {i : Nat} (hi : i < ss.length) : ss.length = 5 ∧ (decodeR ss[i]).2 = 0 ∧ (decodeR ss[i]).1.kind = 4 ∧ (decodeR ss[i]).1.gen = genOf ss ∧ (decodeR ss[i]).1.index = i := by
  obtain ⟨h1, h2⟩ := enc_at h.enc hi
  rw [h2]
  exact ⟨h1, rfl, rfl, rfl, rfl⟩
theorem okD_len {ss : Txts} (h : OkD ss) : ss.length = 5 := enc_len h.enc
end Go.Proofs.YthgfdpcpbghkpaaGreatDoor.Cat
/- The engine's laws for what strings.Builder does: a pointer turned to unsafe.Pointer and back, an entry of the model's own, the bytes behind a slice as a text. No program is spoken of. -/
namespace Go.Proofs.YthgfdpcpbghkpaaGreatDoor
set_option linter.unnecessarySimpa false
open Go.RowKit
set_option linter.unusedSimpArgs false
set_option linter.unusedVariables false
section
variable {P : Program} {n : Nat} {σ : Sig} {w w' : World} {t e ty T src dst : TypeId} {x y : Operand}
theorem Bk.shape {b : Nat} {l : List Value} (h : Bk w b T l) : w.shape? b = some (T, l.length) := by
  obtain ⟨fr, h, _⟩ := h
  simp [World.shape?, h]
theorem EX.toUnsafe {a : Addr} {s cells : Nat} (hs : P.underlying src = some (.pointer t)) (hd : P.underlying dst = some .unsafePointer) (hz : (P.info? t).map (·.size) = some (s + 1)) (hsh : w.shape? a.block = some (e, cells)) (hoff : a.off < cells) (hx : ev σ x = some (.pointer (some a))) :
    EX P n σ (.convert src dst x) ty w (.pointer (some a)) w := fun A ha dd pos after g => by
  obtain ⟨j, hj, hjs⟩ := Option.map_eq_some_iff.1 hz
  simp only [execOp, ha.ev hx, Lib.run_to_unsafe w a hs hd hj (by omega) hsh hoff, Sem.run_bind, Result.andThen_ok]
  rfl
theorem EX.fromUnsafe {a : Addr} {u : TypeId} {cells : Nat} {z : Nat} (hs : P.underlying src = some .unsafePointer) (hd : P.underlying dst = some (.pointer u)) (hz : (P.info? u).map (·.size) = some z) (hsh : w.shape? a.block = some (e, cells)) (hl : liesAt P P.depth e (cells / P.cellsOf e) a.off u 1 = true) (hx : ev σ x = some (.pointer (some a))) :
    EX P n σ (.convert src dst x) ty w (.pointer (some a)) w := fun A ha dd pos after g => by
  obtain ⟨j, hj, hjs⟩ := Option.map_eq_some_iff.1 hz
  simp only [execOp, ha.ev hx, Lib.run_from_unsafe w a hs hd hj hsh hl, Sem.run_bind, Result.andThen_ok]
  rfl
theorem EX.neqSame {a : Addr} {z : Nat} (hu : P.underlying t = some (.pointer e)) (hz : (P.info? e).map (·.size) = some z) (hx : ev σ x = some (.pointer (some a))) (hy : ev σ y = some (.pointer (some a))) : EX P n σ (.binOp .neq t x y T) ty w (.bool false) w := by
  obtain ⟨j, hj, hjs⟩ := Option.map_eq_some_iff.1 hz
  exact EX.bin hx hy (guard_ptr _ _ _) (Lib.run_neq_ptr_same w a hu hj)
theorem EX.extern {f : FuncId} {fn : Func} {xs : List Operand} {vs : List Value} {ats : Array TypeId} {E : Array Value → Sem Value} {v : Value} (hf : P.funcs[f]? = some fn) (hname : (fn.name == "runtime.NumGoroutine") = false) (hb : fn.body.isNone = true) (hn : Extern.findNext fn = none) (he : Extern.find fn = some E)
    (hx : evs σ xs = some vs) (hr : (E vs.toArray).run P w = .ok v w') : EX P n σ (.call { callee := .value (.func f), args := xs.toArray, argTypes := ats }) ty w v w' := fun a ha dd pos after g => by
  rw [execOp_call_go]
  have : #[] ++ xs.toArray.map a.eval ++ #[] = vs.toArray := by simp [ha.evs hx]
  rw [this, run_callFunc_extern hf hname hb hn he, hr]
  rfl
theorem EX.sliceData {a : Addr} {m c : Nat} (hc : c ≠ 0) (hx : ev σ x = some (.slice (some a) m c)) : EX P n σ (.call { callee := .builtin .unsafeSliceData, args := #[x], argTypes := #[t] }) ty w (.pointer (some a)) w := fun A ha dd pos after g => by
  simp only [execOp, resolve, invoke, builtin, Sem.run_bind, Sem.run_pure, Result.andThen_ok, List.map_toArray, List.map_cons, List.map_nil, ha.ev hx, Lib.run_unsafeSliceData_row w _ _ a m c hc]
theorem EX.sliceDataN {m c : Nat} (hx : ev σ x = some (.slice none m c)) : EX P n σ (.call { callee := .builtin .unsafeSliceData, args := #[x], argTypes := #[t] }) ty w (.pointer none) w := fun A ha dd pos after g => by
  simp only [execOp, resolve, invoke, builtin, Sem.run_bind, Sem.run_pure, Result.andThen_ok, List.map_toArray, List.map_cons, List.map_nil, ha.ev hx, Lib.run_unsafeSliceData_nil w _ _ m c]
theorem EX.unsafeStr {g : Nat} {l : List UInt8} {rest : List Value} {t' : TypeId} (hp : P.underlying t = some (.pointer e)) (hc : P.cellsOf e = 1) (hb : Bk w g e (bytesV l ++ rest)) (h0 : l ≠ []) (h63 : l.length ≤ 9223372036854775807)
    (hx : ev σ x = some (.pointer (some ⟨g, 0, none⟩))) (hy : ev σ y = some (.int .i64 (l.length : Int))) : EX P n σ (.call { callee := .builtin .unsafeString, args := #[x, y], argTypes := #[t, t'] }) ty w (str l) (w.freeze ⟨g, 0, none⟩ l.length) := fun A ha dd pos after gd => by
  have h := Lib.run_unsafeString_row (P := P) w t t' ty e hp hc g (bytesV l ++ rest).length hb.shape l h0 (by simp [bytesV]) h63 (by
    intro j u hj
    have : (bytesV l ++ rest)[j]? = some (.int .u8 (u.toNat : Int)) := by
      rw [List.getElem?_append_left (by simp [bytesV]; exact (List.getElem?_eq_some_iff.1 hj).1)]
      simp [bytesV, hj]
    have h2 := hb.cell_of this
    rw [show (⟨g, 0, none⟩ : Addr).add j = ⟨g, j, none⟩ by unfold Addr.add; split <;> simp_all]
    exact h2)
  simp only [execOp, resolve, invoke, builtin, Sem.run_bind, Sem.run_pure, Result.andThen_ok, List.map_toArray, List.map_cons, List.map_nil, ha.ev hx, ha.ev hy, h]
theorem EX.unsafeStrN {t' : TypeId} {p : Option Addr} (hx : ev σ x = some (.pointer p)) (hy : ev σ y = some (.int .i64 ((0 : Nat) : Int))) : EX P n σ (.call { callee := .builtin .unsafeString, args := #[x, y], argTypes := #[t, t'] }) ty w (str []) w := fun A ha dd pos after gd => by
  have h := Lib.run_unsafeString_none (P := P) w t t' ty p
  have e0 : (((0 : Nat) : Int)) = 0 := rfl
  simp only [execOp, resolve, invoke, builtin, Sem.run_bind, Sem.run_pure, Result.andThen_ok, List.map_toArray, List.map_cons, List.map_nil, ha.ev hx, ha.ev hy, e0, h]
  rfl
end
end Go.Proofs.YthgfdpcpbghkpaaGreatDoor
/- strings.Builder: texts are written one behind the other, and told as one. -/
namespace Go.Proofs.YthgfdpcpbghkpaaGreatDoor
set_option linter.unnecessarySimpa false
open Go.RowKit
set_option linter.unusedVariables false
set_option linter.unusedSimpArgs false

/-- a builder that a call made -/
def Bd (w : World) (B b : Nat) (l : List UInt8) : Prop :=
  B ≤ b ∧ ∃ p v, (p = .pointer none ∨ p = .pointer (some ⟨b, 0, none⟩)) ∧ Bk w b 73 [p, v] ∧ (l = [] → v = .slice none 0 0) ∧ Own w B 5 1 v l.length (bytesV l)
theorem Bd.new {w : World} {B b : Nat} (hB : B ≤ b) (h : Bk w b 73 [.pointer none, .slice none 0 0]) : Bd w B b [] := ⟨hB, _, _, .inl rfl, h, fun _ => rfl, Own.nil _ _ _ _⟩
theorem Bd.ext {w w' : World} {B b : Nat} {l : List UInt8} (h : Bd w B b l) (hx : Ext w w') : Bd w' B b l := by
  obtain ⟨h1, p, v, h2, h3, h4, h5⟩ := h
  exact ⟨h1, p, v, h2, h3.ext hx, h4, h5.ext hx⟩
set_option maxRecDepth 20000 in
theorem copyCheck_b (b : Nat) (p v : Value) (w : World) (hp : p = .pointer none ∨ p = .pointer (some ⟨b, 0, none⟩)) (hb : Bk w b 73 [p, v]) :
    Ret Tryz.prog 63 [.pointer (some ⟨b, 0, none⟩)] w fun r w' => r = .tuple #[] ∧ Bk w' b 73 [.pointer (some ⟨b, 0, none⟩), v] ∧ Mo w w' [b] := by
  refine Ret.enter Tryz.func63 rfl Tryz.ntmps63 (by kernel_rfl) rfl ?_
  refine KW.seq (KW.region ?_)
  refine OW.val rfl rfl (EX.move rfl) ?_
  refine OW.val rfl rfl (EX.nilCheck rfl) ?_
  refine OW.val rfl rfl (EX.fieldAddr (off := 0) Tryz.underlying73 rfl rfl ti71 rfl rfl) ?_
  refine OW.val rfl rfl (EX.load Tryz.underlying71 rfl rfl (hb.cell_of rfl)) ?_
  rcases hp with rfl | rfl
  · refine OW.val rfl rfl (EX.eqlP0 Tryz.underlying71 rfl rfl) ?_
    refine OW.nil ?_
    refine KW.condT rfl (KW.region ?_)
    refine OW.val rfl rfl (EX.move rfl) ?_
    refine OW.val rfl rfl (EX.move rfl) ?_
    refine OW.val rfl rfl (EX.toUnsafe (s := 1) Tryz.underlying71 Tryz.underlying142 (by kernel_rfl) hb.shape (Nat.zero_lt_succ _) rfl) ?_
    refine OW.val rfl rfl (EX.extern Tryz.func82 (by kernel_rfl) (by kernel_rfl) (by kernel_rfl) (E := Extern.AbiNoEscape.same) (by kernel_rfl) rfl (Lib.run_noEscape _ _)) ?_
    refine OW.val rfl rfl (EX.fromUnsafe (z := 2) Tryz.underlying142 Tryz.underlying71 (by kernel_rfl) hb.shape (by kernel_rfl) rfl) ?_
    refine OW.val rfl rfl (EX.nilCheck rfl) ?_
    refine OW.val rfl rfl (EX.fieldAddr (off := 0) Tryz.underlying73 rfl rfl ti71 rfl rfl) ?_
    refine OW.storeB rfl ti71 rfl rfl (by first | rfl | assumption | exact Own.one (by assumption)) (hb) (by simp) ?_
    rintro w2 hb2 hm2
    refine OW.nil ?_
    refine KW.done (ret0 rfl ?_)
    exact ⟨rfl, hb2, hm2⟩
  · refine OW.val rfl rfl (EX.eqlP1 Tryz.underlying71 rfl rfl) ?_
    refine OW.nil ?_
    refine KW.condF rfl (KW.seq (KW.region ?_))
    refine OW.val rfl rfl (EX.move rfl) ?_
    refine OW.val rfl rfl (EX.nilCheck rfl) ?_
    refine OW.val rfl rfl (EX.fieldAddr (off := 0) Tryz.underlying73 rfl rfl ti71 rfl rfl) ?_
    refine OW.val rfl rfl (EX.load Tryz.underlying71 rfl rfl (hb.cell_of rfl)) ?_
    refine OW.val rfl rfl (EX.move rfl) ?_
    refine OW.val rfl rfl (EX.neqSame (z := 2) Tryz.underlying71 (by kernel_rfl) rfl rfl) ?_
    refine OW.nil ?_
    refine KW.condF rfl (KW.skip ?_)
    refine KW.done (ret0 rfl ?_)
    exact ⟨rfl, hb, Mo.refl _ _⟩
/-- the types of what a builder's call changes -/
def bty (T : TypeId) : Bool := T == 73 || T == 5
set_option maxRecDepth 20000 in
theorem writeString_t (B b : Nat) (l s : List UInt8) (w : World) (h : Bd w B b l) (hs : s ≠ []) (hlen : l.length + s.length ≤ 140737488355328) (hB : B ≤ w.heap.size) :
    Ret Tryz.prog 32 [.pointer (some ⟨b, 0, none⟩), str s] w fun r w' => (∃ q, r = q) ∧ Bd w' B b (l ++ s) ∧ Below B w w' ∧ Tm w w' B bty := by
  obtain ⟨hBb, p, v, hp, hb, hn, hown⟩ := h
  have hlb : (bytesV l).length = l.length := by simp [bytesV]
  refine Ret.enter Tryz.func32 rfl Tryz.ntmps32 (by kernel_rfl) rfl ?_
  refine KW.seq (KW.region ?_)
  refine OW.val rfl rfl (EX.assign rfl) ?_
  refine OW.val rfl rfl (EX.assign rfl) ?_
  refine OW.nil ?_
  refine KW.seq (KW.region ?_)
  refine OW.val rfl rfl (EX.move rfl) ?_
  refine OW.call rfl rfl rfl (copyCheck_b b p v w hp hb) ?_
  rintro _ w1 ⟨rfl, hb1, hm1⟩
  refine OW.nil ?_
  refine KW.seq (KW.region ?_)
  refine OW.val rfl rfl (EX.move rfl) ?_
  refine OW.val rfl rfl (EX.move rfl) ?_
  refine OW.val rfl rfl (EX.nilCheck rfl) ?_
  refine OW.val rfl rfl (EX.fieldAddr (off := 1) Tryz.underlying73 rfl rfl ti54 rfl rfl) ?_
  have hown1 := hown.mo hm1 (fun k hk => by simp; exact fun z => hown.ne hb (by decide) k hk z.symm)
  have b1 : Below B w w1 := below_mo (Below.refl B w) hm1 hB (fun k hk => by simp at hk; omega)
  have hB1 : B ≤ w1.heap.size := Nat.le_trans hB b1.size
  refine OW.val rfl rfl (EX.load Tryz.underlying54 rfl rfl (hb1.cell_of rfl)) ?_
  refine OW.val rfl rfl (EX.move rfl) ?_
  refine OW.append B rfl rfl Tryz.underlying54 ti5 rfl (by decide) rfl rfl hown1 (Src.of_str Tryz.underlying9 s) (by simp only [maxLen]; omega) (by omega) hB1 ?_
  rintro v2 w2 hown2 hg2 hv2
  refine OW.val rfl rfl (EX.nilCheck rfl) ?_
  refine OW.val rfl rfl (EX.fieldAddr (off := 1) Tryz.underlying73 rfl rfl ti54 rfl rfl) ?_
  have hb2 := hb1.grown hg2 (fun z => hown1.ne hb1 (by decide) b z.symm rfl)
  have b2 : Below B w w2 := below_mo b1 (Mo.grown hg2 (S := v.ownBlock.toList) (fun k e => by rw [e]; simp)) hB1 (fun k hk => (hown1.lt k (Option.mem_toList.1 hk)).1)
  have hB2 : B ≤ w2.heap.size := Nat.le_trans hB b2.size
  refine OW.storeB rfl ti54 rfl rfl (by first | rfl | assumption | exact Own.one (by assumption)) (hb2) (by simp) ?_
  rintro w3 hb3 hm3
  refine OW.nil ?_
  refine KW.seq (KW.region ?_)
  refine OW.val rfl rfl (EX.move rfl) ?_
  refine OW.val rfl rfl (EX.lenS Tryz.underlying9 rfl) ?_
  refine OW.val rfl rfl (EX.assign rfl) ?_
  refine OW.val rfl rfl (EX.assign rfl) ?_
  refine OW.nil ?_
  have b3 : Below B w w3 := below_mo b2 hm3 hB2 (fun k hk => by simp at hk; omega)
  have hown3 := hown2.mo hm3 (fun k hk => by simp; exact fun z => hown2.ne hb2 (by decide) k hk z.symm)
  have tm1 : Tm w w1 B bty := (Tm.set hb hm1 hBb).mono fun T hT => by simp at hT; simp [bty, hT]
  have tm2 : Tm w1 w2 B bty := (Tm.grown hown1 hg2).mono fun T hT => by simp at hT; simp [bty, hT]
  have tm3 : Tm w2 w3 B bty := (Tm.set hb2 hm3 hBb).mono fun T hT => by simp at hT; simp [bty, hT]
  refine KW.ret (ret2 rfl rfl rfl ?_)
  refine ⟨⟨_, rfl⟩, ⟨hBb, _, v2, .inr rfl, hb3, fun q => absurd q (by simp [hs]), ?_⟩, b3, (tm1.trans tm2).trans tm3⟩
  rw [List.length_append]
  have e : bytesV (l ++ s) = bytesV l ++ bytesV s := by simp [bytesV]
  rw [e]
  exact hown3
theorem writeString_b (B b : Nat) (l s : List UInt8) (w : World) (h : Bd w B b l) (hs : s ≠ []) (hlen : l.length + s.length ≤ 140737488355328) (hB : B ≤ w.heap.size) :
    Ret Tryz.prog 32 [.pointer (some ⟨b, 0, none⟩), str s] w fun r w' => (∃ q, r = q) ∧ Bd w' B b (l ++ s) ∧ Below B w w' :=
  (writeString_t B b l s w h hs hlen hB).mono fun _ _ h => ⟨h.1, h.2.1, h.2.2.1⟩
set_option maxRecDepth 20000 in
theorem bstring_b (B b : Nat) (l : List UInt8) (w : World) (h : Bd w B b l) (hlen : l.length ≤ 140737488355328) (hB : B ≤ w.heap.size) :
    Ret Tryz.prog 33 [.pointer (some ⟨b, 0, none⟩)] w fun r w' => r = str l ∧ Below B w w' := by
  obtain ⟨hBb, p, v, hp, hb, hn, hown⟩ := h
  refine Ret.enter Tryz.func33 rfl Tryz.ntmps33 (by kernel_rfl) rfl ?_
  refine KW.seq (KW.region ?_)
  refine OW.val rfl rfl (EX.assign rfl) ?_
  refine OW.nil ?_
  refine KW.seq ?_
  rcases Decidable.em (l = []) with hl | hl
  · obtain rfl := hn hl
    subst hl
    refine KW.regionQ (by kernel_rfl) (by kernel_rfl) ?_
    refine QW.val rfl rfl (fun _ => EX.move rfl) ?_
    refine QW.val rfl rfl (fun _ => EX.nilCheck rfl) ?_
    refine QW.val rfl rfl (fun _ => EX.fieldAddr (off := 1) Tryz.underlying73 rfl rfl ti54 rfl rfl) ?_
    refine QW.val rfl rfl (fun _ => EX.load Tryz.underlying54 rfl rfl (hb.cell_of rfl)) ?_
    refine QW.val rfl rfl (fun _ => EX.sliceDataN rfl) ?_
    refine QW.val rfl rfl (fun _ => EX.move rfl) ?_
    refine QW.val rfl rfl (fun _ => EX.nilCheck rfl) ?_
    refine QW.val rfl rfl (fun _ => EX.fieldAddr (off := 1) Tryz.underlying73 rfl rfl ti54 rfl rfl) ?_
    refine QW.val rfl rfl (fun _ => EX.load Tryz.underlying54 rfl rfl (hb.cell_of rfl)) ?_
    refine QW.val rfl rfl (fun _ => EX.lenA Tryz.underlying54 rfl) ?_
    refine QW.val rfl rfl (fun _ => EX.unsafeStrN rfl rfl) ?_
    refine QW.val rfl rfl (fun _ => EX.assign rfl) ?_
    refine QW.nil (fun nq => ?_)
    refine KW.ret (ret1 rfl rfl ?_)
    exact ⟨rfl, below_drewN (Below.refl B w) nq⟩
  · have hne : l.length ≠ 0 := fun z => hl (List.eq_nil_of_length_eq_zero z)
    rcases hown.2 with ⟨_, hz⟩ | ⟨g, cap, rest, rfl, hg, hbg, hlen2, hc1, hc2⟩
    · exact absurd hz hne
    · refine KW.regionH 10 (by kernel_rfl) (by kernel_rfl) ?_
      refine HW.val rfl rfl (EX.move rfl) ?_
      refine HW.val rfl rfl (EX.nilCheck rfl) ?_
      refine HW.val rfl rfl (EX.fieldAddr (off := 1) Tryz.underlying73 rfl rfl ti54 rfl rfl) ?_
      refine HW.val rfl rfl (EX.load Tryz.underlying54 rfl rfl (hb.cell_of rfl)) ?_
      refine HW.val rfl rfl (EX.sliceData (by omega) rfl) ?_
      refine HW.val rfl rfl (EX.move rfl) ?_
      refine HW.val rfl rfl (EX.nilCheck rfl) ?_
      refine HW.val rfl rfl (EX.fieldAddr (off := 1) Tryz.underlying73 rfl rfl ti54 rfl rfl) ?_
      refine HW.val rfl rfl (EX.load Tryz.underlying54 rfl rfl (hb.cell_of rfl)) ?_
      refine HW.val rfl rfl (EX.lenA Tryz.underlying54 rfl) ?_
      refine HW.tail ?_
      refine OW.val rfl rfl (EX.unsafeStr (g := g) (l := l) (rest := rest) Tryz.underlying123 (by kernel_rfl) (hbg.drewN _) hl (by omega) rfl rfl) ?_
      refine OW.val rfl rfl (EX.assign rfl) ?_
      refine OW.nil ?_
      refine KW.ret (ret1 rfl rfl ?_)
      exact ⟨rfl, Lib.below_freeze (below_drewN (Below.refl B w) _) (p := ⟨g, 0, none⟩) hg _⟩
end Go.Proofs.YthgfdpcpbghkpaaGreatDoor
/- A slot's sectors are laid, by the program and by the document. -/
namespace Go.Proofs.YthgfdpcpbghkpaaGreatDoor
set_option linter.unnecessarySimpa false
open Go.RowKit Pth Rec Srt Cat
set_option linter.unusedVariables false
set_option linter.unusedSimpArgs false

theorem memberT_ne (m : M) : memberT m ≠ [] := fun e => by
  have := congrArg List.length e
  rw [memberT_length] at this
  simp at this
theorem encC_bad {gen : Int} {l : List M} (h : gen < 0 ∨ 4611686018427387904 < gen ∨ chkC l 4096 ≠ 0) : encC gen l = ([], 230) := encC_no fun q => by
  have h1 := q.low
  have h2 := q.high
  have h3 := chkC_ok q.chk
  omega
theorem okE_of {gen : Int} {l : List M} (h1 : ¬ gen < 0) (h2 : ¬ 4611686018427387904 < gen) (h3 : chkC l 4096 = 0) : OkE gen l := by
  refine ⟨by omega, by omega, Classical.byContradiction fun q => ?_⟩
  rw [chkC_no q] at h3
  cases h3
def out5 (gen : Int) (s : List UInt8) (i : Nat) : List Value := (List.range 5).map fun j => if j < i then str (sec5 gen s j) else str []
theorem out5_len (gen : Int) (s : List UInt8) (i : Nat) : (out5 gen s i).length = 5 := by simp [out5]
theorem out5_set (gen : Int) (s : List UInt8) {i : Nat} (hi : i < 5) : (out5 gen s i).set i (str (sec5 gen s i)) = out5 gen s (i + 1) := by
  apply List.ext_getElem?
  intro j
  rw [List.getElem?_set, out5_len]
  by_cases hj : j < 5
  · by_cases e : i = j
    · subst e
      rw [if_pos rfl, if_pos hi]
      simp [out5, hi]
    · rw [if_neg e]
      simp only [out5, List.getElem?_map, List.getElem?_range hj, Option.map_some]
      congr 1
      by_cases q : j < i
      · rw [if_pos q, if_pos (by omega)]
      · rw [if_neg q, if_neg (by omega)]
  · rw [List.getElem?_eq_none (by rw [out5_len]; omega)]
    by_cases e : i = j
    · omega
    · rw [if_neg e, List.getElem?_eq_none (by rw [out5_len]; omega)]
theorem out5_done (gen : Int) (s : List UInt8) : out5 gen s 5 = txtsV (sect5 gen s) := by
  unfold out5 txtsV sect5
  rw [List.map_map]
  apply List.map_congr_left
  intro j hj
  rw [if_pos (List.mem_range.1 hj)]
  rfl
set_option maxRecDepth 20000 in
theorem encode23_s (gen : Int) (l : List M) (hok : ∀ m ∈ l, m.Ok) (hl : l.length ≤ 140737488355328) (A : Option Addr) (c B : Nat) (w : World) (hG : MLen w) (hs : Sl w B A (memsV l)) :
    Ret Tryz.prog 7 [.int .i64 gen, .slice A l.length c] w fun v w' => (∃ u, v = .tuple #[u, .int .i64 (((encC gen l).2 : Nat) : Int)] ∧ Own w' w.heap.size 9 1 u (encC gen l).1.length (txtsV (encC gen l).1)) ∧ Ext w w' := by
  have bad : (gen < 0 ∨ 4611686018427387904 < gen ∨ chkC l 4096 ≠ 0) → ∀ w', Ext w w' → (∃ u, (Value.tuple #[.slice none 0 0, .int .i64 230]) = .tuple #[u, .int .i64 (((encC gen l).2 : Nat) : Int)] ∧ Own w' w.heap.size 9 1 u (encC gen l).1.length (txtsV (encC gen l).1)) ∧ Ext w w' := fun h w' hx => by
    rw [encC_bad h]
    exact ⟨⟨_, rfl, Own.nil _ _ _ _⟩, hx⟩
  refine Ret.enter Tryz.func7 rfl Tryz.ntmps7 (by kernel_rfl) rfl ?_
  refine KW.seq (KW.region ?_)
  refine OW.val rfl rfl (EX.assign rfl) ?_
  refine OW.val rfl rfl (EX.assign rfl) ?_
  refine OW.nil ?_
  refine KW.seq (KW.seq ?_)
  refine KW.region ?_
  refine OW.val rfl rfl (EX.move rfl) ?_
  refine OW.val rfl rfl (by first | exact EX.lssN (b := 0) rfl rfl | exact EX.lssZ rfl rfl) ?_
  refine OW.val rfl rfl (EX.move rfl) ?_
  refine OW.splitD 17 rfl (fun h1 => ?_) (fun h1 => ?_)
  · refine OW.pass rfl rfl ?_
    refine OW.pass rfl rfl ?_
    refine OW.val rfl rfl (EX.pickT rfl rfl) ?_
    refine OW.val rfl rfl (EX.move rfl) ?_
    refine OW.pass rfl rfl ?_
    refine OW.pass rfl rfl ?_
    refine OW.pass rfl rfl ?_
    refine OW.val rfl rfl (EX.pickT rfl rfl) ?_
    refine OW.nil ?_
    refine KW.condT rfl (KW.seq (KW.region ?_))
    refine OW.val rfl rfl (EX.assign rfl) ?_
    refine OW.val rfl rfl (EX.assign rfl) ?_
    refine OW.nil ?_
    refine KW.ret (ret2 rfl rfl rfl ?_)
    exact bad (.inl h1) w (Ext.refl _)
  · refine OW.val rfl rfl (EX.move rfl) ?_
    refine OW.val rfl rfl (by first | exact EX.gtrN (b := 4611686018427387904) rfl rfl | exact EX.gtrZ rfl rfl) ?_
    refine OW.val rfl rfl (EX.pickF rfl rfl) ?_
    refine OW.val rfl rfl (EX.move rfl) ?_
    refine OW.splitD 21 rfl (fun h2 => ?_) (fun h2 => ?_)
    · refine OW.pass rfl rfl ?_
      refine OW.pass rfl rfl ?_
      refine OW.pass rfl rfl ?_
      refine OW.val rfl rfl (EX.pickT rfl rfl) ?_
      refine OW.nil ?_
      refine KW.condT rfl (KW.seq (KW.region ?_))
      refine OW.val rfl rfl (EX.assign rfl) ?_
      refine OW.val rfl rfl (EX.assign rfl) ?_
      refine OW.nil ?_
      refine KW.ret (ret2 rfl rfl rfl ?_)
      exact bad (.inr (.inl h2)) w (Ext.refl _)
    · refine OW.val rfl rfl (EX.move rfl) ?_
      refine OW.call rfl rfl rfl (chk_s l hok hl 4096 A c B w hG hs) ?_
      rintro _ w1 ⟨rfl, hx1⟩
      refine OW.val rfl rfl (by first | exact EX.neqN (b := 0) rfl rfl | exact EX.neqZ rfl rfl) ?_
      refine OW.val rfl rfl (EX.pickF rfl rfl) ?_
      refine OW.nil ?_
      refine KW.condD rfl (fun h3 => ?_) (fun h3 => ?_)
      · refine KW.seq (KW.region ?_)
        refine OW.val rfl rfl (EX.assign rfl) ?_
        refine OW.val rfl rfl (EX.assign rfl) ?_
        refine OW.nil ?_
        refine KW.ret (ret2 rfl rfl rfl ?_)
        exact bad (.inr (.inr (fun q => h3 (by omega)))) w1 hx1
      · have hE : OkE gen l := okE_of h1 h2 (Decidable.byContradiction fun q => h3 (by omega))
        have hall := okE_len hE
        have hmay := hE.chk.may
        have hll := hE.chk.len
        have htake : ∀ i, (allT (l.take i)).length ≤ 2096 := fun i => by
          have h4 := allT_len (l.take i) (fun m hm => hmay m (List.mem_of_mem_take hm))
          rw [List.length_take] at h4
          omega
        rw [encC_ok hE]
        refine KW.skip (KW.seq (KW.region ?_))
        refine OW.allocB (l := [.pointer none, .slice none 0 0]) rfl rfl ti73 rfl ?_
        rintro bb w2 hge2 hb2 hx2
        refine OW.nil ?_
        refine KW.seq (KW.seq (KW.region ?_))
        refine OW.val rfl rfl (EX.move rfl) ?_
        refine OW.val rfl rfl (EX.lenA Tryz.underlying22 rfl) ?_
        refine OW.val rfl rfl (EX.move rfl) ?_
        refine OW.nil ?_
        have hbd2 := Bd.new (B := w.heap.size) (by have := hx1.size; omega) hb2
        have x2 := hx1.trans hx2
        refine KW.cut1 (fun (wr : World) => Bd wr w.heap.size bb (allT l) ∧ Ext w wr) (fun (wr : World) => [(0, .int .i64 gen), (6, .pointer (some ⟨bb, 0, none⟩))]) (fun (wr : World) => wr) ?_ ?_
        · refine KW.block ?_
          refine KW.loop2 (fun (i : Nat) (wr : World) => i ≤ l.length ∧ Bd wr w.heap.size bb (allT (l.take i)) ∧ Ext w wr) (fun (i : Nat) (wr : World) => [(0, .int .i64 gen), (6, .pointer (some ⟨bb, 0, none⟩)), (26, .slice A l.length c), (27, .int .i64 ((l.length : Nat) : Int)), (28, .int .i64 ((i : Nat) : Int))]) (fun (i : Nat) (wr : World) => wr) (fun (i : Nat) (wr : World) => l.length - i) (0) (w2) ⟨rfl, rfl, rfl, rfl, rfl, trivial⟩ rfl ?_ ?_
          · exact ⟨Nat.zero_le _, hbd2, x2⟩
          · rintro i wr ⟨hi, hbd, hx⟩
            have ht1 := htake i
            have ht2 := htake (i + 1)
            refine KW.seq (KW.region ?_)
            refine OW.val rfl rfl (by first | exact EX.lssN rfl rfl | exact EX.lssZ rfl rfl) ?_
            refine OW.nil ?_
            refine KW.seq ?_
            refine KW.condD rfl (fun hlt => ?_) (fun hlt => ?_)
            · obtain ⟨b, o, rfl, _, hcell⟩ := (hs.ext hx).flat (i := i) (c := 5) (fun _ => rfl) (by decide) hlt
              have hsn : l.take (i + 1) = l.take i ++ [l[i]] := (List.take_append_getElem hlt).symm
              have hmo := hok l[i] (List.getElem_mem hlt)
              have hmm := hmay l[i] (List.getElem_mem hlt)
              generalize l[i] = m at hcell hsn hmo hmm
              have hcs : allT (l.take (i + 1)) = allT (l.take i) ++ memberT m := by rw [hsn, allT_snoc]
              rw [hcs, List.length_append] at ht2
              refine KW.skip (KW.seq (KW.block (KW.seq (KW.region ?_))))
              refine OW.val rfl rfl (EX.indexAddrS Tryz.underlying22 ti70 rfl rfl (by omega)) ?_
              refine OW.val rfl rfl (EX.loadA (l := m.cells) Tryz.underlying70 rfl ti70 rfl rfl hcell) ?_
              refine OW.allocB (l := [str [], .int .i64 0, .int .i64 0, .int .i64 0, .int .u32 0]) rfl rfl ti70 rfl ?_
              rintro mb w3 hge3 hb3 hx3
              refine OW.storeS rfl ti70 rfl rfl rfl (by first | rfl | (simp only [List.all_cons, List.all_nil, Bool.and_true, Bool.true_and, Bool.and_eq_true, Value.oneCell']; repeat (first | assumption | exact Own.one (by assumption) | constructor))) (hb3) (Nat.le_refl _) ?_
              rintro w4 hb4 hm4
              refine OW.nil ?_
              refine KW.seq (KW.region ?_)
              replace hb4 : Bk w4 mb 70 m.cells := hb4
              have x4 : Ext wr w4 := below_mo hx3 hm4 hx3.size (fun k hk => by simp at hk; omega)
              have cm := member_s m hmo w4
              rw [show memberM m = (memberT m, 0) by unfold memberM; rw [if_pos hmm]] at cm
              simp only at cm
              refine OW.val rfl rfl (EX.loadBk Tryz.underlying70 rfl ti70 rfl (hb4) (rfl)) ?_
              refine OW.call rfl rfl rfl (cm) ?_
              rintro _ w5 ⟨rfl, hx5⟩
              refine OW.val rfl rfl (EX.move rfl) ?_
              refine OW.val rfl rfl (EX.extract rfl rfl) ?_
              refine OW.val rfl rfl (EX.extract rfl rfl) ?_
              refine OW.val rfl rfl (EX.assign rfl) ?_
              refine OW.val rfl rfl (EX.assign rfl) ?_
              refine OW.nil ?_
              refine KW.region ?_
              refine OW.val rfl rfl (EX.move rfl) ?_
              have x5 := (hx.trans x4).trans hx5
              refine OW.call rfl rfl rfl (writeString_b w.heap.size bb (allT (l.take i)) (memberT m) w5 ((hbd.ext x4).ext hx5) (memberT_ne m) (by omega) x5.size) ?_
              rintro _ w6 ⟨⟨q, rfl⟩, hbd6, hbl6⟩
              refine OW.nil ?_
              refine KW.leave (KW.region ?_)
              refine OW.val rfl rfl (by first | exact EX.addN (b := 1) (m := 9223372036854775807) rfl rfl rfl (by omega) | exact EX.addZ (m := 9223372036854775807) rfl rfl rfl rfl (by omega)) ?_
              refine OW.val rfl rfl (EX.move rfl) ?_
              refine OW.nil ?_
              rw [← hcs] at hbd6
              refine KW.back2 (i + 1) (w6) ⟨rfl, rfl, rfl, rfl, rfl, trivial⟩ rfl ?_ (by omega)
              exact ⟨by omega, hbd6, Below.trans x5 hbl6⟩
            · obtain rfl : i = l.length := by omega
              rw [List.take_length] at hbd
              refine KW.exit rfl ?_
              refine KW.meet1 (wr) ⟨rfl, rfl, trivial⟩ rfl ?_
              exact ⟨hbd, hx⟩
        · rintro wr ⟨hbd, hx⟩
          refine KW.seq (KW.region ?_)
          refine OW.call rfl rfl rfl (bstring_b w.heap.size bb (allT l) wr hbd (by omega) hx.size) ?_
          rintro _ w3 ⟨rfl, hbl3⟩
          refine OW.val rfl rfl (EX.assign rfl) ?_
          refine OW.nil ?_
          refine KW.seq (KW.region ?_)
          have x3 : Ext w w3 := Below.trans hx hbl3
          generalize allT l = s at hall
          refine OW.makeB (len := 5) rfl rfl Tryz.underlying24 ti9 rfl rfl rfl (by omega) (by omega) ?_
          rintro ob w4 hge4 hb4 hx4
          refine OW.val rfl rfl (EX.assign rfl) ?_
          refine OW.nil ?_
          refine KW.seq (KW.seq (KW.region ?_))
          refine OW.val rfl rfl (EX.move rfl) ?_
          refine OW.nil ?_
          refine KW.block ?_
          have x4 := x3.trans hx4
          replace hb4 : Bk w4 ob 9 (out5 gen s 0) := hb4
          have hog : w.heap.size ≤ ob := by have := x3.size; omega
          refine KW.loop2 (fun (i : Nat) (wr : World) => i ≤ 5 ∧ Bk wr ob 9 (out5 gen s i) ∧ Ext w wr) (fun (i : Nat) (wr : World) => [(0, .int .i64 gen), (11, str ((s.drop (486 * i)))), (12, .slice (some ⟨ob, 0, none⟩) 5 5), (42, .int .i64 ((i : Nat) : Int))]) (fun (i : Nat) (wr : World) => wr) (fun (i : Nat) (wr : World) => 5 - i) (0) (w4) ⟨rfl, rfl, rfl, rfl, trivial⟩ rfl ?_ ?_
          · exact ⟨Nat.zero_le _, hb4, x4⟩
          · rintro i wr ⟨hi, hob, hx⟩
            refine KW.seq (KW.region ?_)
            refine OW.val rfl rfl (by first | exact EX.lssN (b := 5) rfl rfl | exact EX.lssZ rfl rfl) ?_
            refine OW.nil ?_
            refine KW.seq ?_
            refine KW.condD rfl (fun hlt => ?_) (fun hlt => ?_)
            · have ce := fun w => encode_s 4 (by decide) gen i (piece s i) (by have := piece_len s i; omega) w
              rw [enc_sec hE.low hE.high s hlt] at ce
              simp only at ce
              have hdl : (s.drop (486 * i)).length = s.length - 486 * i := List.length_drop
              have hpc : (s.drop (486 * i)).take (min (s.drop (486 * i)).length 486) = piece s i := by
                unfold piece
                rcases Nat.le_total (s.drop (486 * i)).length 486 with q | q
                · rw [Nat.min_eq_left q, List.take_length, List.take_of_length_le q]
                · rw [Nat.min_eq_right q]
              have hdr : (s.drop (486 * i)).drop (min (s.drop (486 * i)).length 486) = s.drop (486 * (i + 1)) := by
                rcases Nat.le_total (s.drop (486 * i)).length 486 with q | q
                · rw [Nat.min_eq_left q, List.drop_length, List.drop_of_length_le (by omega)]
                · rw [Nat.min_eq_right q, List.drop_drop]
                  congr 1
              generalize hq : s.drop (486 * i) = t at hdl hpc hdr
              refine KW.skip (KW.seq (KW.block (KW.seq (KW.region ?_))))
              refine OW.val rfl rfl (EX.move rfl) ?_
              refine OW.val rfl rfl (EX.assign rfl) ?_
              refine OW.nil ?_
              refine KW.seq (KW.region ?_)
              refine OW.val rfl rfl (EX.move rfl) ?_
              refine OW.val rfl rfl (EX.lenS Tryz.underlying9 rfl) ?_
              refine OW.val rfl rfl (by first | exact EX.minN (b := 486) rfl rfl | exact EX.minZ rfl rfl) ?_
              refine OW.val rfl rfl (EX.assign rfl) ?_
              refine OW.nil ?_
              refine KW.seq (KW.region ?_)
              refine OW.val rfl rfl (EX.move rfl) ?_
              refine OW.val rfl rfl (EX.move rfl) ?_
              refine OW.val rfl rfl (EX.move rfl) ?_
              refine OW.val rfl rfl (EX.move rfl) ?_
              refine OW.val rfl rfl (EX.move rfl) ?_
              refine OW.val rfl rfl (EX.move rfl) ?_
              refine OW.val rfl rfl (EX.sliceFH Tryz.underlying9 rfl rfl (by omega)) ?_
              refine OW.as 55 (str ((piece s i))) rfl (congrArg str hpc) ?_
              refine OW.call rfl rfl rfl (ce wr) ?_
              rintro _ w5 ⟨rfl, hx5⟩
              refine OW.val rfl rfl (EX.move rfl) ?_
              refine OW.val rfl rfl (EX.extract rfl rfl) ?_
              refine OW.val rfl rfl (EX.extract rfl rfl) ?_
              refine OW.val rfl rfl (by first | exact EX.indexAddrS0 Tryz.underlying24 ti9 rfl rfl (by omega) | exact EX.indexAddrS1 Tryz.underlying24 ti9 rfl rfl (by omega)) ?_
              refine OW.storeB rfl ti9 rfl rfl (by first | rfl | assumption | exact Own.one (by assumption)) ((hob.ext hx5)) (by rw [out5_len]; exact hlt) ?_
              rintro w6 hb6 hm6
              refine OW.nil ?_
              refine KW.region ?_
              refine OW.val rfl rfl (EX.move rfl) ?_
              refine OW.val rfl rfl (EX.move rfl) ?_
              refine OW.val rfl rfl (EX.sliceLE Tryz.underlying9 rfl rfl (by omega)) ?_
              refine OW.val rfl rfl (EX.assign rfl) ?_
              refine OW.nil ?_
              refine KW.leave (KW.region ?_)
              refine OW.val rfl rfl (by first | exact EX.addN (b := 1) (m := 9223372036854775807) rfl rfl rfl (by omega) | exact EX.addZ (m := 9223372036854775807) rfl rfl rfl rfl (by omega)) ?_
              refine OW.val rfl rfl (EX.move rfl) ?_
              refine OW.nil ?_
              replace hb6 : Bk w6 ob 9 ((out5 gen s i).set i (str (sec5 gen s i))) := hb6
              rw [out5_set gen s hlt] at hb6
              refine KW.as 11 (str ((s.drop (486 * (i + 1))))) rfl (congrArg str hdr) ?_
              refine KW.back2 (i + 1) (w6) ⟨rfl, rfl, rfl, rfl, trivial⟩ rfl ?_ (by omega)
              exact ⟨by omega, hb6, below_mo (hx.trans hx5) hm6 (hx.trans hx5).size (fun k hk => by simp at hk; omega)⟩
            · obtain rfl : i = 5 := by omega
              rw [out5_done] at hob
              refine KW.exit rfl (KW.seq (KW.region ?_))
              refine OW.val rfl rfl (EX.move rfl) ?_
              refine OW.val rfl rfl (EX.assign rfl) ?_
              refine OW.val rfl rfl (EX.assign rfl) ?_
              refine OW.nil ?_
              refine KW.ret (ret2 rfl rfl rfl ?_)
              refine ⟨⟨_, rfl, ?_⟩, hx⟩
              rw [sect5_len]
              exact Own.of_bk (cap := 5) hob hog (by simp [txtsV_length, sect5_len]) (by decide)
theorem sect5_snoc (gen : Int) (s : List UInt8) (i : Nat) : txtsV ((List.range (i + 1)).map (sec5 gen s)) = txtsV ((List.range i).map (sec5 gen s)) ++ [str (sec5 gen s i)] := by
  rw [List.range_succ, List.map_append]
  simp [txtsV]
set_option maxRecDepth 20000 in
theorem rencode23_s (gen : Int) (l : List M) (hok : ∀ m ∈ l, m.Ok) (hl : l.length ≤ 140737488355328) (A : Option Addr) (c B : Nat) (w : World) (hs : Sl w B A (memsV l)) :
    Ret Tryz.prog 8 [.int .i64 gen, .slice A l.length c] w fun v w' => (∃ u, v = .tuple #[u, .int .i64 (((encC gen l).2 : Nat) : Int)] ∧ Own w' w.heap.size 9 1 u (encC gen l).1.length (txtsV (encC gen l).1)) ∧ Ext w w' := by
  have bad : (gen < 0 ∨ 4611686018427387904 < gen ∨ chkC l 4096 ≠ 0) → ∀ w', Ext w w' → (∃ u, (Value.tuple #[.slice none 0 0, .int .i64 230]) = .tuple #[u, .int .i64 (((encC gen l).2 : Nat) : Int)] ∧ Own w' w.heap.size 9 1 u (encC gen l).1.length (txtsV (encC gen l).1)) ∧ Ext w w' := fun h w' hx => by
    rw [encC_bad h]
    exact ⟨⟨_, rfl, Own.nil _ _ _ _⟩, hx⟩
  refine Ret.enter Tryz.func8 rfl Tryz.ntmps8 (by kernel_rfl) rfl ?_
  refine KW.seq (KW.region ?_)
  refine OW.val rfl rfl (EX.assign rfl) ?_
  refine OW.val rfl rfl (EX.assign rfl) ?_
  refine OW.nil ?_
  refine KW.seq (KW.seq ?_)
  refine KW.region ?_
  refine OW.val rfl rfl (EX.move rfl) ?_
  refine OW.val rfl rfl (by first | exact EX.lssN (b := 0) rfl rfl | exact EX.lssZ rfl rfl) ?_
  refine OW.val rfl rfl (EX.move rfl) ?_
  refine OW.splitD 17 rfl (fun h1 => ?_) (fun h1 => ?_)
  · refine OW.pass rfl rfl ?_
    refine OW.pass rfl rfl ?_
    refine OW.val rfl rfl (EX.pickT rfl rfl) ?_
    refine OW.val rfl rfl (EX.move rfl) ?_
    refine OW.pass rfl rfl ?_
    refine OW.pass rfl rfl ?_
    refine OW.pass rfl rfl ?_
    refine OW.val rfl rfl (EX.pickT rfl rfl) ?_
    refine OW.nil ?_
    refine KW.condT rfl (KW.seq (KW.region ?_))
    refine OW.val rfl rfl (EX.assign rfl) ?_
    refine OW.val rfl rfl (EX.assign rfl) ?_
    refine OW.nil ?_
    refine KW.ret (ret2 rfl rfl rfl ?_)
    exact bad (.inl h1) w (Ext.refl _)
  · refine OW.val rfl rfl (EX.move rfl) ?_
    refine OW.val rfl rfl (by first | exact EX.gtrN (b := 4611686018427387904) rfl rfl | exact EX.gtrZ rfl rfl) ?_
    refine OW.val rfl rfl (EX.pickF rfl rfl) ?_
    refine OW.val rfl rfl (EX.move rfl) ?_
    refine OW.splitD 21 rfl (fun h2 => ?_) (fun h2 => ?_)
    · refine OW.pass rfl rfl ?_
      refine OW.pass rfl rfl ?_
      refine OW.pass rfl rfl ?_
      refine OW.val rfl rfl (EX.pickT rfl rfl) ?_
      refine OW.nil ?_
      refine KW.condT rfl (KW.seq (KW.region ?_))
      refine OW.val rfl rfl (EX.assign rfl) ?_
      refine OW.val rfl rfl (EX.assign rfl) ?_
      refine OW.nil ?_
      refine KW.ret (ret2 rfl rfl rfl ?_)
      exact bad (.inr (.inl h2)) w (Ext.refl _)
    · refine OW.val rfl rfl (EX.move rfl) ?_
      refine OW.call rfl rfl rfl (rchk_s l hok hl 4096 A c B w hs) ?_
      rintro _ w1 ⟨rfl, hx1⟩
      refine OW.val rfl rfl (by first | exact EX.neqN (b := 0) rfl rfl | exact EX.neqZ rfl rfl) ?_
      refine OW.val rfl rfl (EX.pickF rfl rfl) ?_
      refine OW.nil ?_
      refine KW.condD rfl (fun h3 => ?_) (fun h3 => ?_)
      · refine KW.seq (KW.region ?_)
        refine OW.val rfl rfl (EX.assign rfl) ?_
        refine OW.val rfl rfl (EX.assign rfl) ?_
        refine OW.nil ?_
        refine KW.ret (ret2 rfl rfl rfl ?_)
        exact bad (.inr (.inr (fun q => h3 (by omega)))) w1 hx1
      · have hE : OkE gen l := okE_of h1 h2 (Decidable.byContradiction fun q => h3 (by omega))
        have hall := okE_len hE
        have hmay := hE.chk.may
        have hll := hE.chk.len
        have htake : ∀ i, (allT (l.take i)).length ≤ 2096 := fun i => by
          have h4 := allT_len (l.take i) (fun m hm => hmay m (List.mem_of_mem_take hm))
          rw [List.length_take] at h4
          omega
        rw [encC_ok hE]
        refine KW.skip (KW.seq (KW.region ?_))
        refine OW.val rfl rfl (EX.assign rfl) ?_
        refine OW.nil ?_
        refine KW.seq (KW.seq (KW.region ?_))
        refine OW.val rfl rfl (EX.assign rfl) ?_
        refine OW.nil ?_
        refine KW.cut1 (fun (wr : World) => Ext w wr) (fun (wr : World) => [(0, .int .i64 gen), (6, str ((allT l)))]) (fun (wr : World) => wr) ?_ ?_
        · refine KW.block ?_
          refine KW.loop2 (fun (i : Nat) (wr : World) => i ≤ l.length ∧ Ext w wr) (fun (i : Nat) (wr : World) => [(0, .int .i64 gen), (1, .slice A l.length c), (6, str ((allT (l.take i)))), (7, .int .i64 ((i : Nat) : Int))]) (fun (i : Nat) (wr : World) => wr) (fun (i : Nat) (wr : World) => l.length - i) (0) (w1) ⟨rfl, rfl, rfl, rfl, trivial⟩ rfl ?_ ?_
          · exact ⟨Nat.zero_le _, hx1⟩
          · rintro i wr ⟨hi, hx⟩
            have ht1 := htake i
            have ht2 := htake (i + 1)
            refine KW.seq (KW.seq (KW.region ?_))
            refine OW.val rfl rfl (EX.move rfl) ?_
            refine OW.val rfl rfl (EX.move rfl) ?_
            refine OW.val rfl rfl (EX.lenA Tryz.underlying22 rfl) ?_
            refine OW.val rfl rfl (by first | exact EX.lssN rfl rfl | exact EX.lssZ rfl rfl) ?_
            refine OW.nil ?_
            refine KW.condD rfl (fun hlt => ?_) (fun hlt => ?_)
            · obtain ⟨b, o, rfl, _, hcell⟩ := (hs.ext hx).flat (i := i) (c := 5) (fun _ => rfl) (by decide) hlt
              have hsn : l.take (i + 1) = l.take i ++ [l[i]] := (List.take_append_getElem hlt).symm
              have hmo := hok l[i] (List.getElem_mem hlt)
              have hmm := hmay l[i] (List.getElem_mem hlt)
              generalize l[i] = m at hcell hsn hmo hmm
              have hcs : allT (l.take (i + 1)) = allT (l.take i) ++ memberT m := by rw [hsn, allT_snoc]
              rw [hcs, List.length_append] at ht2
              have cm := fun w => rmember_s m hmo w
              rw [show memberM m = (memberT m, 0) by unfold memberM; rw [if_pos hmm]] at cm
              simp only at cm
              refine KW.skip (KW.seq (KW.block (KW.seq (KW.region ?_))))
              refine OW.val rfl rfl (EX.move rfl) ?_
              refine OW.val rfl rfl (EX.move rfl) ?_
              refine OW.val rfl rfl (EX.indexAddrS Tryz.underlying22 ti70 rfl rfl (by omega)) ?_
              refine OW.val rfl rfl (EX.loadA (l := m.cells) Tryz.underlying70 rfl ti70 rfl rfl hcell) ?_
              refine OW.call rfl rfl rfl (cm wr) ?_
              rintro _ w5 ⟨rfl, hx5⟩
              refine OW.val rfl rfl (EX.move rfl) ?_
              refine OW.val rfl rfl (EX.extract rfl rfl) ?_
              refine OW.val rfl rfl (EX.extract rfl rfl) ?_
              refine OW.val rfl rfl (EX.assign rfl) ?_
              refine OW.val rfl rfl (EX.assign rfl) ?_
              refine OW.nil ?_
              refine KW.region ?_
              refine OW.val rfl rfl (EX.move rfl) ?_
              refine OW.val rfl rfl (EX.move rfl) ?_
              refine OW.val rfl rfl (EX.addS rfl rfl (by first | omega | (simp only [List.length_append, List.length_cons, List.length_nil, List.length_take, List.length_drop, List.length_replicate]; omega))) ?_
              refine OW.val rfl rfl (EX.assign rfl) ?_
              refine OW.nil ?_
              refine KW.leave (KW.region ?_)
              refine OW.val rfl rfl (EX.move rfl) ?_
              refine OW.val rfl rfl (by first | exact EX.addN (b := 1) (m := 9223372036854775807) rfl rfl rfl (by omega) | exact EX.addZ (m := 9223372036854775807) rfl rfl rfl rfl (by omega)) ?_
              refine OW.val rfl rfl (EX.assign rfl) ?_
              refine OW.nil ?_
              refine KW.as 6 (str ((allT (l.take (i + 1))))) rfl (congrArg str hcs.symm) ?_
              refine KW.back2 (i + 1) (w5) ⟨rfl, rfl, rfl, rfl, trivial⟩ rfl ?_ (by omega)
              exact ⟨by omega, hx.trans hx5⟩
            · obtain rfl : i = l.length := by omega
              refine KW.exit rfl ?_
              refine KW.as 6 (str ((allT l))) rfl (by rw [List.take_length]) ?_
              refine KW.meet1 (wr) ⟨rfl, rfl, trivial⟩ rfl ?_
              exact hx
        · rintro wr hx
          generalize allT l = s at hall
          refine KW.seq (KW.region ?_)
          refine OW.val rfl rfl (EX.assign rfl) ?_
          refine OW.nil ?_
          refine KW.seq (KW.seq (KW.region ?_))
          refine OW.val rfl rfl (EX.assign rfl) ?_
          refine OW.nil ?_
          refine KW.block ?_
          refine KW.loop3 (fun (i : Nat) (v : Value) (wr : World) => i ≤ 5 ∧ Own wr w.heap.size 9 1 v i (txtsV ((List.range i).map (sec5 gen s))) ∧ Ext w wr) (fun (i : Nat) (v : Value) (wr : World) => [(0, .int .i64 gen), (6, str ((s.drop (486 * i)))), (10, v), (11, .int .i64 ((i : Nat) : Int))]) (fun (i : Nat) (v : Value) (wr : World) => wr) (fun (i : Nat) (v : Value) (wr : World) => 5 - i) (0) (.slice none 0 0) (wr) ⟨rfl, rfl, rfl, rfl, trivial⟩ rfl ?_ ?_
          · exact ⟨Nat.zero_le _, Own.nil _ _ _ _, hx⟩
          · rintro i v wr ⟨hi, hown, hx⟩
            refine KW.seq (KW.seq (KW.region ?_))
            refine OW.val rfl rfl (EX.move rfl) ?_
            refine OW.val rfl rfl (by first | exact EX.lssN (b := 5) rfl rfl | exact EX.lssZ rfl rfl) ?_
            refine OW.nil ?_
            refine KW.condD rfl (fun hlt => ?_) (fun hlt => ?_)
            · have ce := fun w => rencode_s 4 (by decide) gen i (piece s i) (by have := piece_len s i; omega) w
              rw [enc_sec hE.low hE.high s hlt] at ce
              simp only at ce
              have hdl : (s.drop (486 * i)).length = s.length - 486 * i := List.length_drop
              have hpl := piece_len s i
              have hpl2 : (piece s i).length ≤ (s.drop (486 * i)).length := by unfold piece; rw [List.length_take]; omega
              have hpc : 486 < (s.drop (486 * i)).length → (s.drop (486 * i)).take 486 = piece s i := fun _ => rfl
              have hpc2 : ¬ 486 < (s.drop (486 * i)).length → s.drop (486 * i) = piece s i := fun q => by unfold piece; rw [List.take_of_length_le (by omega)]
              have hdr : (s.drop (486 * i)).drop (piece s i).length = s.drop (486 * (i + 1)) := by
                unfold piece
                rw [List.length_take]
                rcases Nat.le_total (s.drop (486 * i)).length 486 with q | q
                · rw [Nat.min_eq_right q, List.drop_length, List.drop_of_length_le (by omega)]
                · rw [Nat.min_eq_left q, List.drop_drop]
                  congr 1
              generalize hq : s.drop (486 * i) = t at hdl hpc hpc2 hdr hpl2
              refine KW.skip (KW.seq (KW.block (KW.seq (KW.region ?_))))
              refine OW.val rfl rfl (EX.move rfl) ?_
              refine OW.val rfl rfl (EX.assign rfl) ?_
              refine OW.nil ?_
              refine KW.seq (KW.seq (KW.region ?_))
              refine OW.val rfl rfl (EX.move rfl) ?_
              refine OW.val rfl rfl (EX.lenS Tryz.underlying9 rfl) ?_
              refine OW.val rfl rfl (by first | exact EX.gtrN (b := 486) rfl rfl | exact EX.gtrZ rfl rfl) ?_
              refine OW.nil ?_
              refine KW.cut1 (fun (_u : Unit) => True) (fun (_u : Unit) => [(0, .int .i64 gen), (6, str (t)), (10, v), (11, .int .i64 ((i : Nat) : Int)), (12, str ((piece s i)))]) (fun (_u : Unit) => wr) ?_ ?_
              · refine KW.condD rfl (fun hbig => ?_) (fun hbig => ?_)
                · refine KW.region ?_
                  refine OW.val rfl rfl (EX.move rfl) ?_
                  refine OW.val rfl rfl (EX.sliceFH (j := 486) Tryz.underlying9 rfl rfl (by omega)) ?_
                  refine OW.val rfl rfl (EX.assign rfl) ?_
                  refine OW.nil ?_
                  refine KW.as 12 (str ((piece s i))) rfl (congrArg str (hpc hbig)) ?_
                  refine KW.meet1 (()) ⟨rfl, rfl, rfl, rfl, rfl, trivial⟩ rfl ?_
                  trivial
                · refine KW.skip ?_
                  refine KW.as 12 (str ((piece s i))) rfl (congrArg str (hpc2 hbig)) ?_
                  refine KW.meet1 (()) ⟨rfl, rfl, rfl, rfl, rfl, trivial⟩ rfl ?_
                  trivial
              · rintro _ _
                refine KW.seq (KW.region ?_)
                refine OW.val rfl rfl (EX.move rfl) ?_
                refine OW.val rfl rfl (EX.move rfl) ?_
                refine OW.val rfl rfl (EX.lenS Tryz.underlying9 rfl) ?_
                refine OW.val rfl rfl (EX.sliceLE Tryz.underlying9 rfl rfl (by omega)) ?_
                refine OW.val rfl rfl (EX.assign rfl) ?_
                refine OW.nil ?_
                refine KW.seq (KW.region ?_)
                refine OW.val rfl rfl (EX.move rfl) ?_
                refine OW.val rfl rfl (EX.move rfl) ?_
                refine OW.val rfl rfl (EX.move rfl) ?_
                refine OW.as 6 (str ((s.drop (486 * (i + 1))))) rfl (congrArg str hdr) ?_
                refine OW.call rfl rfl rfl (ce wr) ?_
                rintro _ w5 ⟨rfl, hx5⟩
                refine OW.val rfl rfl (EX.move rfl) ?_
                refine OW.val rfl rfl (EX.extract rfl rfl) ?_
                refine OW.val rfl rfl (EX.extract rfl rfl) ?_
                refine OW.val rfl rfl (EX.assign rfl) ?_
                refine OW.val rfl rfl (EX.assign rfl) ?_
                refine OW.nil ?_
                refine KW.region ?_
                refine OW.val rfl rfl (EX.move rfl) ?_
                refine OW.val rfl rfl (EX.move rfl) ?_
                refine OW.push rfl rfl (fun _ => rfl) rfl Tryz.underlying24 ti9 rfl rfl (fun _ => rfl) rfl (hx.trans hx5) (hown.ext hx5) (by simp only [maxLen]; omega) (by omega) ?_
                rintro _ v6 w6 hown6 x6 hg6 hv6
                refine OW.val rfl rfl (EX.assign rfl) ?_
                refine OW.nil ?_
                refine KW.leave (KW.region ?_)
                refine OW.val rfl rfl (EX.move rfl) ?_
                refine OW.val rfl rfl (by first | exact EX.addN (b := 1) (m := 9223372036854775807) rfl rfl rfl (by omega) | exact EX.addZ (m := 9223372036854775807) rfl rfl rfl rfl (by omega)) ?_
                refine OW.val rfl rfl (EX.assign rfl) ?_
                refine OW.nil ?_
                refine KW.back3 (i + 1) (v6) (w6) ⟨rfl, rfl, rfl, rfl, trivial⟩ rfl ?_ (by omega)
                exact ⟨by omega, by rw [sect5_snoc]; exact hown6, x6⟩
            · obtain rfl : i = 5 := by omega
              refine KW.exit rfl (KW.seq (KW.region ?_))
              refine OW.val rfl rfl (EX.move rfl) ?_
              refine OW.val rfl rfl (EX.assign rfl) ?_
              refine OW.val rfl rfl (EX.assign rfl) ?_
              refine OW.nil ?_
              refine KW.ret (ret2 rfl rfl rfl ?_)
              refine ⟨⟨_, rfl, ?_⟩, hx⟩
              rw [sect5_len]
              exact hown
end Go.Proofs.YthgfdpcpbghkpaaGreatDoor
/- The engine's laws for a slice as an array, and for '!=' of arrays of five. No program is spoken of. -/
namespace Go.Proofs.YthgfdpcpbghkpaaGreatDoor
set_option linter.unnecessarySimpa false
open Go.RowKit
set_option linter.unusedSimpArgs false
set_option linter.unusedVariables false
section
variable {P : Program} {n : Nat} {σ : Sig} {w : World} {x y : Operand} {t e ty T : TypeId} {z : Value} {bs : Nat}
theorem EX.arrayAt {m len cap : Nat} {A : Option Addr} (ht : P.underlying t = some (.array m e)) (hx : ev σ x = some (.slice A len cap)) (h : m ≤ len) : EX P n σ (.sliceToArrayPointer t x) ty w (.pointer A) w := fun a ha dst pos after g => by
  have hn : ¬ len < m := by omega
  have hr : (Instr.arrayAt t (.slice A len cap)).run P w = .ok (.pointer A) w := by
    simp [Instr.arrayAt, run_underlying ht, hn, Sem.run_bind]
  simp only [execOp, ha.ev hx, Sem.run_bind, hr]
  rfl
theorem run_eq_arr5 {a0 a1 a2 a3 a4 b0 b1 b2 b3 b4 : Value} {q0 q1 q2 q3 q4 : Bool} {d : TypeDesc} (ht : P.underlying t = some (.array 5 e)) (he : P.underlying e = some d) (hf : flat d = true) (hi : TI P e z 1 bs)
    (h0 : ∀ k, (Op.equalIn (k + 1) e a0 b0).run P w = .ok q0 w) (h1 : ∀ k, (Op.equalIn (k + 1) e a1 b1).run P w = .ok q1 w) (h2 : ∀ k, (Op.equalIn (k + 1) e a2 b2).run P w = .ok q2 w) (h3 : ∀ k, (Op.equalIn (k + 1) e a3 b3).run P w = .ok q3 w) (h4 : ∀ k, (Op.equalIn (k + 1) e a4 b4).run P w = .ok q4 w) (k : Nat) :
    (Op.equalIn (k + 1 + 1) t (.agg #[a0, a1, a2, a3, a4]) (.agg #[b0, b1, b2, b3, b4])).run P w = .ok (q0 && (q1 && (q2 && (q3 && q4)))) w := by
  have hr : List.range' 0 5 = [0, 1, 2, 3, 4] := rfl
  rw [Op.equalIn]
  simp only [Sem.run_bind, run_underlying ht, Result.andThen_ok, run_sizeOf hi]
  cases q0 <;> cases q1 <;> cases q2 <;> cases q3 <;> cases q4 <;> simp [Std.Legacy.Range.forIn_eq_forIn_range', Std.Legacy.Range.size, hr, part, run_isAgg he, hf, h0 k, h1 k, h2 k, h3 k, h4 k, Sem.run_bind]
theorem EX.neqA5 {s0 s1 s2 s3 s4 r0 r1 r2 r3 r4 : List UInt8} (ht : P.underlying t = some (.array 5 e)) (he : P.underlying e = some .string) (hi : TI P e z 1 bs) (hm : P.eqGuardType P.depth t = false) (hx : ev σ x = some (.agg [str s0, str s1, str s2, str s3, str s4].toArray)) (hy : ev σ y = some (.agg [str r0, str r1, str r2, str r3, str r4].toArray)) :
    EX P n σ (.binOp .neq t x y T) ty w (.bool (decide ([s0, s1, s2, s3, s4] ≠ [r0, r1, r2, r3, r4]))) w := by
  refine EX.bin hx hy (run_eqGuard_agg w _ t x y _ _ hm) ?_
  have h := run_eq_arr5 (w := w) ht he rfl hi (fun k => eq_str (a := s0) (b := r0) he k) (fun k => eq_str (a := s1) (b := r1) he k) (fun k => eq_str (a := s2) (b := r2) he k) (fun k => eq_str (a := s3) (b := r3) he k) (fun k => eq_str (a := s4) (b := r4) he k) 9998
  rw [run_neq_struct]
  have e1 : (Op.equalIn 10000 t (.agg [str s0, str s1, str s2, str s3, str s4].toArray) (.agg [str r0, str r1, str r2, str r3, str r4].toArray)).run P w = _ := h
  rw [e1]
  simp only [Result.andThen_ok]
  congr 2
  rw [Bool.eq_iff_iff]
  by_cases c0 : s0 = r0 <;> by_cases c1 : s1 = r1 <;> by_cases c2 : s2 = r2 <;> by_cases c3 : s3 = r3 <;> by_cases c4 : s4 = r4 <;> simp [c0, c1, c2, c3, c4]
end
end Go.Proofs.YthgfdpcpbghkpaaGreatDoor
/- A slot's sectors are read, by the program and by the document. -/
namespace Go.Proofs.YthgfdpcpbghkpaaGreatDoor
set_option linter.unnecessarySimpa false
open Go.RowKit Pth Rec Srt Cat
set_option linter.unusedVariables false
set_option linter.unusedSimpArgs false

theorem memAt_sumC (s : List UInt8) : (memAt s).sum ≤ 4294967295 := nb_le _ 4 (Nat.le_refl _)
theorem memL_fineC : ∀ (f : Nat) (s : List UInt8) (out : List M), (∀ m ∈ out, mayM m ∧ m.sum ≤ 4294967295) → ∀ m ∈ (memL f s out).1, mayM m ∧ m.sum ≤ 4294967295
  | 0, s, out, h, m, hm => h m hm
  | f + 1, s, out, h, m, hm => by
    rw [memL] at hm
    split at hm
    · exact h m hm
    · split at hm
      · cases hm
      · split at hm
        · rename_i hmay
          refine memL_fineC f _ _ (fun x hx => ?_) m hm
          rcases List.mem_append.1 hx with hx | hx
          · exact h x hx
          · simp only [List.mem_singleton] at hx
            subst hx
            exact ⟨hmay, memAt_sumC s⟩
        · cases hm
theorem memL_lenC : ∀ (f : Nat) (s : List UInt8) (out : List M), (memL f s out).1.length ≤ out.length + f
  | 0, s, out => by simp [memL]
  | f + 1, s, out => by
    rw [memL]
    split
    · simp
    · split
      · simp
      · split
        · have := memL_lenC f (s.drop (11 + first s)) (out ++ [memAt s])
          rw [List.length_append, List.length_singleton] at this
          omega
        · simp
theorem fine_ok {m : M} (h : mayM m ∧ m.sum ≤ 4294967295) : m.Ok := ⟨by have := (may_path h.1).1; omega, h.2⟩
theorem memsOf_ok (ss : Txts) : ∀ m ∈ (memsOf ss).1, m.Ok := fun m hm => fine_ok (memL_fineC _ _ [] (by simp) m hm)
theorem data_most (s : List UInt8) : (decodeR s).1.data.length ≤ 486 := by
  unfold decodeR
  split
  · rename_i h
    show ((s.drop 19).take (nb ((s.drop 17).take 2))).length ≤ 486
    rw [List.length_take]
    omega
  · show ([] : List UInt8).length ≤ 486
    decide
theorem datas_most (ss : Txts) : (datas ss).length ≤ 486 * ss.length := by
  induction ss with
  | nil => simp [datas]
  | cons s ss ih =>
    have h1 := data_most s
    have e : datas (s :: ss) = (decodeR s).1.data ++ datas ss := by simp [datas]
    rw [e, List.length_append, List.length_cons]
    omega
theorem fiveT {l : Txts} (h : l.length = 5) : ∃ s0 s1 s2 s3 s4, l = [s0, s1, s2, s3, s4] := by
  match l, h with
  | [a, b, c, d, e], _ => exact ⟨a, b, c, d, e, rfl⟩
theorem txts_cellC {w : World} {B : Nat} {A : Option Addr} {l : Txts} (h : Sl w B A (txtsV l)) {i : Nat} (hi : i < l.length) : ∃ b o, A = some ⟨b, o, none⟩ ∧ b < B ∧ w.cell? ⟨b, o + i, none⟩ = some (str l[i]) := by
  obtain ⟨b, o, e, hb, hcell⟩ := h.at_ (by rw [txtsV_length]; omega)
  exact ⟨b, o, e, hb, hcell i _ (txtsV_get hi)⟩
set_option maxRecDepth 20000 in
theorem decode23_s (ss : Txts) (hl : ss.length ≤ 140737488355328) (A : Option Addr) (c B : Nat) (w : World) (hG : MLen w) (hs : Sl w B A (txtsV ss)) :
    Ret Tryz.prog 12 [.slice A ss.length c] w fun v w' => (∃ u, v = .tuple #[.int .i64 (decC ss).1, u, .int .i64 (((decC ss).2.2 : Nat) : Int)] ∧ Own w' w.heap.size 70 5 u (decC ss).2.1.length (memsV (decC ss).2.1)) ∧ Ext w w' := by
  have bad : ¬ OkD ss → ∀ w', Ext w w' → (∃ u, (Value.tuple #[.int .i64 0, .slice none 0 0, .int .i64 230]) = .tuple #[.int .i64 (decC ss).1, u, .int .i64 (((decC ss).2.2 : Nat) : Int)] ∧ Own w' w.heap.size 70 5 u (decC ss).2.1.length (memsV (decC ss).2.1)) ∧ Ext w w' := fun h w' hx => by
    rw [decC_no h]
    exact ⟨⟨_, rfl, Own.nil _ _ _ _⟩, hx⟩
  refine Ret.enter Tryz.func12 rfl Tryz.ntmps12 (by kernel_rfl) rfl ?_
  refine KW.seq (KW.region ?_)
  refine OW.val rfl rfl (EX.assign rfl) ?_
  refine OW.val rfl rfl (EX.assign rfl) ?_
  refine OW.val rfl rfl (EX.assign rfl) ?_
  refine OW.nil ?_
  refine KW.seq (KW.seq (KW.region ?_))
  refine OW.val rfl rfl (EX.move rfl) ?_
  refine OW.val rfl rfl (EX.lenA Tryz.underlying24 rfl) ?_
  refine OW.val rfl rfl (by first | exact EX.neqN (b := 5) rfl rfl | exact EX.neqZ rfl rfl) ?_
  refine OW.nil ?_
  refine KW.condD rfl (fun hn5 => ?_) (fun hn5 => ?_)
  · refine KW.seq (KW.region ?_)
    refine OW.val rfl rfl (EX.assign rfl) ?_
    refine OW.val rfl rfl (EX.assign rfl) ?_
    refine OW.val rfl rfl (EX.assign rfl) ?_
    refine OW.nil ?_
    refine KW.ret (ret3 rfl rfl rfl rfl ?_)
    exact bad (fun h => hn5 (by have := okD_len h; omega)) w (Ext.refl _)
  · have h5 : ss.length = 5 := by omega
    have hdm := datas_most ss
    refine KW.skip (KW.seq (KW.region ?_))
    refine OW.val rfl rfl (EX.assign rfl) ?_
    refine OW.val rfl rfl (EX.assign rfl) ?_
    refine OW.nil ?_
    refine KW.seq (KW.seq (KW.region ?_))
    refine OW.val rfl rfl (EX.move rfl) ?_
    refine OW.val rfl rfl (EX.lenA Tryz.underlying24 rfl) ?_
    refine OW.val rfl rfl (EX.move rfl) ?_
    refine OW.nil ?_
    refine KW.block ?_
    refine KW.loop3 (fun (i : Nat) (g : Int) (wr : World) => i ≤ ss.length ∧ (0 < i → g = genOf ss) ∧ Ext w wr) (fun (i : Nat) (g : Int) (wr : World) => [(0, .slice A ss.length c), (5, .int .i64 g), (6, str ((datas (ss.take i)))), (17, .slice A ss.length c), (18, .int .i64 ((ss.length : Nat) : Int)), (19, .int .i64 ((i : Nat) : Int))]) (fun (i : Nat) (g : Int) (wr : World) => wr) (fun (i : Nat) (g : Int) (wr : World) => ss.length - i) (0) (0) (w) ⟨rfl, rfl, rfl, rfl, rfl, rfl, trivial⟩ rfl ?_ ?_
    · exact ⟨Nat.zero_le _, fun h => by omega, Ext.refl _⟩
    · rintro i g wr ⟨hi, hg, hx⟩
      refine KW.seq (KW.region ?_)
      refine OW.val rfl rfl (by first | exact EX.lssN rfl rfl | exact EX.lssZ rfl rfl) ?_
      refine OW.nil ?_
      refine KW.seq ?_
      refine KW.condD rfl (fun hlt => ?_) (fun hlt => ?_)
      · obtain ⟨b, o, rfl, _, hcell⟩ := txts_cellC (hs.ext hx) hlt
        have hsn : ss.take (i + 1) = ss.take i ++ [ss[i]] := (List.take_append_getElem hlt).symm
        have hat := fun h : OkD ss => okD_at h hlt
        have hgi : i = 0 → genOf ss = (decodeR ss[i]).1.gen := fun h => by subst h; unfold genOf; simp [List.getD_eq_getElem?_getD, List.getElem?_eq_getElem hlt]
        generalize ss[i] = s at hcell hsn hat hgi
        have hd1 := data_most s
        have hd2 := datas_most (ss.take i)
        rw [List.length_take] at hd2
        have cd := fun w => decode_s s w
        have hds : datas (ss.take (i + 1)) = datas (ss.take i) ++ (decodeR s).1.data := by rw [hsn, datas_snoc]
        generalize (decodeR s).1 = x at cd hat hgi hd1 hds
        generalize (decodeR s).2 = e at cd hat
        refine KW.skip (KW.seq (KW.block (KW.seq (KW.region ?_))))
        refine OW.val rfl rfl (EX.move rfl) ?_
        refine OW.val rfl rfl (by first | exact EX.indexAddrS0 Tryz.underlying24 ti9 rfl rfl (by omega) | exact EX.indexAddrS1 Tryz.underlying24 ti9 rfl rfl (by omega)) ?_
        refine OW.val rfl rfl (EX.load Tryz.underlying9 rfl rfl (hcell)) ?_
        refine OW.val rfl rfl (EX.assign rfl) ?_
        refine OW.val rfl rfl (EX.assign rfl) ?_
        refine OW.nil ?_
        refine KW.seq (KW.region ?_)
        refine OW.val rfl rfl (EX.move rfl) ?_
        refine OW.call rfl rfl rfl (cd wr) ?_
        rintro _ w1 ⟨rfl, hx1⟩
        refine OW.val rfl rfl (EX.move rfl) ?_
        refine OW.val rfl rfl (EX.extract rfl rfl) ?_
        refine OW.val rfl rfl (EX.extract rfl rfl) ?_
        refine OW.allocB (l := [.int .u8 0, .int .i64 0, .int .i64 0, str []]) rfl rfl ti94 rfl ?_
        rintro xb w2 hge2 hb2 hx2
        refine OW.storeS rfl ti94 rfl rfl rfl (by first | rfl | (simp only [List.all_cons, List.all_nil, Bool.and_true, Bool.true_and, Bool.and_eq_true, Value.oneCell']; repeat (first | assumption | exact Own.one (by assumption) | constructor))) (hb2) (Nat.le_refl _) ?_
        rintro w3 hb3 hm3
        refine OW.val rfl rfl (EX.assign rfl) ?_
        refine OW.nil ?_
        refine KW.seq (KW.seq (KW.region ?_))
        refine OW.val rfl rfl (EX.move rfl) ?_
        refine OW.val rfl rfl (by first | exact EX.eqlN (b := 0) rfl rfl | exact EX.eqlZ rfl rfl) ?_
        refine OW.nil ?_
        replace hb3 : Bk w3 xb 94 x.cells := hb3
        have x3 : Ext wr w3 := below_mo (hx1.trans hx2) hm3 (hx1.trans hx2).size (fun k hk => by simp at hk; have := hx1.size; omega)
        refine KW.cut1 (fun (g2 : Int) => (g2 = genOf ss ∧ (0 < i → g = g2))) (fun (g2 : Int) => [(0, .slice (some ⟨b, o, none⟩) ss.length c), (5, .int .i64 g2), (6, str ((datas (ss.take i)))), (7, .int .i64 ((i : Nat) : Int)), (9, .pointer (some ⟨xb, 0, none⟩)), (10, .int .i64 ((e : Nat) : Int)), (17, .slice (some ⟨b, o, none⟩) ss.length c), (18, .int .i64 ((ss.length : Nat) : Int)), (19, .int .i64 ((i : Nat) : Int))]) (fun (g2 : Int) => w3) ?_ ?_
        · refine KW.condD rfl (fun h0 => ?_) (fun h0 => ?_)
          · refine KW.region ?_
            refine OW.val rfl rfl (EX.fieldAddr (off := 1) Tryz.underlying94 rfl rfl ti3 rfl rfl) ?_
            refine OW.val rfl rfl (EX.load Tryz.underlying3 rfl rfl (hb3.cell_of rfl)) ?_
            refine OW.val rfl rfl (EX.assign rfl) ?_
            refine OW.nil ?_
            refine KW.meet1 (x.gen) ⟨rfl, rfl, rfl, rfl, rfl, rfl, rfl, rfl, rfl, trivial⟩ rfl ?_
            exact ⟨(hgi (by omega)).symm, fun h => by omega⟩
          · refine KW.skip ?_
            refine KW.meet1 (g) ⟨rfl, rfl, rfl, rfl, rfl, rfl, rfl, rfl, rfl, trivial⟩ rfl ?_
            exact ⟨hg (by omega), fun _ => rfl⟩
        · rintro g2 ⟨rfl, hgg⟩
          refine KW.seq (KW.seq ?_)
          refine KW.cut1 (fun (_u : Unit) => True) (fun (_u : Unit) => [(0, .slice (some ⟨b, o, none⟩) ss.length c), (5, .int .i64 (genOf ss)), (6, str ((datas (ss.take i)))), (9, .pointer (some ⟨xb, 0, none⟩)), (17, .slice (some ⟨b, o, none⟩) ss.length c), (18, .int .i64 ((ss.length : Nat) : Int)), (19, .int .i64 ((i : Nat) : Int)), (51, .bool (decide ((e ≠ 0 ∨ x.kind ≠ 4 ∨ x.gen ≠ genOf ss ∨ x.index ≠ i))))]) (fun (_u : Unit) => w3) ?_ ?_
          · refine KW.region ?_
            refine OW.val rfl rfl (EX.move rfl) ?_
            refine OW.val rfl rfl (by first | exact EX.neqN (b := 0) rfl rfl | exact EX.neqZ rfl rfl) ?_
            refine OW.val rfl rfl (EX.move rfl) ?_
            refine OW.splitD 35 rfl (fun q1 => ?_) (fun q1 => ?_)
            · refine OW.pass rfl rfl ?_
              refine OW.pass rfl rfl ?_
              refine OW.pass rfl rfl ?_
              refine OW.val rfl rfl (EX.pickT rfl rfl) ?_
              refine OW.val rfl rfl (EX.move rfl) ?_
              refine OW.pass rfl rfl ?_
              refine OW.pass rfl rfl ?_
              refine OW.pass rfl rfl ?_
              refine OW.pass rfl rfl ?_
              refine OW.val rfl rfl (EX.pickT rfl rfl) ?_
              refine OW.val rfl rfl (EX.move rfl) ?_
              refine OW.pass rfl rfl ?_
              refine OW.pass rfl rfl ?_
              refine OW.pass rfl rfl ?_
              refine OW.pass rfl rfl ?_
              refine OW.val rfl rfl (EX.pickT rfl rfl) ?_
              refine OW.nil ?_
              refine KW.as 51 (.bool (decide ((e ≠ 0 ∨ x.kind ≠ 4 ∨ x.gen ≠ genOf ss ∨ x.index ≠ i)))) rfl (congrArg Value.bool (decide_eq_true (.inl q1)).symm) ?_
              refine KW.meet1 (()) ⟨rfl, rfl, rfl, rfl, rfl, rfl, rfl, rfl, trivial⟩ rfl ?_
              trivial
            · refine OW.val rfl rfl (EX.fieldAddr (off := 0) Tryz.underlying94 rfl rfl ti5 rfl rfl) ?_
              refine OW.val rfl rfl (EX.load Tryz.underlying5 rfl rfl (hb3.cell_of rfl)) ?_
              refine OW.val rfl rfl (by first | exact EX.neqN (b := 4) rfl rfl | exact EX.neqZ rfl rfl) ?_
              refine OW.val rfl rfl (EX.pickF rfl rfl) ?_
              refine OW.val rfl rfl (EX.move rfl) ?_
              refine OW.splitD 40 rfl (fun q2 => ?_) (fun q2 => ?_)
              · refine OW.pass rfl rfl ?_
                refine OW.pass rfl rfl ?_
                refine OW.pass rfl rfl ?_
                refine OW.pass rfl rfl ?_
                refine OW.val rfl rfl (EX.pickT rfl rfl) ?_
                refine OW.val rfl rfl (EX.move rfl) ?_
                refine OW.pass rfl rfl ?_
                refine OW.pass rfl rfl ?_
                refine OW.pass rfl rfl ?_
                refine OW.pass rfl rfl ?_
                refine OW.val rfl rfl (EX.pickT rfl rfl) ?_
                refine OW.nil ?_
                refine KW.as 51 (.bool (decide ((e ≠ 0 ∨ x.kind ≠ 4 ∨ x.gen ≠ genOf ss ∨ x.index ≠ i)))) rfl (congrArg Value.bool (decide_eq_true (.inr (.inl q2))).symm) ?_
                refine KW.meet1 (()) ⟨rfl, rfl, rfl, rfl, rfl, rfl, rfl, rfl, trivial⟩ rfl ?_
                trivial
              · refine OW.val rfl rfl (EX.fieldAddr (off := 1) Tryz.underlying94 rfl rfl ti3 rfl rfl) ?_
                refine OW.val rfl rfl (EX.load Tryz.underlying3 rfl rfl (hb3.cell_of rfl)) ?_
                refine OW.val rfl rfl (EX.move rfl) ?_
                refine OW.val rfl rfl (by first | exact EX.neqN rfl rfl | exact EX.neqZ rfl rfl) ?_
                refine OW.val rfl rfl (EX.pickF rfl rfl) ?_
                refine OW.val rfl rfl (EX.move rfl) ?_
                refine OW.splitD 46 rfl (fun q3 => ?_) (fun q3 => ?_)
                · refine OW.pass rfl rfl ?_
                  refine OW.pass rfl rfl ?_
                  refine OW.pass rfl rfl ?_
                  refine OW.pass rfl rfl ?_
                  refine OW.val rfl rfl (EX.pickT rfl rfl) ?_
                  refine OW.nil ?_
                  refine KW.as 51 (.bool (decide ((e ≠ 0 ∨ x.kind ≠ 4 ∨ x.gen ≠ genOf ss ∨ x.index ≠ i)))) rfl (congrArg Value.bool (decide_eq_true (.inr (.inr (.inl q3)))).symm) ?_
                  refine KW.meet1 (()) ⟨rfl, rfl, rfl, rfl, rfl, rfl, rfl, rfl, trivial⟩ rfl ?_
                  trivial
                · refine OW.val rfl rfl (EX.fieldAddr (off := 2) Tryz.underlying94 rfl rfl ti3 rfl rfl) ?_
                  refine OW.val rfl rfl (EX.load Tryz.underlying3 rfl rfl (hb3.cell_of rfl)) ?_
                  refine OW.val rfl rfl (EX.move rfl) ?_
                  refine OW.val rfl rfl (by first | exact EX.neqN rfl rfl | exact EX.neqZ rfl rfl) ?_
                  refine OW.val rfl rfl (EX.pickF rfl rfl) ?_
                  refine OW.nil ?_
                  refine KW.as 51 (.bool (decide ((e ≠ 0 ∨ x.kind ≠ 4 ∨ x.gen ≠ genOf ss ∨ x.index ≠ i)))) rfl (congrArg Value.bool (decide_eq_decide.2 ⟨fun h => .inr (.inr (.inr h)), fun h => h.elim (fun z => absurd z q1) (fun h => h.elim (fun z => absurd z q2) (fun h => h.elim (fun z => absurd z q3) id))⟩)) ?_
                  refine KW.meet1 (()) ⟨rfl, rfl, rfl, rfl, rfl, rfl, rfl, rfl, trivial⟩ rfl ?_
                  trivial
          · rintro _ _
            refine KW.condD rfl (fun hb => ?_) (fun hb => ?_)
            · refine KW.seq (KW.region ?_)
              refine OW.val rfl rfl (EX.assign rfl) ?_
              refine OW.val rfl rfl (EX.assign rfl) ?_
              refine OW.val rfl rfl (EX.assign rfl) ?_
              refine OW.nil ?_
              refine KW.ret (ret3 rfl rfl rfl rfl ?_)
              exact bad (fun h => by obtain ⟨_, a1, a2, a3, a4⟩ := hat h; rcases hb with q | q | q | q; (· exact q a1); (· exact q a2); (· exact q a3); (· exact q a4)) w3 (hx.trans x3)
            · refine KW.skip (KW.region ?_)
              refine OW.val rfl rfl (EX.move rfl) ?_
              refine OW.val rfl rfl (EX.fieldAddr (off := 3) Tryz.underlying94 rfl rfl ti9 rfl rfl) ?_
              refine OW.val rfl rfl (EX.load Tryz.underlying9 rfl rfl (hb3.cell_of rfl)) ?_
              refine OW.val rfl rfl (EX.addS rfl rfl (by first | omega | (simp only [List.length_append, List.length_cons, List.length_nil, List.length_take, List.length_drop, List.length_replicate]; omega))) ?_
              refine OW.val rfl rfl (EX.assign rfl) ?_
              refine OW.nil ?_
              refine KW.leave (KW.region ?_)
              refine OW.val rfl rfl (by first | exact EX.addN (b := 1) (m := 9223372036854775807) rfl rfl rfl (by omega) | exact EX.addZ (m := 9223372036854775807) rfl rfl rfl rfl (by omega)) ?_
              refine OW.val rfl rfl (EX.move rfl) ?_
              refine OW.nil ?_
              refine KW.as 6 (str ((datas (ss.take (i + 1))))) rfl (congrArg str hds.symm) ?_
              refine KW.back3 (i + 1) (genOf ss) (w3) ⟨rfl, rfl, rfl, rfl, rfl, rfl, trivial⟩ rfl ?_ (by omega)
              exact ⟨by omega, fun _ => rfl, hx.trans x3⟩
      · obtain rfl : i = ss.length := by omega
        obtain rfl := hg (by omega)
        have cm := members_s (datas ss) (by omega) wr
        have hmo := memsOf_ok ss
        have hml := memL_lenC ((datas ss).length + 1) (datas ss) []
        have hmd : memL ((datas ss).length + 1) (datas ss) [] = memsOf ss := rfl
        rw [hmd] at cm hml
        simp only [List.length_nil, Nat.zero_add] at hml
        rw [List.take_length]
        refine KW.exit rfl (KW.seq (KW.region ?_))
        refine OW.val rfl rfl (EX.move rfl) ?_
        refine OW.call rfl rfl rfl (cm) ?_
        rintro _ w1 ⟨u, rfl, hown1, hx1⟩
        refine OW.val rfl rfl (EX.move rfl) ?_
        refine OW.val rfl rfl (EX.extract rfl rfl) ?_
        refine OW.val rfl rfl (EX.extract rfl rfl) ?_
        refine OW.val rfl rfl (EX.assign rfl) ?_
        refine OW.val rfl rfl (EX.assign rfl) ?_
        refine OW.nil ?_
        refine KW.seq (KW.seq (KW.region ?_))
        refine OW.val rfl rfl (EX.move rfl) ?_
        refine OW.val rfl rfl (by first | exact EX.neqN (b := 0) rfl rfl | exact EX.neqZ rfl rfl) ?_
        refine OW.nil ?_
        obtain ⟨A1, c1, rfl, _, hsl1⟩ := hown1.slice
        refine KW.condD rfl (fun hme => ?_) (fun hme => ?_)
        · refine KW.seq (KW.region ?_)
          refine OW.val rfl rfl (EX.assign rfl) ?_
          refine OW.val rfl rfl (EX.assign rfl) ?_
          refine OW.val rfl rfl (EX.assign rfl) ?_
          refine OW.nil ?_
          refine KW.ret (ret3 rfl rfl rfl rfl ?_)
          exact bad (fun h => hme (by have := h.mem; omega)) w1 (hx.trans hx1)
        · have ce := encode23_s (genOf ss) (memsOf ss).1 hmo (by omega) A1 c1 _ w1 ((hG.ext hx).ext hx1) hsl1
          refine KW.skip (KW.seq (KW.region ?_))
          refine OW.val rfl rfl (EX.move rfl) ?_
          refine OW.val rfl rfl (EX.move rfl) ?_
          refine OW.call rfl rfl rfl (ce) ?_
          rintro _ w2 ⟨⟨u2, rfl, hown2⟩, hx2⟩
          refine OW.val rfl rfl (EX.move rfl) ?_
          refine OW.val rfl rfl (EX.extract rfl rfl) ?_
          refine OW.val rfl rfl (EX.extract rfl rfl) ?_
          refine OW.val rfl rfl (EX.assign rfl) ?_
          refine OW.val rfl rfl (EX.assign rfl) ?_
          refine OW.nil ?_
          refine KW.seq (KW.seq (KW.region ?_))
          refine OW.val rfl rfl (EX.move rfl) ?_
          refine OW.val rfl rfl (by first | exact EX.neqN (b := 0) rfl rfl | exact EX.neqZ rfl rfl) ?_
          refine OW.nil ?_
          have x2 := (hx.trans hx1).trans hx2
          obtain ⟨A2, c2, rfl, _, hsl2⟩ := hown2.slice
          refine KW.condD rfl (fun hee => ?_) (fun hee => ?_)
          · have h230 : (encC (genOf ss) (memsOf ss).1).2 = 230 := by
              rcases encC_or (genOf ss) (memsOf ss).1 with ⟨_, q⟩ | q
              · rw [q] at hee; exact absurd rfl hee
              · rw [q]
            refine KW.seq (KW.region ?_)
            refine OW.val rfl rfl (EX.move rfl) ?_
            refine OW.val rfl rfl (EX.assign rfl) ?_
            refine OW.val rfl rfl (EX.assign rfl) ?_
            refine OW.val rfl rfl (EX.assign rfl) ?_
            refine OW.nil ?_
            rw [h230]
            refine KW.ret (ret3 rfl rfl rfl rfl ?_)
            exact bad (fun h => by rw [h.enc] at h230; cases h230) w2 x2
          · have hE : encC (genOf ss) (memsOf ss).1 = ((encC (genOf ss) (memsOf ss).1).1, 0) := by
              rcases encC_or (genOf ss) (memsOf ss).1 with ⟨_, q⟩ | q
              · rw [q]
              · rw [q] at hee; exact absurd (show (230 : Nat) ≠ 0 by decide) (fun z => hee (by simp))
            have ho5 := enc_len hE
            have hyes : (encC (genOf ss) (memsOf ss).1).1 = ss → OkD ss := fun q => ⟨by omega, by rw [hE, q]⟩
            have hno : (encC (genOf ss) (memsOf ss).1).1 ≠ ss → ¬ OkD ss := fun q h => q (by rw [h.enc])
            generalize (encC (genOf ss) (memsOf ss).1).1 = os at ho5 hyes hno hsl2
            generalize (encC (genOf ss) (memsOf ss).1).2 = oe at hee
            have hsl3 := hs.ext x2
            obtain ⟨s0, s1, s2, s3, s4, rfl⟩ := fiveT h5
            obtain ⟨r0, r1, r2, r3, r4, rfl⟩ := fiveT ho5
            obtain ⟨b3, o3, rfl, _, hc3⟩ := hsl3.at_ (by simp [txtsV])
            obtain ⟨b2, o2, rfl, _, hc2⟩ := hsl2.at_ (by simp [txtsV])
            have hm2 := (hown1.ext hx2)
            refine KW.skip (KW.seq (KW.seq ?_))
            refine KW.regionQ (by kernel_rfl) (by kernel_rfl) ?_
            refine QW.val rfl rfl (fun _ => EX.move rfl) ?_
            refine QW.val rfl rfl (fun _ => EX.arrayAt Tryz.underlying99 rfl (by omega)) ?_
            refine QW.val rfl rfl (fun _ => EX.loadA (w := w2.drewN _) (l := [str r0, str r1, str r2, str r3, str r4]) Tryz.underlying99 rfl ti99 rfl rfl hc2) ?_
            refine QW.val rfl rfl (fun _ => EX.move rfl) ?_
            refine QW.val rfl rfl (fun _ => EX.arrayAt Tryz.underlying99 rfl (by omega)) ?_
            refine QW.val rfl rfl (fun _ => EX.loadA (w := w2.drewN _) (l := [str s0, str s1, str s2, str s3, str s4]) Tryz.underlying99 rfl ti99 rfl rfl hc3) ?_
            refine QW.val rfl rfl (fun _ => EX.neqA5 Tryz.underlying99 Tryz.underlying9 ti9 (by kernel_rfl) rfl rfl) ?_
            refine QW.nil (fun nq => ?_)
            refine KW.condD rfl (fun hne => ?_) (fun hne => ?_)
            · refine KW.seq (KW.region ?_)
              refine OW.val rfl rfl (EX.assign rfl) ?_
              refine OW.val rfl rfl (EX.assign rfl) ?_
              refine OW.val rfl rfl (EX.assign rfl) ?_
              refine OW.nil ?_
              refine KW.ret (ret3 rfl rfl rfl rfl ?_)
              exact bad (hno hne) _ (x2.trans (Ext.drewN _ _))
            · have hok := hyes (Decidable.of_not_not hne)
              refine KW.skip (KW.seq (KW.region ?_))
              refine OW.val rfl rfl (EX.move rfl) ?_
              refine OW.val rfl rfl (EX.move rfl) ?_
              refine OW.val rfl rfl (EX.assign rfl) ?_
              refine OW.val rfl rfl (EX.assign rfl) ?_
              refine OW.val rfl rfl (EX.assign rfl) ?_
              refine OW.nil ?_
              refine KW.ret (ret3 rfl rfl rfl rfl ?_)
              rw [decC_ok hok]
              exact ⟨⟨_, rfl, (hm2.drewN _).more hx.size⟩, x2.trans (Ext.drewN _ _)⟩
set_option maxRecDepth 20000 in
theorem rdecode23_s (ss : Txts) (hl : ss.length ≤ 140737488355328) (A : Option Addr) (c B : Nat) (w : World) (hs : Sl w B A (txtsV ss)) :
    Ret Tryz.prog 13 [.slice A ss.length c] w fun v w' => (∃ u, v = .tuple #[.int .i64 (decC ss).1, u, .int .i64 (((decC ss).2.2 : Nat) : Int)] ∧ Own w' w.heap.size 70 5 u (decC ss).2.1.length (memsV (decC ss).2.1)) ∧ Ext w w' := by
  have bad : ¬ OkD ss → ∀ w', Ext w w' → (∃ u, (Value.tuple #[.int .i64 0, .slice none 0 0, .int .i64 230]) = .tuple #[.int .i64 (decC ss).1, u, .int .i64 (((decC ss).2.2 : Nat) : Int)] ∧ Own w' w.heap.size 70 5 u (decC ss).2.1.length (memsV (decC ss).2.1)) ∧ Ext w w' := fun h w' hx => by
    rw [decC_no h]
    exact ⟨⟨_, rfl, Own.nil _ _ _ _⟩, hx⟩
  refine Ret.enter Tryz.func13 rfl Tryz.ntmps13 (by kernel_rfl) rfl ?_
  refine KW.seq (KW.region ?_)
  refine OW.val rfl rfl (EX.assign rfl) ?_
  refine OW.val rfl rfl (EX.assign rfl) ?_
  refine OW.val rfl rfl (EX.assign rfl) ?_
  refine OW.nil ?_
  refine KW.seq (KW.seq (KW.region ?_))
  refine OW.val rfl rfl (EX.move rfl) ?_
  refine OW.val rfl rfl (EX.lenA Tryz.underlying24 rfl) ?_
  refine OW.val rfl rfl (by first | exact EX.neqN (b := 5) rfl rfl | exact EX.neqZ rfl rfl) ?_
  refine OW.nil ?_
  refine KW.condD rfl (fun hn5 => ?_) (fun hn5 => ?_)
  · refine KW.seq (KW.region ?_)
    refine OW.val rfl rfl (EX.assign rfl) ?_
    refine OW.val rfl rfl (EX.assign rfl) ?_
    refine OW.val rfl rfl (EX.assign rfl) ?_
    refine OW.nil ?_
    refine KW.ret (ret3 rfl rfl rfl rfl ?_)
    exact bad (fun h => hn5 (by have := okD_len h; omega)) w (Ext.refl _)
  · have h5 : ss.length = 5 := by omega
    have hdm := datas_most ss
    refine KW.skip (KW.seq (KW.region ?_))
    refine OW.val rfl rfl (EX.assign rfl) ?_
    refine OW.nil ?_
    refine KW.seq (KW.region ?_)
    refine OW.val rfl rfl (EX.assign rfl) ?_
    refine OW.nil ?_
    refine KW.seq (KW.seq (KW.region ?_))
    refine OW.val rfl rfl (EX.assign rfl) ?_
    refine OW.nil ?_
    refine KW.block ?_
    refine KW.loop3 (fun (i : Nat) (g : Int) (wr : World) => i ≤ 5 ∧ (∀ h : i - 1 < ss.length, 0 < i → g = (decodeR ss[i - 1]).1.gen) ∧ Ext w wr) (fun (i : Nat) (g : Int) (wr : World) => [(0, .slice A ss.length c), (5, str ((datas (ss.take i)))), (6, .int .i64 g), (7, .int .i64 ((i : Nat) : Int))]) (fun (i : Nat) (g : Int) (wr : World) => wr) (fun (i : Nat) (g : Int) (wr : World) => 5 - i) (0) (0) (w) ⟨rfl, rfl, rfl, rfl, trivial⟩ rfl ?_ ?_
    · exact ⟨Nat.zero_le _, fun _ h => by omega, Ext.refl _⟩
    · rintro i g wr ⟨hi, hg, hx⟩
      refine KW.seq (KW.seq (KW.region ?_))
      refine OW.val rfl rfl (EX.move rfl) ?_
      refine OW.val rfl rfl (by first | exact EX.lssN (b := 5) rfl rfl | exact EX.lssZ rfl rfl) ?_
      refine OW.nil ?_
      refine KW.condD rfl (fun hlt5 => ?_) (fun hlt5 => ?_)
      · have hlt : i < ss.length := by omega
        obtain ⟨b, o, rfl, _, hcell⟩ := txts_cellC (hs.ext hx) hlt
        have hsn : ss.take (i + 1) = ss.take i ++ [ss[i]] := (List.take_append_getElem hlt).symm
        have hat := fun h : OkD ss => okD_at h hlt
        generalize hsd : ss[i] = s at hcell hsn hat
        have hd1 := data_most s
        have hd2 := datas_most (ss.take i)
        rw [List.length_take] at hd2
        have cd := fun w => rdecode_s s w
        have hds : datas (ss.take (i + 1)) = datas (ss.take i) ++ (decodeR s).1.data := by rw [hsn, datas_snoc]
        generalize hxd : (decodeR s).1 = x at cd hat hd1 hds
        generalize (decodeR s).2 = e at cd hat
        refine KW.skip (KW.seq (KW.block (KW.seq (KW.region ?_))))
        refine OW.val rfl rfl (EX.move rfl) ?_
        refine OW.val rfl rfl (EX.move rfl) ?_
        refine OW.val rfl rfl (by first | exact EX.indexAddrS0 Tryz.underlying24 ti9 rfl rfl (by omega) | exact EX.indexAddrS1 Tryz.underlying24 ti9 rfl rfl (by omega)) ?_
        refine OW.val rfl rfl (EX.load Tryz.underlying9 rfl rfl (hcell)) ?_
        refine OW.call rfl rfl rfl (cd wr) ?_
        rintro _ w1 ⟨rfl, hx1⟩
        refine OW.val rfl rfl (EX.move rfl) ?_
        refine OW.val rfl rfl (EX.extract rfl rfl) ?_
        refine OW.val rfl rfl (EX.extract rfl rfl) ?_
        refine OW.allocB (l := [.int .u8 0, .int .i64 0, .int .i64 0, str []]) rfl rfl ti100 rfl ?_
        rintro xb w2 hge2 hb2 hx2
        refine OW.storeS rfl ti100 rfl rfl rfl (by first | rfl | (simp only [List.all_cons, List.all_nil, Bool.and_true, Bool.true_and, Bool.and_eq_true, Value.oneCell']; repeat (first | assumption | exact Own.one (by assumption) | constructor))) (hb2) (Nat.le_refl _) ?_
        rintro w3 hb3 hm3
        refine OW.val rfl rfl (EX.assign rfl) ?_
        refine OW.nil ?_
        refine KW.seq (KW.seq (KW.region ?_))
        refine OW.val rfl rfl (EX.move rfl) ?_
        refine OW.val rfl rfl (by first | exact EX.neqN (b := 0) rfl rfl | exact EX.neqZ rfl rfl) ?_
        refine OW.nil ?_
        replace hb3 : Bk w3 xb 100 x.cells := hb3
        have x3 : Ext wr w3 := below_mo (hx1.trans hx2) hm3 (hx1.trans hx2).size (fun k hk => by simp at hk; have := hx1.size; omega)
        refine KW.condD rfl (fun he => ?_) (fun he => ?_)
        · refine KW.seq (KW.region ?_)
          refine OW.val rfl rfl (EX.assign rfl) ?_
          refine OW.val rfl rfl (EX.assign rfl) ?_
          refine OW.val rfl rfl (EX.assign rfl) ?_
          refine OW.nil ?_
          refine KW.ret (ret3 rfl rfl rfl rfl ?_)
          exact bad (fun h => he (hat h).2.1) w3 (hx.trans x3)
        · refine KW.skip (KW.seq (KW.region ?_))
          refine OW.val rfl rfl (EX.move rfl) ?_
          refine OW.val rfl rfl (EX.fieldAddr (off := 3) Tryz.underlying100 rfl rfl ti9 rfl rfl) ?_
          refine OW.val rfl rfl (EX.load Tryz.underlying9 rfl rfl (hb3.cell_of rfl)) ?_
          refine OW.val rfl rfl (EX.addS rfl rfl (by first | omega | (simp only [List.length_append, List.length_cons, List.length_nil, List.length_take, List.length_drop, List.length_replicate]; omega))) ?_
          refine OW.val rfl rfl (EX.assign rfl) ?_
          refine OW.nil ?_
          refine KW.region ?_
          refine OW.val rfl rfl (EX.fieldAddr (off := 1) Tryz.underlying100 rfl rfl ti3 rfl rfl) ?_
          refine OW.val rfl rfl (EX.load Tryz.underlying3 rfl rfl (hb3.cell_of rfl)) ?_
          refine OW.val rfl rfl (EX.assign rfl) ?_
          refine OW.nil ?_
          refine KW.leave (KW.region ?_)
          refine OW.val rfl rfl (EX.move rfl) ?_
          refine OW.val rfl rfl (by first | exact EX.addN (b := 1) (m := 9223372036854775807) rfl rfl rfl (by omega) | exact EX.addZ (m := 9223372036854775807) rfl rfl rfl rfl (by omega)) ?_
          refine OW.val rfl rfl (EX.assign rfl) ?_
          refine OW.nil ?_
          refine KW.as 5 (str ((datas (ss.take (i + 1))))) rfl (congrArg str hds.symm) ?_
          refine KW.back3 (i + 1) (x.gen) (w3) ⟨rfl, rfl, rfl, rfl, trivial⟩ rfl ?_ (by omega)
          exact ⟨by omega, fun h _ => by rw [← hxd, ← hsd]; rfl, hx.trans x3⟩
      · obtain rfl : i = 5 := by omega
        have hg5 := hg (by omega) (by omega)
        have cm := rmembers_s (datas ss) (by omega) wr
        have hmo := memsOf_ok ss
        have hml := memL_lenC ((datas ss).length + 1) (datas ss) []
        have hmd : memL ((datas ss).length + 1) (datas ss) [] = memsOf ss := rfl
        rw [hmd] at cm hml
        simp only [List.length_nil, Nat.zero_add] at hml
        rw [List.take_of_length_le (by omega)]
        refine KW.exit rfl (KW.seq (KW.region ?_))
        refine OW.val rfl rfl (EX.move rfl) ?_
        refine OW.call rfl rfl rfl (cm) ?_
        rintro _ w1 ⟨u, rfl, hown1, hx1⟩
        refine OW.val rfl rfl (EX.move rfl) ?_
        refine OW.val rfl rfl (EX.extract rfl rfl) ?_
        refine OW.val rfl rfl (EX.extract rfl rfl) ?_
        refine OW.val rfl rfl (EX.assign rfl) ?_
        refine OW.val rfl rfl (EX.assign rfl) ?_
        refine OW.nil ?_
        refine KW.seq (KW.region ?_)
        refine OW.val rfl rfl (EX.move rfl) ?_
        refine OW.val rfl rfl (EX.move rfl) ?_
        obtain ⟨A1, c1, rfl, _, hsl1⟩ := hown1.slice
        have ce := rencode23_s g (memsOf ss).1 hmo (by omega) A1 c1 _ w1 hsl1
        refine OW.call rfl rfl rfl (ce) ?_
        rintro _ w2 ⟨⟨u2, rfl, hown2⟩, hx2⟩
        refine OW.val rfl rfl (EX.move rfl) ?_
        refine OW.val rfl rfl (EX.extract rfl rfl) ?_
        refine OW.val rfl rfl (EX.extract rfl rfl) ?_
        refine OW.val rfl rfl (EX.assign rfl) ?_
        refine OW.val rfl rfl (EX.assign rfl) ?_
        refine OW.nil ?_
        refine KW.seq (KW.seq ?_)
        have x2 := (hx.trans hx1).trans hx2
        obtain ⟨A2, c2, rfl, _, hsl2⟩ := hown2.slice
        have hlast : 5 - 1 < ss.length := by omega
        have hyes0 : (memsOf ss).2 = 0 → encC g (memsOf ss).1 = (ss, 0) → OkD ss ∧ g = genOf ss := fun h1 h2 => by
          rw [hg5] at h2
          exact ⟨okD_any hlast h1 h2, by rw [hg5]; exact (enc_gen h2).symm⟩
        have hno0 : OkD ss → (memsOf ss).2 = 0 ∧ encC g (memsOf ss).1 = (ss, 0) := fun h => by
          have h1 := (okD_at h hlast).2.2.2.1
          rw [← hg5] at h1
          exact ⟨h.mem, by rw [h1]; exact h.enc⟩
        refine KW.region ?_
        refine OW.val rfl rfl (EX.move rfl) ?_
        refine OW.val rfl rfl (by first | exact EX.neqN (b := 0) rfl rfl | exact EX.neqZ rfl rfl) ?_
        refine OW.val rfl rfl (EX.move rfl) ?_
        refine OW.splitD 51 rfl (fun hme => ?_) (fun hme => ?_)
        · refine OW.pass rfl rfl ?_
          refine OW.pass rfl rfl ?_
          refine OW.val rfl rfl (EX.pickT rfl rfl) ?_
          refine OW.nil ?_
          refine KW.condT rfl (KW.seq (KW.region ?_))
          refine OW.val rfl rfl (EX.assign rfl) ?_
          refine OW.val rfl rfl (EX.assign rfl) ?_
          refine OW.val rfl rfl (EX.assign rfl) ?_
          refine OW.nil ?_
          refine KW.ret (ret3 rfl rfl rfl rfl ?_)
          exact bad (fun h => hme (hno0 h).1) w2 x2
        · refine OW.val rfl rfl (EX.move rfl) ?_
          refine OW.val rfl rfl (by first | exact EX.neqN (b := 0) rfl rfl | exact EX.neqZ rfl rfl) ?_
          refine OW.val rfl rfl (EX.pickF rfl rfl) ?_
          refine OW.nil ?_
          refine KW.condD rfl (fun hee => ?_) (fun hee => ?_)
          · refine KW.seq (KW.region ?_)
            refine OW.val rfl rfl (EX.assign rfl) ?_
            refine OW.val rfl rfl (EX.assign rfl) ?_
            refine OW.val rfl rfl (EX.assign rfl) ?_
            refine OW.nil ?_
            refine KW.ret (ret3 rfl rfl rfl rfl ?_)
            exact bad (fun h => hee (by rw [(hno0 h).2])) w2 x2
          · have hE : encC g (memsOf ss).1 = ((encC g (memsOf ss).1).1, 0) := by
              rcases encC_or g (memsOf ss).1 with ⟨_, q⟩ | q
              · rw [q]
              · rw [q] at hee; exact absurd (show (230 : Nat) ≠ 0 by decide) (fun z => hee (by simp))
            have ho5 := enc_len hE
            have hyes : (encC g (memsOf ss).1).1 = ss → OkD ss ∧ g = genOf ss := fun q => hyes0 (by omega) (by rw [hE, q])
            have hno : (encC g (memsOf ss).1).1 ≠ ss → ¬ OkD ss := fun q h => q (by rw [(hno0 h).2])
            generalize (encC g (memsOf ss).1).1 = os at ho5 hyes hno hsl2
            generalize (encC g (memsOf ss).1).2 = oe at hee
            have hm2 := (hown1.ext hx2)
            refine KW.skip (KW.seq (KW.seq (KW.region ?_)))
            refine OW.val rfl rfl (EX.assign rfl) ?_
            refine OW.nil ?_
            refine KW.block ?_
            refine KW.loop2 (fun (i : Nat) (wq : World) => i ≤ 5 ∧ (∀ j, j < i → os[j]? = ss[j]?) ∧ Ext w2 wq) (fun (i : Nat) (wq : World) => [(0, .slice A ss.length c), (6, .int .i64 g), (10, .slice A1 (memsOf ss).1.length c1), (12, .slice A2 os.length c2), (14, .int .i64 ((i : Nat) : Int))]) (fun (i : Nat) (wq : World) => wq) (fun (i : Nat) (wq : World) => 5 - i) (0) (w2) ⟨rfl, rfl, rfl, rfl, rfl, trivial⟩ rfl ?_ ?_
            · exact ⟨Nat.zero_le _, fun j hj => by omega, Ext.refl _⟩
            · rintro i wq ⟨hi, heq, hxq⟩
              refine KW.seq (KW.seq (KW.region ?_))
              refine OW.val rfl rfl (EX.move rfl) ?_
              refine OW.val rfl rfl (by first | exact EX.lssN (b := 5) rfl rfl | exact EX.lssZ rfl rfl) ?_
              refine OW.nil ?_
              refine KW.condD rfl (fun hlt2 => ?_) (fun hlt2 => ?_)
              · have h1 : i < os.length := by omega
                have h2 : i < ss.length := by omega
                obtain ⟨b2, o2, rfl, _, hc2⟩ := txts_cellC (hsl2.ext hxq) h1
                obtain ⟨b3, o3, rfl, _, hc3⟩ := txts_cellC (hs.ext (x2.trans hxq)) h2
                refine KW.skip (KW.seq (KW.block (KW.seq ?_)))
                refine KW.regionQ (by kernel_rfl) (by kernel_rfl) ?_
                refine QW.val rfl rfl (fun _ => EX.move rfl) ?_
                refine QW.val rfl rfl (fun _ => EX.move rfl) ?_
                refine QW.val rfl rfl (fun _ => by first | exact EX.indexAddrS0 Tryz.underlying24 ti9 rfl rfl (by omega) | exact EX.indexAddrS1 Tryz.underlying24 ti9 rfl rfl (by omega)) ?_
                refine QW.val rfl rfl (fun _ => EX.load Tryz.underlying9 rfl rfl (hc2)) ?_
                refine QW.val rfl rfl (fun _ => EX.move rfl) ?_
                refine QW.val rfl rfl (fun _ => EX.move rfl) ?_
                refine QW.val rfl rfl (fun _ => by first | exact EX.indexAddrS0 Tryz.underlying24 ti9 rfl rfl (by omega) | exact EX.indexAddrS1 Tryz.underlying24 ti9 rfl rfl (by omega)) ?_
                refine QW.val rfl rfl (fun _ => EX.load Tryz.underlying9 rfl rfl (hc3)) ?_
                refine QW.val rfl rfl (fun _ => EX.neqS rfl rfl) ?_
                refine QW.nil (fun nq => ?_)
                refine KW.condD rfl (fun hne => ?_) (fun hne => ?_)
                · refine KW.seq (KW.region ?_)
                  refine OW.val rfl rfl (EX.assign rfl) ?_
                  refine OW.val rfl rfl (EX.assign rfl) ?_
                  refine OW.val rfl rfl (EX.assign rfl) ?_
                  refine OW.nil ?_
                  refine KW.ret (ret3 rfl rfl rfl rfl ?_)
                  exact bad (hno (fun q => hne (by subst q; rfl))) _ ((x2.trans hxq).trans (Ext.drewN _ _))
                · refine KW.skip (KW.leave (KW.region ?_))
                  refine OW.val rfl rfl (EX.move rfl) ?_
                  refine OW.val rfl rfl (by first | exact EX.addN (b := 1) (m := 9223372036854775807) rfl rfl rfl (by omega) | exact EX.addZ (m := 9223372036854775807) rfl rfl rfl rfl (by omega)) ?_
                  refine OW.val rfl rfl (EX.assign rfl) ?_
                  refine OW.nil ?_
                  refine KW.back2 (i + 1) (wq.drewN nq) ⟨rfl, rfl, rfl, rfl, rfl, trivial⟩ rfl ?_ (by omega)
                  refine ⟨by omega, fun j hj => ?_, hxq.trans (Ext.drewN _ _)⟩
                  by_cases ej : j = i
                  · subst ej
                    rw [List.getElem?_eq_getElem h1, List.getElem?_eq_getElem h2]
                    exact congrArg some (by simpa using hne)
                  · exact heq j (by omega)
              · have hsame : os = ss := by
                  apply List.ext_getElem?
                  intro j
                  by_cases hj : j < 5
                  · exact heq j (by omega)
                  · rw [List.getElem?_eq_none (by omega), List.getElem?_eq_none (by omega)]
                obtain ⟨hok, rfl⟩ := hyes hsame
                refine KW.exit rfl (KW.seq (KW.region ?_))
                refine OW.val rfl rfl (EX.move rfl) ?_
                refine OW.val rfl rfl (EX.move rfl) ?_
                refine OW.val rfl rfl (EX.assign rfl) ?_
                refine OW.val rfl rfl (EX.assign rfl) ?_
                refine OW.val rfl rfl (EX.assign rfl) ?_
                refine OW.nil ?_
                refine KW.ret (ret3 rfl rfl rfl rfl ?_)
                rw [decC_ok hok]
                exact ⟨⟨_, rfl, (hm2.ext hxq).more hx.size⟩, x2.trans hxq⟩
end Go.Proofs.YthgfdpcpbghkpaaGreatDoor
/- disk, in plain words: a device that may lose power. No program is spoken of. -/
namespace Go.Proofs.YthgfdpcpbghkpaaGreatDoor.Dsk
set_option linter.unnecessarySimpa false
open Go.Proofs.YthgfdpcpbghkpaaGreatDoor
set_option linter.unusedSimpArgs false
set_option linter.unusedVariables false

inductive Ch where
  | write (i : Nat) (s : List UInt8)
  | cut (n : Nat)
def zeros (n : Nat) : List UInt8 := List.replicate n 0
def Ch.ap : Ch → List UInt8 → List UInt8
  | .write i s, all =>
    (all ++ zeros ((i + 1) * 512 - all.length)).take (i * 512) ++ s ++ (all ++ zeros ((i + 1) * 512 - all.length)).drop (i * 512 + s.length)
  | .cut n, all => all.take (min all.length (n * 512))
/-- a change that a device of so many sectors takes -/
def Ch.ok (cap : Nat) : Ch → Prop
  | .write i s => i < cap ∧ s.length = 512
  | .cut n => n ≤ cap
theorem zeros_length (n : Nat) : (zeros n).length = n := by simp [zeros]
theorem ap_length {cap : Nat} {c : Ch} (h : c.ok cap) {all : List UInt8} (ha : all.length ≤ 512 * cap) : (c.ap all).length ≤ 512 * cap := by
  cases c with
  | write i s =>
    obtain ⟨h1, h2⟩ := h
    simp only [Ch.ap, List.length_append, List.length_take, List.length_drop, zeros_length]
    omega
  | cut n => simp only [Ch.ap, List.length_take]; omega
theorem ap_mod {cap : Nat} {c : Ch} (h : c.ok cap) {all : List UInt8} (ha : all.length % 512 = 0) : (c.ap all).length % 512 = 0 := by
  cases c with
  | write i s =>
    obtain ⟨h1, h2⟩ := h
    simp only [Ch.ap, List.length_append, List.length_take, List.length_drop, zeros_length]
    omega
  | cut n => simp only [Ch.ap, List.length_take]; omega
structure Dv where
  cap : Nat
  kept : List UInt8
  now : List UInt8
  pend : List Ch
  at_ : Nat
  keep : List Bool
  dead : Bool
  calls : Nat
/-- whole: what a device is at any time -/
structure Dv.Ok (D : Dv) : Prop where
  cap : 1 ≤ D.cap ∧ D.cap ≤ 4096
  kept : D.kept.length ≤ 512 * D.cap
  now : D.now.length ≤ 512 * D.cap
  keptM : D.kept.length % 512 = 0
  nowM : D.now.length % 512 = 0
  pend : ∀ c ∈ D.pend, c.ok D.cap
/-- what falls: the pending changes that are kept are done -/
def fallen : List Ch → List Bool → List UInt8 → List UInt8
  | [], _, all => all
  | c :: cs, [], all => all
  | c :: cs, b :: bs, all => fallen cs bs (if b then c.ap all else all)
def Dv.pushed (D : Dv) (c : Option Ch) : Dv := match c with
  | some c => { D with pend := D.pend ++ [c] }
  | none => D
def Dv.done (D : Dv) (c : Option Ch) : Dv := match c with
  | some c => { D with now := c.ap D.now, calls := D.calls + 1 }
  | none => { D with kept := D.now, pend := [], calls := D.calls + 1 }
def Dv.does (D : Dv) (c : Option Ch) : Dv × Nat :=
  let E := D.pushed c
  if E.at_ = 0 then (E.done c, 0)
  else if E.at_ = 1 then ({ E with kept := fallen E.pend E.keep E.kept, now := fallen E.pend E.keep E.kept, pend := [], at_ := 0, keep := [], dead := true }, 190)
  else (Dv.done { E with at_ := E.at_ - 1 } c, 0)
theorem fallen_length {cap : Nat} : ∀ (cs : List Ch) (bs : List Bool) (all : List UInt8), (∀ c ∈ cs, c.ok cap) → all.length ≤ 512 * cap → all.length % 512 = 0 → (fallen cs bs all).length ≤ 512 * cap ∧ (fallen cs bs all).length % 512 = 0
  | [], _, all, _, h1, h2 => ⟨h1, h2⟩
  | c :: cs, [], all, _, h1, h2 => ⟨h1, h2⟩
  | c :: cs, b :: bs, all, h, h1, h2 => by
    simp only [fallen]
    refine fallen_length cs bs _ (fun c' hc => h c' (by simp [hc])) ?_ ?_
    · split
      · exact ap_length (h c (by simp)) h1
      · exact h1
    · split
      · exact ap_mod (h c (by simp)) h2
      · exact h2
/-- one more pending change -/
theorem fallen_snoc : ∀ (cs : List Ch) (c : Ch) (bs : List Bool) (all : List UInt8), fallen (cs ++ [c]) bs all = if bs.getD cs.length false then c.ap (fallen cs bs all) else fallen cs bs all
  | [], c, [], all => by simp [fallen]
  | [], c, b :: bs, all => by simp [fallen]
  | d :: cs, c, [], all => by simp [fallen]
  | d :: cs, c, b :: bs, all => by
    simp only [List.cons_append, fallen, fallen_snoc cs c bs _, List.length_cons, List.getD_cons_succ]
theorem pushed_ok {D : Dv} (h : D.Ok) {c : Option Ch} (hc : ∀ d, c = some d → d.ok D.cap) : (D.pushed c).Ok := by
  cases c with
  | none => exact h
  | some c =>
    refine ⟨h.cap, h.kept, h.now, h.keptM, h.nowM, fun d hd => ?_⟩
    simp only [Dv.pushed, List.mem_append, List.mem_singleton] at hd
    rcases hd with hd | rfl
    · exact h.pend d hd
    · exact hc _ rfl
theorem done_ok {D : Dv} (h : D.Ok) {c : Option Ch} (hc : ∀ d, c = some d → d.ok D.cap) : (D.done c).Ok := by
  cases c with
  | none => exact ⟨h.cap, h.now, h.now, h.nowM, h.nowM, fun d hd => by simp [Dv.done] at hd⟩
  | some c => exact ⟨h.cap, h.kept, ap_length (hc c rfl) h.now, h.keptM, ap_mod (hc c rfl) h.nowM, h.pend⟩
theorem pushed_cap (D : Dv) (c : Option Ch) : (D.pushed c).cap = D.cap := by cases c <;> rfl
theorem does_ok {D : Dv} (h : D.Ok) {c : Option Ch} (hc : ∀ d, c = some d → d.ok D.cap) : (D.does c).1.Ok := by
  have h1 := pushed_ok h hc
  have hc1 : ∀ d, c = some d → d.ok (D.pushed c).cap := fun d hd => by rw [pushed_cap]; exact hc d hd
  unfold Dv.does
  simp only
  split
  · exact done_ok h1 hc1
  · split
    · obtain ⟨q1, q2⟩ := fallen_length (cap := (D.pushed c).cap) (D.pushed c).pend (D.pushed c).keep (D.pushed c).kept h1.pend h1.kept h1.keptM
      exact ⟨h1.cap, q1, q1, q2, q2, fun d hd => by simp at hd⟩
    · exact done_ok (D := { D.pushed c with at_ := (D.pushed c).at_ - 1 }) ⟨h1.cap, h1.kept, h1.now, h1.keptM, h1.nowM, h1.pend⟩ hc1
def sector (b : Nat) (odd : Bool) : List UInt8 := List.replicate (if odd then 511 else 512) (UInt8.ofNat b)
end Go.Proofs.YthgfdpcpbghkpaaGreatDoor.Dsk
/- disk: slices' clones, and what the changes' closures compute. -/
namespace Go.Proofs.YthgfdpcpbghkpaaGreatDoor
set_option linter.unnecessarySimpa false
set_option linter.unusedSimpArgs false
open Go.RowKit Dsk
set_option linter.unusedVariables false

/-! ### Clones -/
theorem cloneB_c (A : Option Addr) (c : Nat) (xs : List Value) (B : Nat) (w : World) (hs : Sl w B A xs) (hA : A = none → xs = []) (h1 : ∀ u ∈ xs, u.oneCell' = true) (hl : xs.length ≤ 140737488351232) :
    Ret Tryz.prog 79 [.slice A xs.length c] w fun v w' => Own w' w.heap.size 5 1 v xs.length xs ∧ Ext w w' := by
  refine Ret.enter Tryz.func79 rfl Tryz.ntmps79 (by kernel_rfl) rfl ?_
  rcases A with _ | a
  · obtain rfl := hA rfl
    refine KW.seq (KW.region ?_)
    refine OW.val rfl rfl (EX.assign rfl) ?_
    refine OW.nil ?_
    refine KW.seq (KW.seq (KW.region ?_))
    refine OW.val rfl rfl (EX.move rfl) ?_
    refine OW.val rfl rfl (by first | exact EX.eqlA1 Tryz.underlying54 rfl rfl | exact EX.eqlA0 Tryz.underlying54 rfl rfl) ?_
    refine OW.nil ?_
    refine KW.condT rfl (KW.seq (KW.region ?_))
    refine OW.val rfl rfl (EX.assign rfl) ?_
    refine OW.nil ?_
    refine KW.ret (ret1 rfl rfl ?_)
    exact ⟨Own.nil _ _ _ _, Ext.refl _⟩
  · refine KW.seq (KW.region ?_)
    refine OW.val rfl rfl (EX.assign rfl) ?_
    refine OW.nil ?_
    refine KW.seq (KW.seq (KW.region ?_))
    refine OW.val rfl rfl (EX.move rfl) ?_
    refine OW.val rfl rfl (by first | exact EX.eqlA1 Tryz.underlying54 rfl rfl | exact EX.eqlA0 Tryz.underlying54 rfl rfl) ?_
    refine OW.nil ?_
    refine KW.condF rfl (KW.skip (KW.seq (KW.region ?_)))
    refine OW.buildB 0 rfl rfl Tryz.underlying54 ti5 rfl rfl rfl rfl (by first | rfl | (simp only [List.all_cons, List.all_nil, Bool.and_true, Bool.and_eq_true]; assumption)) (by decide) ?_
    rintro b w1 hge hb hx
    refine OW.val rfl rfl (EX.move rfl) ?_
    refine OW.appendX rfl rfl Tryz.underlying54 ti5 rfl (by decide) rfl rfl (hx) (Own.of_bk (l := []) hb hge rfl (by decide)) (Src.of_sl Tryz.underlying54 (hs.ext hx) (by simp) h1 (by decide)) (by simp only [maxLen]; omega) (by omega) ?_
    rintro v' w' hown hx' _ _
    refine OW.val rfl rfl (EX.assign rfl) ?_
    refine OW.nil ?_
    refine KW.ret (ret1 rfl rfl ?_)
    rw [Nat.zero_add] at hown
    exact ⟨hown, hx'⟩
theorem cloneT_c (A : Option Addr) (c : Nat) (xs : List Value) (B : Nat) (w : World) (hs : Sl w B A xs) (hA : A = none → xs = []) (h1 : ∀ u ∈ xs, u.oneCell' = true) (hl : xs.length ≤ 140737488351232) :
    Ret Tryz.prog 55 [.slice A xs.length c] w fun v w' => Own w' w.heap.size 4 1 v xs.length xs ∧ Ext w w' := by
  refine Ret.enter Tryz.func55 rfl Tryz.ntmps55 (by kernel_rfl) rfl ?_
  rcases A with _ | a
  · obtain rfl := hA rfl
    refine KW.seq (KW.region ?_)
    refine OW.val rfl rfl (EX.assign rfl) ?_
    refine OW.nil ?_
    refine KW.seq (KW.seq (KW.region ?_))
    refine OW.val rfl rfl (EX.move rfl) ?_
    refine OW.val rfl rfl (by first | exact EX.eqlA1 Tryz.underlying47 rfl rfl | exact EX.eqlA0 Tryz.underlying47 rfl rfl) ?_
    refine OW.nil ?_
    refine KW.condT rfl (KW.seq (KW.region ?_))
    refine OW.val rfl rfl (EX.assign rfl) ?_
    refine OW.nil ?_
    refine KW.ret (ret1 rfl rfl ?_)
    exact ⟨Own.nil _ _ _ _, Ext.refl _⟩
  · refine KW.seq (KW.region ?_)
    refine OW.val rfl rfl (EX.assign rfl) ?_
    refine OW.nil ?_
    refine KW.seq (KW.seq (KW.region ?_))
    refine OW.val rfl rfl (EX.move rfl) ?_
    refine OW.val rfl rfl (by first | exact EX.eqlA1 Tryz.underlying47 rfl rfl | exact EX.eqlA0 Tryz.underlying47 rfl rfl) ?_
    refine OW.nil ?_
    refine KW.condF rfl (KW.skip (KW.seq (KW.region ?_)))
    refine OW.buildB 0 rfl rfl Tryz.underlying47 ti4 rfl rfl rfl rfl (by first | rfl | (simp only [List.all_cons, List.all_nil, Bool.and_true, Bool.and_eq_true]; assumption)) (by decide) ?_
    rintro b w1 hge hb hx
    refine OW.val rfl rfl (EX.move rfl) ?_
    refine OW.appendX rfl rfl Tryz.underlying47 ti4 rfl (by decide) rfl rfl (hx) (Own.of_bk (l := []) hb hge rfl (by decide)) (Src.of_sl Tryz.underlying47 (hs.ext hx) (by simp) h1 (by decide)) (by simp only [maxLen]; omega) (by omega) ?_
    rintro v' w' hown hx' _ _
    refine OW.val rfl rfl (EX.assign rfl) ?_
    refine OW.nil ?_
    refine KW.ret (ret1 rfl rfl ?_)
    rw [Nat.zero_add] at hown
    exact ⟨hown, hx'⟩
/-! ### Closures -/
/-- what a change's call leaves: the bytes in a block that the slice had, or in a new one; nothing else changed -/
def Chd (w w' : World) (v v' : Value) (all : List UInt8) : Prop :=
  Own w' 0 5 1 v' all.length (bytesV all) ∧ Mo w w' v.ownBlock.toList ∧ (v'.ownBlock = v.ownBlock ∨ ∃ g, v'.ownBlock = some g ∧ w.heap.size ≤ g)
theorem bytesV_zeros (n : Nat) : bytesV (zeros n) = List.replicate n (.int .u8 0) := by simp [bytesV, zeros]
set_option maxRecDepth 20000 in
theorem write1_c (bi bs i : Nat) (s : List UInt8) (v : Value) (all : List UInt8) (w : World) (hbi : Bk w bi 3 [.int .i64 (i : Int)]) (hbs : Bk w bs 9 [str s]) (hown : Own w 0 5 1 v all.length (bytesV all)) (hi : i ≤ 1000000) (hs : s.length = 512) (hl : all.length ≤ 1000000000) :
    Ret Tryz.prog 53 [v, .pointer (some ⟨bi, 0, none⟩), .pointer (some ⟨bs, 0, none⟩)] w fun v' w' => Chd w w' v v' ((Ch.write i s).ap all) := by
  obtain ⟨A, c, rfl, hlc, hsl⟩ := hown.slice
  refine Ret.enter Tryz.func53 rfl Tryz.ntmps53 (by kernel_rfl) rfl ?_
  refine KW.seq (KW.region ?_)
  refine OW.val rfl rfl (EX.assign rfl) ?_
  refine OW.nil ?_
  refine KW.seq (KW.seq (KW.region ?_))
  refine OW.val rfl rfl (EX.load Tryz.underlying3 rfl rfl (hbi.cell_of rfl)) ?_
  refine OW.val rfl rfl (by first | exact EX.addN (b := 1) (m := 9223372036854775807) rfl rfl rfl (by omega) | exact EX.addZ (m := 9223372036854775807) rfl rfl rfl rfl (by omega)) ?_
  refine OW.val rfl rfl (by first | exact EX.mulN (b := 512) (m := 9223372036854775807) rfl rfl rfl (by omega) | exact EX.mulZ (m := 9223372036854775807) rfl rfl rfl rfl (by omega)) ?_
  refine OW.val rfl rfl (EX.assign rfl) ?_
  refine OW.nil ?_
  refine KW.seq (KW.region ?_)
  refine OW.val rfl rfl (EX.move rfl) ?_
  refine OW.val rfl rfl (EX.lenA Tryz.underlying54 rfl) ?_
  refine OW.val rfl rfl (EX.move rfl) ?_
  refine OW.val rfl rfl (by first | exact EX.lssN rfl rfl | exact EX.lssZ rfl rfl) ?_
  refine OW.nil ?_
  refine KW.cut2 (fun (v1 : Value) (w1 : World) => Own w1 0 5 1 v1 (all ++ zeros ((i + 1) * 512 - all.length)).length (bytesV (all ++ zeros ((i + 1) * 512 - all.length))) ∧ Mo w w1 (Value.slice A all.length c).ownBlock.toList ∧ (v1.ownBlock = (Value.slice A all.length c).ownBlock ∨ ∃ g, v1.ownBlock = some g ∧ w.heap.size ≤ g)) (fun (v1 : Value) (w1 : World) => [(0, v1), (1, .pointer (some ⟨bi, 0, none⟩)), (2, .pointer (some ⟨bs, 0, none⟩))]) (fun (v1 : Value) (w1 : World) => w1) ?_ ?_
  · skip
    refine KW.condD rfl (fun h => ?_) (fun h => ?_)
    · refine KW.region ?_
      refine OW.val rfl rfl (EX.move rfl) ?_
      refine OW.val rfl rfl (EX.move rfl) ?_
      refine OW.val rfl rfl (EX.move rfl) ?_
      refine OW.val rfl rfl (EX.lenA Tryz.underlying54 rfl) ?_
      refine OW.val rfl rfl (by first | exact EX.subN (m := 9223372036854775807) rfl rfl rfl (by omega) | exact EX.subZ (m := 9223372036854775807) rfl rfl rfl rfl (by omega)) ?_
      refine OW.appendZB rfl rfl Tryz.underlying54 Tryz.underlying3 ti5 rfl rfl rfl (hown) (by omega) (by simp only [maxLen]; omega) (by omega) ?_
      rintro v1 w1 hown1 hg1 hb1
      refine OW.val rfl rfl (EX.assign rfl) ?_
      refine OW.nil ?_
      refine KW.meet2 (v1) (w1) ⟨rfl, rfl, rfl, trivial⟩ rfl ?_
      refine ⟨?_, Mo.grown hg1 (fun k e => by rw [e]; simp), ?_⟩
      · rw [List.length_append, zeros_length, bytesV_append, bytesV_zeros]
        exact hown1
      · rcases hb1 with e | e
        · exact .inl e
        · exact .inr ⟨_, e, Nat.le_refl _⟩
    · refine KW.skip ?_
      refine KW.meet2 (_) (w) ⟨rfl, rfl, rfl, trivial⟩ rfl ?_
      have e0 : all ++ zeros ((i + 1) * 512 - all.length) = all := by rw [show (i + 1) * 512 - all.length = 0 by omega]; simp [zeros]
      rw [e0]
      exact ⟨hown, Mo.refl _ _, .inl rfl⟩
  · rintro v1 w1 ⟨hown1, hm, hv⟩
    have hbi1 := hbi.mo hm (fun k => hown.ne hbi (by decide) _ (Option.mem_toList.1 k) rfl)
    have hbs1 := hbs.mo hm (fun k => hown.ne hbs (by decide) _ (Option.mem_toList.1 k) rfl)
    have hL : (all ++ zeros ((i + 1) * 512 - all.length)).length = max all.length ((i + 1) * 512) := by rw [List.length_append, zeros_length]; omega
    generalize hall : all ++ zeros ((i + 1) * 512 - all.length) = al at hown1 hL
    have hbl : (bytesV al).length = al.length := bytesV_length al
    obtain ⟨g, cap, rest, rfl, _, hg, hc, hn, hm63⟩ := hown1.blk (by omega)
    refine KW.seq (KW.regionH 5 (by kernel_rfl) (by kernel_rfl) ?_)
    refine HW.val rfl rfl (EX.move rfl) ?_
    refine HW.val rfl rfl (EX.load Tryz.underlying3 rfl rfl (hbi1.cell_of rfl)) ?_
    refine HW.val rfl rfl (by first | exact EX.mulN (b := 512) (m := 9223372036854775807) rfl rfl rfl (by omega) | exact EX.mulZ (m := 9223372036854775807) rfl rfl rfl rfl (by omega)) ?_
    refine HW.val rfl rfl (EX.ownLE Tryz.underlying54 ti5 rfl rfl (by omega)) ?_
    refine HW.val rfl rfl (EX.load Tryz.underlying9 rfl rfl (hbs1.cell_of rfl)) ?_
    refine HW.tail ?_
    refine OW.copyS rfl rfl Tryz.underlying54 Tryz.underlying9 ti5 rfl rfl (by omega) (hg) (by simp [bytesV]; omega) ?_
    rintro w2 hg2 hm2
    refine OW.nil ?_
    refine KW.seq (KW.region ?_)
    refine OW.val rfl rfl (EX.move rfl) ?_
    refine OW.val rfl rfl (EX.assign rfl) ?_
    refine OW.nil ?_
    refine KW.ret (ret1 rfl rfl ?_)
    have e : (Ch.write i s).ap all = al.take (i * 512) ++ s ++ al.drop (i * 512 + s.length) := by simp only [Ch.ap, hall]
    have e2 : ((Ch.write i s).ap all).length = al.length := by rw [e]; simp only [List.length_append, List.length_take, List.length_drop]; omega
    refine ⟨?_, ?_, hv⟩
    · rw [e2]
      refine ⟨by rw [bytesV_length, e2]; simp, .inr ⟨g, cap, rest, rfl, Nat.zero_le _, ?_, by rw [bytesV_length, e2, ← hbl]; exact hc, hn, hm63⟩⟩
      have e3 : (bytesV al ++ rest).take (i * 512) ++ bytesV s ++ (bytesV al ++ rest).drop (i * 512 + s.length) = bytesV ((Ch.write i s).ap all) ++ rest := by
        rw [e, List.take_append_of_le_length (by omega), List.drop_append_of_le_length (by omega)]
        simp [bytesV, List.map_take, List.map_drop]
      rw [← e3]
      exact hg2
    · have hm2' : Mo w1 w2 [g] := (Mo.of_ext (Ext.drew w1) _).trans hm2
      refine ((hm.mono (fun k hk => List.mem_cons_of_mem g hk)).trans (hm2'.mono (by simp))).fresh ?_
      intro k hk hlt
      rcases List.mem_cons.1 hk with rfl | hk
      · rcases hv with e | ⟨g', e, hge⟩
        · rw [← e]; simp [Value.ownBlock]
        · simp [Value.ownBlock] at e; omega
      · exact hk
end Go.Proofs.YthgfdpcpbghkpaaGreatDoor
/- disk: the device in memory, and its methods. -/
namespace Go.Proofs.YthgfdpcpbghkpaaGreatDoor
set_option linter.unnecessarySimpa false
set_option linter.unusedSimpArgs false
open Go.RowKit Dsk
set_option linter.unusedVariables false

def boolsV (l : List Bool) : List Value := l.map fun b => .bool b
theorem boolsV_length (l : List Bool) : (boolsV l).length = l.length := by simp [boolsV]
theorem boolsV_one (l : List Bool) : ∀ u ∈ boolsV l, u.oneCell' = true := by
  intro u hu
  obtain ⟨_, _, rfl⟩ := List.mem_map.1 hu
  rfl
/-- a change's closure: its variables lie in boxes of their own -/
def ChV (w : World) : Ch → Value → Prop
  | .write i s, v => ∃ bi bs : Nat, v = .func (.func 53) (List.toArray []) (List.toArray [.pointer (some ⟨bi, 0, none⟩), .pointer (some ⟨bs, 0, none⟩)]) ∧ Bk w bi 3 [.int .i64 (i : Int)] ∧ Bk w bs 9 [str s]
  | .cut n, v => False
def ChVs (w : World) : List Ch → List Value → Prop
  | [], [] => True
  | c :: cs, v :: vs => ChV w c v ∧ ChVs w cs vs
  | _, _ => False
theorem ChV.tm {w w' : World} {B : Nat} {p : TypeId → Bool} (h : Tm w w' B p) (hi : p 3 = false) (hs : p 9 = false) : ∀ {c : Ch} {v : Value}, ChV w c v → ChV w' c v
  | .write i s, v, ⟨bi, bs, e, h1, h2⟩ => ⟨bi, bs, e, h.bk h1 hi, h.bk h2 hs⟩
  | .cut n, v, h1 => (h1 : False).elim
theorem ChV.one {w : World} : ∀ {c : Ch} {v : Value}, ChV w c v → v.oneCell' = true
  | .write i s, v, ⟨bi, bs, e, h1, h2⟩ => by rw [e]; rfl
  | .cut n, v, h1 => (h1 : False).elim
theorem ChVs.tm {w w' : World} {B : Nat} {p : TypeId → Bool} (h : Tm w w' B p) (hi : p 3 = false) (hs : p 9 = false) : ∀ {cs : List Ch} {vs : List Value}, ChVs w cs vs → ChVs w' cs vs
  | [], [], _ => trivial
  | c :: cs, v :: vs, ⟨h1, h2⟩ => ⟨h1.tm h hi hs, ChVs.tm h hi hs h2⟩
  | [], _ :: _, h => h.elim
  | _ :: _, [], h => h.elim
theorem ChVs.len {w : World} : ∀ {cs : List Ch} {vs : List Value}, ChVs w cs vs → vs.length = cs.length
  | [], [], _ => rfl
  | c :: cs, v :: vs, ⟨_, h2⟩ => by simp [ChVs.len h2]
  | [], _ :: _, h => h.elim
  | _ :: _, [], h => h.elim
theorem ChVs.snoc {w : World} : ∀ {cs : List Ch} {vs : List Value} {c : Ch} {v : Value}, ChVs w cs vs → ChV w c v → ChVs w (cs ++ [c]) (vs ++ [v])
  | [], [], _, _, _, h => ⟨h, trivial⟩
  | c :: cs, v :: vs, _, _, ⟨h1, h2⟩, h => ⟨h1, ChVs.snoc h2 h⟩
  | [], _ :: _, _, _, h, _ => h.elim
  | _ :: _, [], _, _, h, _ => h.elim
theorem ChVs.at_ {w : World} : ∀ {cs : List Ch} {vs : List Value}, ChVs w cs vs → ∀ (j : Nat) (hj : j < cs.length), ∃ v, vs[j]? = some v ∧ ChV w cs[j] v
  | [], [], _, j, hj => by simp at hj
  | c :: cs, v :: vs, ⟨h1, h2⟩, 0, hj => ⟨v, rfl, h1⟩
  | c :: cs, v :: vs, ⟨h1, h2⟩, j + 1, hj => by
    obtain ⟨u, h3, h4⟩ := ChVs.at_ h2 j (by simpa using hj)
    exact ⟨u, by simpa using h3, by simpa using h4⟩
  | [], _ :: _, h, _, _ => h.elim
  | _ :: _, [], h, _, _ => h.elim
/-- the device in memory -/
structure Dev (w : World) (B b : Nat) (D : Dv) (vk vn vp vq : Value) (vs : List Value) : Prop where
  lo : B ≤ b
  cells : Bk w b 109 [.int .i64 (D.cap : Int), vk, vn, vp, .int .i64 (D.at_ : Int), vq, .bool D.dead, .int .i64 (D.calls : Int)]
  kept : Own w B 5 1 vk D.kept.length (bytesV D.kept)
  now : Own w B 5 1 vn D.now.length (bytesV D.now)
  apart : ∀ k, vk.ownBlock = some k → vn.ownBlock ≠ some k
  pend : Own w B 139 1 vp D.pend.length vs
  chs : ChVs w D.pend vs
  keep : Own w B 4 1 vq D.keep.length (boolsV D.keep)
def DevAt (w : World) (B b : Nat) (D : Dv) : Prop := ∃ vk vn vp vq vs, Dev w B b D vk vn vp vq vs
/-- the types of what a device's call changes -/
def dty (T : TypeId) : Bool := T == 109 || T == 139 || T == 5
theorem DevAt.ext {w w' : World} {B b : Nat} {D : Dv} (h : DevAt w B b D) (hx : Ext w w') : DevAt w' B b D := by
  obtain ⟨vk, vn, vp, vq, vs, h1, h2, h3, h4, h5, h6, h7, h8⟩ := h
  exact ⟨vk, vn, vp, vq, vs, h1, h2.ext hx, h3.ext hx, h4.ext hx, h5, h6.ext hx, h7.tm (Tm.of_ext hx 0 (fun _ => false)) rfl rfl, h8.ext hx⟩
theorem DevAt.lt {w : World} {B b : Nat} {D : Dv} (h : DevAt w B b D) : B ≤ b ∧ b < w.heap.size := by
  obtain ⟨vk, vn, vp, vq, vs, h⟩ := h
  exact ⟨h.lo, h.cells.lt⟩

/-! ### What tells and changes nothing -/
section
variable {w : World} {B b : Nat} {D : Dv}
theorem none_d (h : DevAt w B b D) (hD : D.Ok) : Ret Tryz.prog 50 [.pointer (some ⟨b, 0, none⟩)] w fun v w' => v = .bool false ∧ w = w' := by
  obtain ⟨vk, vn, vp, vq, vs, h⟩ := h
  have hc := hD.cap
  refine Ret.enter Tryz.func50 rfl Tryz.ntmps50 (by kernel_rfl) rfl ?_
  refine KW.seq (KW.region ?_)
  refine OW.val rfl rfl (EX.assign rfl) ?_
  refine OW.nil ?_
  refine KW.seq ?_
  refine KW.region ?_
  refine OW.val rfl rfl (EX.move rfl) ?_
  refine OW.val rfl rfl (by first | exact EX.eqlP1 Tryz.underlying41 rfl rfl | exact EX.eqlP0 Tryz.underlying41 rfl rfl) ?_
  refine OW.val rfl rfl (EX.move rfl) ?_
  refine OW.val rfl rfl (EX.move rfl) ?_
  refine OW.val rfl rfl (EX.nilCheck rfl) ?_
  refine OW.val rfl rfl (EX.fieldAddr (off := 0) Tryz.underlying109 rfl rfl ti3 rfl rfl) ?_
  refine OW.val rfl rfl (EX.load Tryz.underlying3 rfl rfl (h.cells.cell_of rfl)) ?_
  refine OW.val rfl rfl (by first | exact EX.eqlN (b := 0) rfl rfl | exact EX.eqlZ rfl rfl) ?_
  refine OW.val rfl rfl (EX.pickF rfl rfl) ?_
  refine OW.val rfl rfl (EX.assign rfl) ?_
  refine OW.nil ?_
  refine KW.as 2 (.bool false) rfl (congrArg Value.bool (decide_eq_false (by omega))) ?_
  refine KW.ret (ret1 rfl rfl ?_)
  exact ⟨by simp, rfl⟩
theorem none_n (w : World) : Ret Tryz.prog 50 [.pointer none] w fun v w' => v = .bool true ∧ w = w' := by
  refine Ret.enter Tryz.func50 rfl Tryz.ntmps50 (by kernel_rfl) rfl ?_
  refine KW.seq (KW.region ?_)
  refine OW.val rfl rfl (EX.assign rfl) ?_
  refine OW.nil ?_
  refine KW.seq ?_
  refine KW.region ?_
  refine OW.val rfl rfl (EX.move rfl) ?_
  refine OW.val rfl rfl (by first | exact EX.eqlP1 Tryz.underlying41 rfl rfl | exact EX.eqlP0 Tryz.underlying41 rfl rfl) ?_
  refine OW.val rfl rfl (EX.move rfl) ?_
  refine OW.pass rfl rfl ?_
  refine OW.pass rfl rfl ?_
  refine OW.pass rfl rfl ?_
  refine OW.pass rfl rfl ?_
  refine OW.pass rfl rfl ?_
  refine OW.val rfl rfl (EX.pickT rfl rfl) ?_
  refine OW.val rfl rfl (EX.assign rfl) ?_
  refine OW.nil ?_
  refine KW.ret (ret1 rfl rfl ?_)
  exact ⟨rfl, rfl⟩
theorem alive_d (h : DevAt w B b D) (hD : D.Ok) : Ret Tryz.prog 51 [.pointer (some ⟨b, 0, none⟩)] w fun v w' => v = .int .i64 ((if D.dead then 190 else 0 : Nat) : Int) ∧ w = w' := by
  have h0 := h
  obtain ⟨vk, vn, vp, vq, vs, h⟩ := h
  refine Ret.enter Tryz.func51 rfl Tryz.ntmps51 (by kernel_rfl) rfl ?_
  refine KW.seq (KW.region ?_)
  refine OW.val rfl rfl (EX.assign rfl) ?_
  refine OW.nil ?_
  refine KW.seq (KW.block (KW.seq (KW.region ?_)))
  refine OW.val rfl rfl (EX.move rfl) ?_
  refine OW.call rfl rfl rfl (none_d h0 hD) ?_
  rintro _ _ ⟨rfl, rfl⟩
  refine OW.val rfl rfl (EX.assign rfl) ?_
  refine OW.nil ?_
  refine KW.condF rfl (KW.seq (KW.region ?_))
  refine OW.val rfl rfl (EX.move rfl) ?_
  refine OW.val rfl rfl (EX.nilCheck rfl) ?_
  refine OW.val rfl rfl (EX.fieldAddr (off := 6) Tryz.underlying109 rfl rfl ti4 rfl rfl) ?_
  refine OW.val rfl rfl (EX.load Tryz.underlying4 rfl rfl (h.cells.cell_of rfl)) ?_
  refine OW.val rfl rfl (EX.assign rfl) ?_
  refine OW.nil ?_
  refine KW.cond rfl (fun hd => ?_) (fun hd => ?_)
  · refine KW.seq (KW.region ?_)
    refine OW.val rfl rfl (EX.assign rfl) ?_
    refine OW.nil ?_
    refine KW.ret (ret1 rfl rfl ?_)
    rw [hd]
    exact ⟨rfl, rfl⟩
  · refine KW.skip (KW.leave (KW.seq (KW.region ?_)))
    refine OW.val rfl rfl (EX.assign rfl) ?_
    refine OW.nil ?_
    refine KW.ret (ret1 rfl rfl ?_)
    rw [hd]
    exact ⟨rfl, rfl⟩
theorem alive_n (w : World) : Ret Tryz.prog 51 [.pointer none] w fun v w' => v = .int .i64 ((1 : Nat) : Int) ∧ w = w' := by
  refine Ret.enter Tryz.func51 rfl Tryz.ntmps51 (by kernel_rfl) rfl ?_
  refine KW.seq (KW.region ?_)
  refine OW.val rfl rfl (EX.assign rfl) ?_
  refine OW.nil ?_
  refine KW.seq (KW.block (KW.seq (KW.region ?_)))
  refine OW.val rfl rfl (EX.move rfl) ?_
  refine OW.call rfl rfl rfl (none_n w) ?_
  rintro _ _ ⟨rfl, rfl⟩
  refine OW.val rfl rfl (EX.assign rfl) ?_
  refine OW.nil ?_
  refine KW.condT rfl (KW.seq (KW.region ?_))
  refine OW.val rfl rfl (EX.assign rfl) ?_
  refine OW.nil ?_
  refine KW.ret (ret1 rfl rfl ?_)
  exact ⟨rfl, rfl⟩
end
/-! ### Changes -/
theorem chV_call {w : World} {c : Ch} {v : Value} (h : ChV w c v) {cap : Nat} (hok : c.ok cap) (hcap : cap ≤ 4096) {u : Value} {all : List UInt8} (hown : Own w 0 5 1 u all.length (bytesV all)) (hl : all.length ≤ 100000000) :
    ∃ (f : FuncId) (cs : List Value), v = .func (.func f) (List.toArray []) (List.toArray cs) ∧ Ret Tryz.prog f ([u] ++ cs) w fun v' w' => Chd w w' u v' (c.ap all) := by
  cases c with
  | write i s =>
    obtain ⟨bi, bs, rfl, h1, h2⟩ := h
    exact ⟨_, _, rfl, write1_c bi bs i s u all w h1 h2 hown (by have := hok.1; omega) hok.2 (by omega)⟩
  | cut n =>
    exact (h : False).elim
section
variable {w w' : World} {B b : Nat} {D D' : Dv} {vk vn vp vq vk' vn' vp' vq' : Value} {vs vs' : List Value}
/-- the device's own cells are stored -/
theorem Dev.after {l0 : List Value} (hlo : B ≤ b) (h0 : Bk w b 109 l0) (hm : Mo w w' [b])
    (hb : Bk w' b 109 [.int .i64 (D'.cap : Int), vk', vn', vp', .int .i64 (D'.at_ : Int), vq', .bool D'.dead, .int .i64 (D'.calls : Int)])
    (hk : Own w B 5 1 vk' D'.kept.length (bytesV D'.kept)) (hn : Own w B 5 1 vn' D'.now.length (bytesV D'.now)) (ha : ∀ k, vk'.ownBlock = some k → vn'.ownBlock ≠ some k)
    (hp : Own w B 139 1 vp' D'.pend.length vs') (hc : ChVs w D'.pend vs') (hq : Own w B 4 1 vq' D'.keep.length (boolsV D'.keep)) : Dev w' B b D' vk' vn' vp' vq' vs' := by
  have tm := Tm.set h0 hm hlo
  exact ⟨hlo, hb, tm.own hk rfl, tm.own hn rfl, ha, tm.own hp rfl, hc.tm tm rfl rfl, tm.own hq rfl⟩
theorem Dev.tmD {l0 : List Value} (hlo : B ≤ b) (h0 : Bk w b 109 l0) (hm : Mo w w' [b]) : Tm w w' B dty := (Tm.set h0 hm hlo).mono fun T hT => by simp at hT; simp [dty, hT]
theorem Dev.ext (h : Dev w B b D vk vn vp vq vs) (hx : Ext w w') : Dev w' B b D vk vn vp vq vs :=
  ⟨h.lo, h.cells.ext hx, h.kept.ext hx, h.now.ext hx, h.apart, h.pend.ext hx, h.chs.tm (Tm.of_ext hx 0 (fun _ => false)) rfl rfl, h.keep.ext hx⟩
end
theorem Own.noneEmpty {w : World} {B T n c : Nat} {xs : List Value} {A : Option Addr} (h : Own w B T 1 (.slice A n c) n xs) : A = none → xs = [] := by
  rintro rfl
  rcases h.2 with ⟨e, rfl⟩ | ⟨g, cap, rest, e, _⟩
  · exact List.eq_nil_of_length_eq_zero (by simpa using h.1)
  · simp at e
theorem does_go {D : Dv} {c : Option Ch} (h : (D.pushed c).at_ ≠ 1) : D.does c = (Dv.done { D.pushed c with at_ := (D.pushed c).at_ - 1 } c, 0) := by
  unfold Dv.does
  simp only
  split
  · rename_i h0
    have : ({ D.pushed c with at_ := (D.pushed c).at_ - 1 } : Dv) = D.pushed c := by
      generalize D.pushed c = E at h0
      cases E
      simp at h0
      simp [h0]
    rw [this]
  · first | rfl | rw [if_neg h]
theorem does_fall {D : Dv} {c : Option Ch} (h : (D.pushed c).at_ = 1) : D.does c = ({ D.pushed c with kept := fallen (D.pushed c).pend (D.pushed c).keep (D.pushed c).kept, now := fallen (D.pushed c).pend (D.pushed c).keep (D.pushed c).kept, pend := [], at_ := 0, keep := [], dead := true }, 190) := by
  unfold Dv.does
  simp only
  rw [if_neg (by omega), if_pos h]
theorem fallen_step {cs : List Ch} {bs : List Bool} {all : List UInt8} {k : Nat} (h : k < cs.length) : fallen (cs.take (k + 1)) bs all = if bs.getD k false then (cs[k]).ap (fallen (cs.take k) bs all) else fallen (cs.take k) bs all := by
  have e : cs.take (k + 1) = cs.take k ++ [cs[k]] := by rw [List.take_add_one, List.getElem?_eq_getElem h]; rfl
  rw [e, fallen_snoc, List.length_take, Nat.min_eq_left (by omega)]
theorem does_c {w : World} {B b : Nat} {D : Dv} (h0 : DevAt w B b D) (hD : D.Ok) (vc : Value) (c : Option Ch) (hcn : c = none → vc = .nilFunc) (hcs : ∀ d, c = some d → ChV w d vc ∧ d.ok D.cap)
    (hcalls : D.calls ≤ 1000000) (hpl : D.pend.length ≤ 1000000) (hat : D.at_ ≤ 9223372036854775807) (hkl : D.keep.length ≤ 140737488355328) :
    Ret Tryz.prog 52 [.pointer (some ⟨b, 0, none⟩), vc] w fun v w' => v = .int .i64 (((D.does c).2 : Nat) : Int) ∧ DevAt w' B b (D.does c).1 ∧ Tm w w' B dty := by
  have hq : vc = .nilFunc ∧ c.isSome = false ∨ ∃ f fi ca, vc = .func f fi ca ∧ c.isSome = true := by
    cases c with
    | none => exact .inl ⟨hcn rfl, rfl⟩
    | some d =>
      obtain ⟨h1, _⟩ := hcs d rfl
      cases d with
      | write i s => obtain ⟨bi, bs, e, _⟩ := h1; exact .inr ⟨_, _, _, e, rfl⟩
      | cut n => exact (h1 : False).elim
  have hE := pushed_ok hD (fun d hd => (hcs d hd).2)
  have hlt := h0.lt
  obtain ⟨vk, vn, vp, vq, vs, h⟩ := h0
  have hvl := h.chs.len
  refine Ret.enter Tryz.func52 rfl Tryz.ntmps52 (by kernel_rfl) rfl ?_
  refine KW.seq (KW.region ?_)
  refine OW.val rfl rfl (EX.assign rfl) ?_
  refine OW.nil ?_
  refine KW.seq (KW.seq (KW.region ?_))
  refine OW.val rfl rfl (EX.move rfl) ?_
  refine OW.val rfl rfl (EX.neqFb Tryz.underlying139 rfl rfl hq) ?_
  refine OW.nil ?_
  refine KW.cut3 (fun (w1 : World) (vp1 : Value) (vs1 : List Value) => Dev w1 B b (D.pushed c) vk vn vp1 vq vs1 ∧ Tm w w1 B dty) (fun (w1 : World) (vp1 : Value) (vs1 : List Value) => [(0, .pointer (some ⟨b, 0, none⟩)), (1, vc)]) (fun (w1 : World) (vp1 : Value) (vs1 : List Value) => w1) ?_ ?_
  · refine KW.cond rfl (fun hc => ?_) (fun hc => ?_)
    · obtain ⟨ch, rfl⟩ := Option.isSome_iff_exists.1 hc
      have hv := (hcs ch rfl).1
      have hv1 := hv.one
      refine KW.region ?_
      refine OW.val rfl rfl (EX.move rfl) ?_
      refine OW.val rfl rfl (EX.move rfl) ?_
      refine OW.val rfl rfl (EX.nilCheck rfl) ?_
      refine OW.val rfl rfl (EX.fieldAddr (off := 3) Tryz.underlying109 rfl rfl ti107 rfl rfl) ?_
      refine OW.val rfl rfl (EX.load Tryz.underlying107 rfl rfl (h.cells.cell_of rfl)) ?_
      refine OW.val rfl rfl (EX.move rfl) ?_
      refine OW.buildB 1 rfl rfl Tryz.underlying107 ti139 rfl rfl rfl rfl (by first | rfl | (simp only [List.all_cons, List.all_nil, Bool.and_true, Bool.and_eq_true]; assumption)) (by decide) ?_
      rintro bq w2 hge hb2 hx2
      have h2 := h.ext hx2
      refine OW.append 0 rfl rfl Tryz.underlying107 ti139 rfl (by decide) rfl rfl ((h2.pend.more (Nat.zero_le _))) (Src.of_sl Tryz.underlying107 hb2.sl (by simp) (by simp [hv1]) (by decide)) (by simp only [maxLen]; omega) (by omega) (Nat.zero_le _) ?_
      rintro v3 w3 hown3 hg3 hv3
      refine OW.val rfl rfl (EX.nilCheck rfl) ?_
      refine OW.val rfl rfl (EX.fieldAddr (off := 3) Tryz.underlying109 rfl rfl ti107 rfl rfl) ?_
      have t3 : Tm w2 w3 B (fun U => U == 139) := Tm.grown h2.pend hg3
      have hd3 := t3.bk h2.cells rfl
      have hown3' : Own w3 B 139 1 v3 (D.pend.length + 1) (vs ++ [vc]) := hown3.base (by
        intro k hk
        rcases hv3 with e | e
        · exact (h2.pend.lt k (by rw [← e]; exact hk)).1
        · rw [e] at hk; injection hk with hk; have := hx2.size; omega)
      have hv31 := hown3.one
      refine OW.storeB rfl ti107 rfl rfl (by first | rfl | assumption | exact Own.one (by assumption)) (hd3) (by simp) ?_
      rintro w4 hb4 hm4
      refine OW.nil ?_
      refine KW.meet3 (w4) (v3) (vs ++ [vc]) ⟨rfl, rfl, trivial⟩ rfl ?_
      refine ⟨Dev.after (D' := D.pushed (some ch)) h.lo hd3 hm4 hb4 (t3.own h2.kept rfl) (t3.own h2.now rfl) h.apart ?_ ((h2.chs.tm t3 rfl rfl).snoc ((hv.tm (Tm.of_ext hx2 0 (fun _ => false)) rfl rfl).tm t3 rfl rfl)) (t3.own h2.keep rfl), ?_⟩
      · have : (D.pushed (some ch)).pend.length = D.pend.length + 1 := by simp [Dv.pushed]
        rw [this]; exact hown3'
      · exact ((Tm.of_ext hx2 B dty).trans (t3.mono fun T hT => by simp at hT; simp [dty, hT])).trans (Dev.tmD h.lo hd3 hm4)
    · obtain rfl : c = none := by cases c; rfl; simp at hc
      refine KW.skip ?_
      refine KW.meet3 (w) (vp) (vs) ⟨rfl, rfl, trivial⟩ rfl ?_
      exact ⟨h, Tm.refl _ _ _⟩
  · rintro w1 vp1 vs1 ⟨h1, ht1⟩
    generalize hEd : D.pushed c = E at h1 hE
    have hEc : E.cap = D.cap := by rw [← hEd, pushed_cap]
    have hEat : E.at_ = D.at_ := by rw [← hEd]; cases c <;> rfl
    have hEk : E.keep = D.keep := by rw [← hEd]; cases c <;> rfl
    have hEl : E.pend.length ≤ 1000001 := by
      rw [← hEd]
      cases c with
      | none => exact Nat.le_succ_of_le hpl
      | some c => simp [Dv.pushed]; omega
    have hvl1 := h1.chs.len
    refine KW.seq (KW.seq (KW.region ?_))
    refine OW.val rfl rfl (EX.move rfl) ?_
    refine OW.val rfl rfl (EX.nilCheck rfl) ?_
    refine OW.val rfl rfl (EX.fieldAddr (off := 4) Tryz.underlying109 rfl rfl ti49 rfl rfl) ?_
    refine OW.val rfl rfl (EX.fieldAddr (off := 0) Tryz.underlying49 rfl rfl ti3 rfl rfl) ?_
    refine OW.val rfl rfl (EX.load Tryz.underlying3 rfl rfl (h1.cells.cell_of rfl)) ?_
    refine OW.val rfl rfl (by first | exact EX.gtrN (b := 0) rfl rfl | exact EX.gtrZ rfl rfl) ?_
    refine OW.nil ?_
    refine KW.cut1 (fun (w2 : World) => Dev w2 B b { E with at_ := E.at_ - 1 } vk vn vp1 vq vs1 ∧ Tm w w2 B dty ∧ E.at_ ≠ 1) (fun (w2 : World) => [(0, .pointer (some ⟨b, 0, none⟩)), (1, vc)]) (fun (w2 : World) => w2) ?_ ?_
    · refine KW.condD rfl (fun hat1 => ?_) (fun hat1 => ?_)
      · refine KW.seq (KW.region ?_)
        refine OW.val rfl rfl (EX.move rfl) ?_
        refine OW.val rfl rfl (EX.nilCheck rfl) ?_
        refine OW.val rfl rfl (EX.fieldAddr (off := 4) Tryz.underlying109 rfl rfl ti49 rfl rfl) ?_
        refine OW.val rfl rfl (EX.fieldAddr (off := 0) Tryz.underlying49 rfl rfl ti3 rfl rfl) ?_
        refine OW.val rfl rfl (EX.load Tryz.underlying3 rfl rfl (h1.cells.cell_of rfl)) ?_
        refine OW.val rfl rfl (by first | exact EX.subN (b := 1) (m := 9223372036854775807) rfl rfl rfl (by omega) | exact EX.subZ (m := 9223372036854775807) rfl rfl rfl rfl (by omega)) ?_
        refine OW.val rfl rfl (EX.nilCheck rfl) ?_
        refine OW.val rfl rfl (EX.fieldAddr (off := 4) Tryz.underlying109 rfl rfl ti49 rfl rfl) ?_
        refine OW.val rfl rfl (EX.fieldAddr (off := 0) Tryz.underlying49 rfl rfl ti3 rfl rfl) ?_
        refine OW.storeB rfl ti3 rfl rfl (by first | rfl | assumption | exact Own.one (by assumption)) (h1.cells) (by simp) ?_
        rintro w2 hb2 hm2
        refine OW.nil ?_
        refine KW.seq (KW.region ?_)
        refine OW.val rfl rfl (EX.move rfl) ?_
        refine OW.val rfl rfl (EX.nilCheck rfl) ?_
        refine OW.val rfl rfl (EX.fieldAddr (off := 4) Tryz.underlying109 rfl rfl ti49 rfl rfl) ?_
        refine OW.val rfl rfl (EX.fieldAddr (off := 0) Tryz.underlying49 rfl rfl ti3 rfl rfl) ?_
        have h2 : Dev w2 B b { E with at_ := E.at_ - 1 } vk vn vp1 vq vs1 := Dev.after h1.lo h1.cells hm2 hb2 h1.kept h1.now h1.apart h1.pend h1.chs h1.keep
        have ht2 : Tm w w2 B dty := ht1.trans (Dev.tmD h1.lo h1.cells hm2)
        refine OW.val rfl rfl (EX.load Tryz.underlying3 rfl rfl (h2.cells.cell_of rfl)) ?_
        refine OW.val rfl rfl (by first | exact EX.eqlN (b := 0) rfl rfl | exact EX.eqlZ rfl rfl) ?_
        refine OW.nil ?_
        refine KW.condD rfl (fun hz => ?_) (fun hz => ?_)
        · have hz1 : E.at_ = 1 := by have : E.at_ - 1 = 0 := hz; omega
          obtain ⟨A, cp, rfl, hcp, hslp⟩ := h2.pend.slice
          obtain ⟨Aq, cq, rfl, hcq, hslq⟩ := h2.keep.slice
          have hkk : E.keep.length ≤ 140737488355328 := by rw [hEk]; exact hkl
          refine KW.seq (KW.seq (KW.region ?_))
          refine OW.val rfl rfl (EX.move rfl) ?_
          refine OW.val rfl rfl (EX.nilCheck rfl) ?_
          refine OW.val rfl rfl (EX.fieldAddr (off := 3) Tryz.underlying109 rfl rfl ti107 rfl rfl) ?_
          refine OW.val rfl rfl (EX.load Tryz.underlying107 rfl rfl (h2.cells.cell_of rfl)) ?_
          refine OW.val rfl rfl (EX.lenA Tryz.underlying107 rfl) ?_
          refine OW.val rfl rfl (EX.move rfl) ?_
          refine OW.nil ?_
          refine KW.block ?_
          refine KW.loop4 (fun (k : Nat) (vkr : Value) (all : List UInt8) (wr : World) => k ≤ E.pend.length ∧ all = fallen (E.pend.take k) E.keep E.kept ∧ all.length ≤ 512 * E.cap ∧ Dev wr B b { E with at_ := 0, kept := all } vkr vn (.slice A E.pend.length cp) (.slice Aq E.keep.length cq) vs1 ∧ Tm w wr B dty) (fun (k : Nat) (vkr : Value) (all : List UInt8) (wr : World) => [(0, .pointer (some ⟨b, 0, none⟩)), (43, .slice A E.pend.length cp), (44, .int .i64 ((E.pend.length : Nat) : Int)), (45, .int .i64 ((k : Nat) : Int))]) (fun (k : Nat) (vkr : Value) (all : List UInt8) (wr : World) => wr) (fun (k : Nat) (vkr : Value) (all : List UInt8) (wr : World) => E.pend.length - k) (0) (vk) (E.kept) (w2) ⟨rfl, rfl, rfl, rfl, trivial⟩ rfl ?_ ?_
          · refine ⟨by omega, by simp [fallen], hE.kept, ?_, ht2⟩
            have : E.at_ - 1 = 0 := by omega
            rw [← this]
            exact h2
          · rintro k vkr all wr ⟨hk, hall, hal, hd, htr⟩
            have hcapE := hE.cap
            refine KW.seq (KW.region ?_)
            refine OW.val rfl rfl (by first | exact EX.lssN rfl rfl | exact EX.lssZ rfl rfl) ?_
            refine OW.nil ?_
            refine KW.seq ?_
            refine KW.condD rfl (fun hk1 => ?_) (fun hk1 => ?_)
            · obtain ⟨v, hv, hcv⟩ := hd.chs.at_ k hk1
              have hone := hcv.one
              obtain ⟨g, cap', rest, e, hgB, hg, hgl, hgn, hgm⟩ := hd.pend.blk (by rw [hvl1]; omega)
              simp only [Value.slice.injEq, true_and] at e
              obtain ⟨rfl, rfl⟩ := e
              have hvg : (vs1 ++ rest)[k]? = some v := by rw [List.getElem?_append_left (by rw [hvl1]; exact hk1)]; exact hv
              have hstep := fallen_step (bs := E.keep) (all := E.kept) hk1
              rw [← hall] at hstep
              refine KW.skip (KW.seq (KW.block (KW.seq (KW.region ?_))))
              refine OW.val rfl rfl (EX.move rfl) ?_
              refine OW.val rfl rfl (by first | exact EX.indexAddrS0 Tryz.underlying107 ti139 rfl rfl (by omega) | exact EX.indexAddrS1 Tryz.underlying107 ti139 rfl rfl (by omega)) ?_
              refine OW.val rfl rfl (EX.load Tryz.underlying139 rfl rfl (hg.cell_of hvg)) ?_
              refine OW.val rfl rfl (EX.assign rfl) ?_
              refine OW.val rfl rfl (EX.assign rfl) ?_
              refine OW.nil ?_
              refine KW.seq ?_
              refine KW.region ?_
              refine OW.val rfl rfl (EX.move rfl) ?_
              refine OW.val rfl rfl (EX.move rfl) ?_
              refine OW.val rfl rfl (EX.nilCheck rfl) ?_
              refine OW.val rfl rfl (EX.fieldAddr (off := 4) Tryz.underlying109 rfl rfl ti49 rfl rfl) ?_
              refine OW.val rfl rfl (EX.fieldAddr (off := 1) Tryz.underlying49 rfl rfl ti47 rfl rfl) ?_
              refine OW.val rfl rfl (EX.load Tryz.underlying47 rfl rfl (hd.cells.cell_of rfl)) ?_
              refine OW.val rfl rfl (EX.lenA Tryz.underlying47 rfl) ?_
              refine OW.val rfl rfl (by first | exact EX.lssN rfl rfl | exact EX.lssZ rfl rfl) ?_
              refine OW.val rfl rfl (EX.move rfl) ?_
              refine OW.splitD 58 rfl (fun hk2 => ?_) (fun hk2 => ?_)
              · have hgd : E.keep.getD k false = E.keep[k] := by simp [List.getD, List.getElem?_eq_getElem hk2]
                rw [hgd] at hstep
                obtain ⟨gq, capq, restq, eq, hgqB, hgq, _, _, _⟩ := hd.keep.blk (by rw [boolsV_length]; exact Nat.lt_of_le_of_lt (Nat.zero_le _) hk2)
                simp only [Value.slice.injEq, true_and] at eq
                obtain ⟨rfl, rfl⟩ := eq
                have hbg : (boolsV E.keep ++ restq)[k]? = some (.bool E.keep[k]) := by rw [List.getElem?_append_left (by rw [boolsV_length]; exact hk2)]; simp [boolsV, hk2]
                refine OW.val rfl rfl (EX.move rfl) ?_
                refine OW.val rfl rfl (EX.nilCheck rfl) ?_
                refine OW.val rfl rfl (EX.fieldAddr (off := 4) Tryz.underlying109 rfl rfl ti49 rfl rfl) ?_
                refine OW.val rfl rfl (EX.fieldAddr (off := 1) Tryz.underlying49 rfl rfl ti47 rfl rfl) ?_
                refine OW.val rfl rfl (EX.load Tryz.underlying47 rfl rfl (hd.cells.cell_of rfl)) ?_
                refine OW.val rfl rfl (EX.move rfl) ?_
                refine OW.val rfl rfl (by first | exact EX.indexAddrS0 Tryz.underlying47 ti4 rfl rfl (by omega) | exact EX.indexAddrS1 Tryz.underlying47 ti4 rfl rfl (by omega)) ?_
                refine OW.val rfl rfl (EX.load Tryz.underlying4 rfl rfl (hgq.cell_of hbg)) ?_
                refine OW.val rfl rfl (EX.pickT rfl rfl) ?_
                refine OW.nil ?_
                refine KW.cond rfl (fun hb => ?_) (fun hb => ?_)
                · rw [if_pos hb] at hstep
                  obtain ⟨f, cs, rfl, hret⟩ := chV_call hcv (hE.pend _ (List.getElem_mem hk1)) hcapE.2 (hd.kept.more (Nat.zero_le _)) (by show all.length ≤ 100000000; omega)
                  refine KW.region ?_
                  refine OW.val rfl rfl (EX.move rfl) ?_
                  refine OW.val rfl rfl (EX.move rfl) ?_
                  refine OW.val rfl rfl (EX.move rfl) ?_
                  refine OW.val rfl rfl (EX.nilCheck rfl) ?_
                  refine OW.val rfl rfl (EX.fieldAddr (off := 1) Tryz.underlying109 rfl rfl ti54 rfl rfl) ?_
                  refine OW.val rfl rfl (EX.load Tryz.underlying54 rfl rfl (hd.cells.cell_of rfl)) ?_
                  refine OW.callV rfl rfl rfl rfl rfl (hret) ?_
                  rintro v5 w5 ⟨hown5, hmo5, hbl5⟩
                  refine OW.val rfl rfl (EX.nilCheck rfl) ?_
                  refine OW.val rfl rfl (EX.fieldAddr (off := 1) Tryz.underlying109 rfl rfl ti54 rfl rfl) ?_
                  have t5 : Tm wr w5 B (fun U => U == 5) := Tm.ownMo hd.kept hmo5
                  have hone5 := hown5.one
                  have hnow5 := hd.now.mo hmo5 (fun k hk hkS => hd.apart k (Option.mem_toList.1 hkS) hk)
                  have hap5 : ∀ k, v5.ownBlock = some k → vn.ownBlock ≠ some k := by
                    intro k hk hk'
                    rcases hbl5 with e | ⟨g', e, hge⟩
                    · exact hd.apart k (by rw [← e]; exact hk) hk'
                    · rw [e] at hk; injection hk with hk; have := (hd.now.lt k hk').2; omega
                  have hbase5 : Own w5 B 5 1 v5 ((E.pend[k]).ap all).length (bytesV ((E.pend[k]).ap all)) := hown5.base (by
                    intro k hk
                    rcases hbl5 with e | ⟨g', e, hge⟩
                    · exact (hd.kept.lt k (by rw [← e]; exact hk)).1
                    · rw [e] at hk; injection hk with hk; have := hd.cells.lt; have := hd.lo; omega)
                  refine OW.storeB rfl ti54 rfl rfl (by first | rfl | assumption | exact Own.one (by assumption)) (t5.bk hd.cells rfl) (by simp) ?_
                  rintro w6 hb6 hm6
                  refine OW.nil ?_
                  refine KW.leave (KW.region ?_)
                  refine OW.val rfl rfl (by first | exact EX.addN (b := 1) (m := 9223372036854775807) rfl rfl rfl (by omega) | exact EX.addZ (m := 9223372036854775807) rfl rfl rfl rfl (by omega)) ?_
                  refine OW.val rfl rfl (EX.move rfl) ?_
                  refine OW.nil ?_
                  refine KW.back4 (k + 1) (v5) ((E.pend[k]).ap all) (w6) ⟨rfl, rfl, rfl, rfl, trivial⟩ rfl ?_ (by omega)
                  refine ⟨by omega, hstep.symm, ap_length (hE.pend _ (List.getElem_mem hk1)) hal, ?_, ?_⟩
                  · exact Dev.after (D' := { E with at_ := 0, kept := (E.pend[k]).ap all }) hd.lo (t5.bk hd.cells rfl) hm6 hb6 hbase5 hnow5 hap5 (t5.own hd.pend rfl) (hd.chs.tm t5 rfl rfl) (t5.own hd.keep rfl)
                  · exact (htr.trans (t5.mono fun T hT => by simp at hT; simp [dty, hT])).trans (Dev.tmD hd.lo (t5.bk hd.cells rfl) hm6)
                · rw [if_neg (by simp [hb])] at hstep
                  refine KW.skip (KW.leave (KW.region ?_))
                  refine OW.val rfl rfl (by first | exact EX.addN (b := 1) (m := 9223372036854775807) rfl rfl rfl (by omega) | exact EX.addZ (m := 9223372036854775807) rfl rfl rfl rfl (by omega)) ?_
                  refine OW.val rfl rfl (EX.move rfl) ?_
                  refine OW.nil ?_
                  refine KW.back4 (k + 1) (vkr) (all) (wr) ⟨rfl, rfl, rfl, rfl, trivial⟩ rfl ?_ (by omega)
                  exact ⟨by omega, hstep.symm, hal, hd, htr⟩
              · have hgd : E.keep.getD k false = false := by simp [List.getD, List.getElem?_eq_none (Nat.le_of_not_lt hk2)]
                rw [hgd] at hstep
                refine OW.pass rfl rfl ?_
                refine OW.pass rfl rfl ?_
                refine OW.pass rfl rfl ?_
                refine OW.pass rfl rfl ?_
                refine OW.pass rfl rfl ?_
                refine OW.pass rfl rfl ?_
                refine OW.pass rfl rfl ?_
                refine OW.pass rfl rfl ?_
                refine OW.val rfl rfl (EX.pickF rfl rfl) ?_
                refine OW.nil ?_
                refine KW.condF rfl (KW.skip (KW.leave (KW.region ?_)))
                refine OW.val rfl rfl (by first | exact EX.addN (b := 1) (m := 9223372036854775807) rfl rfl rfl (by omega) | exact EX.addZ (m := 9223372036854775807) rfl rfl rfl rfl (by omega)) ?_
                refine OW.val rfl rfl (EX.move rfl) ?_
                refine OW.nil ?_
                refine KW.back4 (k + 1) (vkr) (all) (wr) ⟨rfl, rfl, rfl, rfl, trivial⟩ rfl ?_ (by omega)
                exact ⟨by omega, by rw [hstep]; rfl, hal, hd, htr⟩
            · obtain rfl : k = E.pend.length := by omega
              rw [List.take_length] at hall
              obtain ⟨Ak, ck, rfl, hck, hslk⟩ := hd.kept.slice
              have hclone := cloneB_c Ak ck (bytesV all) _ wr hslk hd.kept.noneEmpty bytesV_one (by rw [bytesV_length]; omega)
              rw [bytesV_length] at hclone
              refine KW.exit rfl (KW.seq (KW.region ?_))
              refine OW.val rfl rfl (EX.move rfl) ?_
              refine OW.val rfl rfl (EX.move rfl) ?_
              refine OW.val rfl rfl (EX.move rfl) ?_
              refine OW.val rfl rfl (EX.move rfl) ?_
              refine OW.val rfl rfl (EX.move rfl) ?_
              refine OW.val rfl rfl (EX.nilCheck rfl) ?_
              refine OW.val rfl rfl (EX.fieldAddr (off := 1) Tryz.underlying109 rfl rfl ti54 rfl rfl) ?_
              refine OW.val rfl rfl (EX.load Tryz.underlying54 rfl rfl (hd.cells.cell_of rfl)) ?_
              refine OW.call rfl rfl rfl (hclone) ?_
              rintro v7 w7 ⟨hown7, hx7⟩
              refine OW.val rfl rfl (EX.buildS (pl := [(0, 1), (1, 1)]) (ks := []) (is := []) (zs := [.int .i64 0, .slice none 0 0]) Tryz.underlying49 ti49 (by kernel_rfl) rfl rfl rfl (by first | rfl | (simp only [List.all_cons, List.all_nil, Bool.and_true, Bool.true_and, Bool.and_eq_true, Value.oneCell']; repeat (first | assumption | exact Own.one (by assumption) | constructor))) (by simp only [setAll, List.set_cons_zero, List.set_cons_succ]; rfl)) ?_
              refine OW.val rfl rfl (EX.nilCheck rfl) ?_
              refine OW.val rfl rfl (EX.fieldAddr (off := 2) Tryz.underlying109 rfl rfl ti54 rfl rfl) ?_
              have hd7 := hd.ext hx7
              have hone7 := hown7.one
              refine OW.storeB rfl ti54 rfl rfl (by first | rfl | assumption | exact Own.one (by assumption)) (hd7.cells) (by simp) ?_
              rintro w8 hb8 hm8
              refine OW.val rfl rfl (EX.nilCheck rfl) ?_
              refine OW.val rfl rfl (EX.fieldAddr (off := 3) Tryz.underlying109 rfl rfl ti107 rfl rfl) ?_
              refine OW.storeB rfl ti107 rfl rfl (by first | rfl | assumption | exact Own.one (by assumption)) (hb8) (by simp) ?_
              rintro w9 hb9 hm9
              refine OW.val rfl rfl (EX.nilCheck rfl) ?_
              refine OW.val rfl rfl (EX.fieldAddr (off := 4) Tryz.underlying109 rfl rfl ti49 rfl rfl) ?_
              refine OW.storeS rfl ti49 rfl rfl rfl (by first | rfl | (simp only [List.all_cons, List.all_nil, Bool.and_true, Bool.true_and, Bool.and_eq_true, Value.oneCell']; repeat (first | assumption | exact Own.one (by assumption) | constructor))) (hb9) (by simp) ?_
              rintro w10 hb10 hm10
              refine OW.val rfl rfl (EX.nilCheck rfl) ?_
              refine OW.val rfl rfl (EX.fieldAddr (off := 6) Tryz.underlying109 rfl rfl ti4 rfl rfl) ?_
              refine OW.storeB rfl ti4 rfl rfl (by first | rfl | assumption | exact Own.one (by assumption)) (hb10) (by simp) ?_
              rintro w11 hb11 hm11
              refine OW.nil ?_
              refine KW.seq (KW.region ?_)
              refine OW.val rfl rfl (EX.assign rfl) ?_
              refine OW.nil ?_
              refine KW.ret (ret1 rfl rfl ?_)
              have hmm : Mo w7 w11 [b] := ((hm8.trans hm9).trans hm10).trans hm11
              have hEall : all = fallen (D.pushed c).pend (D.pushed c).keep (D.pushed c).kept := by rw [hEd]; exact hall
              rw [does_fall (by rw [hEd]; exact hz1), hEd, ← hall]
              refine ⟨rfl, ⟨_, _, _, _, [], Dev.after (D' := { E with kept := all, now := all, pend := [], at_ := 0, keep := [], dead := true }) hd.lo hd7.cells hmm hb11 hd7.kept (hown7.base (fun k hk => by have := (hown7.lt k hk).1; have := hd.cells.lt; have := hd.lo; omega)) ?_ (Own.nil _ _ _ _) trivial (Own.nil _ _ _ _)⟩, ?_⟩
              · intro k hk hk'
                have q1 := (hd.kept.lt k hk).2
                have q2 := (hown7.lt k hk').1
                omega
              · exact (htr.trans (Tm.of_ext hx7 B dty)).trans (Dev.tmD hd.lo hd7.cells hmm)
        · refine KW.skip ?_
          refine KW.meet1 (w2) ⟨rfl, rfl, trivial⟩ rfl ?_
          have hz1 : ¬ E.at_ - 1 = 0 := hz
          exact ⟨h2, ht2, by omega⟩
      · refine KW.skip ?_
        refine KW.meet1 (w1) ⟨rfl, rfl, trivial⟩ rfl ?_
        have e0 : E.at_ = 0 := by omega
        refine ⟨?_, ht1, by omega⟩
        have : ({ E with at_ := E.at_ - 1 } : Dv) = E := by cases E; simp at e0; simp [e0]
        rw [this]
        exact h1
    · rintro w2 ⟨h2, ht2, hne1⟩
      have hcapE := hE.cap
      have hnowE := hE.now
      rw [does_go (by rw [hEd]; exact hne1), hEd]
      refine KW.seq (KW.seq (KW.region ?_))
      refine OW.val rfl rfl (EX.move rfl) ?_
      refine OW.val rfl rfl (EX.neqFb Tryz.underlying139 rfl rfl hq) ?_
      refine OW.nil ?_
      refine KW.cond rfl (fun hc => ?_) (fun hc => ?_)
      · obtain ⟨ch, rfl⟩ := Option.isSome_iff_exists.1 hc
        have hv2 : ChV w2 ch vc := (hcs ch rfl).1.tm ht2 rfl rfl
        have hok := (hcs ch rfl).2
        obtain ⟨f, cs, rfl, hret⟩ := chV_call hv2 hok hD.cap.2 (h2.now.more (Nat.zero_le _)) (by show E.now.length ≤ 100000000; omega)
        refine KW.region ?_
        refine OW.val rfl rfl (EX.move rfl) ?_
        refine OW.val rfl rfl (EX.move rfl) ?_
        refine OW.val rfl rfl (EX.move rfl) ?_
        refine OW.val rfl rfl (EX.nilCheck rfl) ?_
        refine OW.val rfl rfl (EX.fieldAddr (off := 2) Tryz.underlying109 rfl rfl ti54 rfl rfl) ?_
        refine OW.val rfl rfl (EX.load Tryz.underlying54 rfl rfl (h2.cells.cell_of rfl)) ?_
        refine OW.callV rfl rfl rfl rfl rfl (hret) ?_
        rintro v5 w5 ⟨hown5, hmo5, hbl5⟩
        refine OW.val rfl rfl (EX.nilCheck rfl) ?_
        refine OW.val rfl rfl (EX.fieldAddr (off := 2) Tryz.underlying109 rfl rfl ti54 rfl rfl) ?_
        have t5 : Tm w2 w5 B (fun U => U == 5) := Tm.ownMo h2.now hmo5
        have hone5 := hown5.one
        have hk5 := h2.kept.mo hmo5 (fun k hk hkS => h2.apart k hk (Option.mem_toList.1 hkS))
        have hap5 : ∀ k, vk.ownBlock = some k → v5.ownBlock ≠ some k := by
          intro k hk' hk
          rcases hbl5 with e | ⟨g', e, hge⟩
          · exact h2.apart k hk' (by rw [← e]; exact hk)
          · rw [e] at hk; injection hk with hk; have := (h2.kept.lt k hk').2; omega
        have hbase5 : Own w5 B 5 1 v5 (ch.ap E.now).length (bytesV (ch.ap E.now)) := hown5.base (by
          intro k hk
          rcases hbl5 with e | ⟨g', e, hge⟩
          · exact (h2.now.lt k (by rw [← e]; exact hk)).1
          · rw [e] at hk; injection hk with hk; have := h2.cells.lt; have := h2.lo; omega)
        refine OW.storeB rfl ti54 rfl rfl (by first | rfl | assumption | exact Own.one (by assumption)) (t5.bk h2.cells rfl) (by simp) ?_
        rintro w6 hb6 hm6
        refine OW.nil ?_
        refine KW.seq (KW.region ?_)
        refine OW.val rfl rfl (EX.move rfl) ?_
        refine OW.val rfl rfl (EX.nilCheck rfl) ?_
        refine OW.val rfl rfl (EX.fieldAddr (off := 7) Tryz.underlying109 rfl rfl ti3 rfl rfl) ?_
        have hEcalls : ({ E with at_ := E.at_ - 1 } : Dv).calls ≤ 1000000 := by show E.calls ≤ 1000000; rw [← hEd]; exact hcalls
        refine OW.val rfl rfl (EX.load Tryz.underlying3 rfl rfl (hb6.cell_of rfl)) ?_
        refine OW.val rfl rfl (by first | exact EX.addN (b := 1) (m := 9223372036854775807) rfl rfl rfl (by omega) | exact EX.addZ (m := 9223372036854775807) rfl rfl rfl rfl (by omega)) ?_
        refine OW.val rfl rfl (EX.nilCheck rfl) ?_
        refine OW.val rfl rfl (EX.fieldAddr (off := 7) Tryz.underlying109 rfl rfl ti3 rfl rfl) ?_
        refine OW.storeB rfl ti3 rfl rfl (by first | rfl | assumption | exact Own.one (by assumption)) (hb6) (by simp) ?_
        rintro w7 hb7 hm7
        refine OW.nil ?_
        refine KW.seq (KW.region ?_)
        refine OW.val rfl rfl (EX.assign rfl) ?_
        refine OW.nil ?_
        refine KW.ret (ret1 rfl rfl ?_)
        have hmm : Mo w5 w7 [b] := hm6.trans hm7
        refine ⟨rfl, ⟨_, _, _, _, _, Dev.after (D' := Dv.done { E with at_ := E.at_ - 1 } (some ch)) h2.lo (t5.bk h2.cells rfl) hmm hb7 hk5 hbase5 hap5 (t5.own h2.pend rfl) (h2.chs.tm t5 rfl rfl) (t5.own h2.keep rfl)⟩, ?_⟩
        exact (ht2.trans (t5.mono fun T hT => by simp at hT; simp [dty, hT])).trans (Dev.tmD h2.lo (t5.bk h2.cells rfl) hmm)
      · obtain rfl : c = none := by cases c; rfl; simp at hc
        obtain ⟨An, cn, rfl, hcn2, hsln⟩ := h2.now.slice
        have hclone := cloneB_c An cn (bytesV E.now) _ w2 hsln h2.now.noneEmpty bytesV_one (by rw [bytesV_length]; omega)
        rw [bytesV_length] at hclone
        have hEcalls : ({ E with at_ := E.at_ - 1 } : Dv).calls ≤ 1000000 := by show E.calls ≤ 1000000; rw [← hEd]; exact hcalls
        refine KW.region ?_
        refine OW.val rfl rfl (EX.move rfl) ?_
        refine OW.val rfl rfl (EX.move rfl) ?_
        refine OW.val rfl rfl (EX.move rfl) ?_
        refine OW.val rfl rfl (EX.nilCheck rfl) ?_
        refine OW.val rfl rfl (EX.fieldAddr (off := 2) Tryz.underlying109 rfl rfl ti54 rfl rfl) ?_
        refine OW.val rfl rfl (EX.load Tryz.underlying54 rfl rfl (h2.cells.cell_of rfl)) ?_
        refine OW.call rfl rfl rfl (hclone) ?_
        rintro v7 w7 ⟨hown7, hx7⟩
        refine OW.val rfl rfl (EX.nilCheck rfl) ?_
        refine OW.val rfl rfl (EX.fieldAddr (off := 1) Tryz.underlying109 rfl rfl ti54 rfl rfl) ?_
        have hd7 := h2.ext hx7
        have hone7 := hown7.one
        refine OW.storeB rfl ti54 rfl rfl (by first | rfl | assumption | exact Own.one (by assumption)) (hd7.cells) (by simp) ?_
        rintro w8 hb8 hm8
        refine OW.val rfl rfl (EX.nilCheck rfl) ?_
        refine OW.val rfl rfl (EX.fieldAddr (off := 3) Tryz.underlying109 rfl rfl ti107 rfl rfl) ?_
        refine OW.storeB rfl ti107 rfl rfl (by first | rfl | assumption | exact Own.one (by assumption)) (hb8) (by simp) ?_
        rintro w9 hb9 hm9
        refine OW.nil ?_
        refine KW.seq (KW.region ?_)
        refine OW.val rfl rfl (EX.move rfl) ?_
        refine OW.val rfl rfl (EX.nilCheck rfl) ?_
        refine OW.val rfl rfl (EX.fieldAddr (off := 7) Tryz.underlying109 rfl rfl ti3 rfl rfl) ?_
        refine OW.val rfl rfl (EX.load Tryz.underlying3 rfl rfl (hb9.cell_of rfl)) ?_
        refine OW.val rfl rfl (by first | exact EX.addN (b := 1) (m := 9223372036854775807) rfl rfl rfl (by omega) | exact EX.addZ (m := 9223372036854775807) rfl rfl rfl rfl (by omega)) ?_
        refine OW.val rfl rfl (EX.nilCheck rfl) ?_
        refine OW.val rfl rfl (EX.fieldAddr (off := 7) Tryz.underlying109 rfl rfl ti3 rfl rfl) ?_
        refine OW.storeB rfl ti3 rfl rfl (by first | rfl | assumption | exact Own.one (by assumption)) (hb9) (by simp) ?_
        rintro w10 hb10 hm10
        refine OW.nil ?_
        refine KW.seq (KW.region ?_)
        refine OW.val rfl rfl (EX.assign rfl) ?_
        refine OW.nil ?_
        refine KW.ret (ret1 rfl rfl ?_)
        have hmm : Mo w7 w10 [b] := (hm8.trans hm9).trans hm10
        refine ⟨rfl, ⟨_, _, _, _, [], Dev.after (D' := Dv.done { E with at_ := E.at_ - 1 } none) h2.lo hd7.cells hmm hb10 (hown7.base (fun k hk => by have := (hown7.lt k hk).1; have := h2.cells.lt; have := h2.lo; omega)) hd7.now ?_ (Own.nil _ _ _ _) trivial hd7.keep⟩, ?_⟩
        · intro k hk hk'
          have q1 := (h2.now.lt k hk').2
          have q2 := (hown7.lt k hk).1
          omega
        · exact (ht2.trans (Tm.of_ext hx7 B dty)).trans (Dev.tmD h2.lo hd7.cells hmm)
end Go.Proofs.YthgfdpcpbghkpaaGreatDoor
