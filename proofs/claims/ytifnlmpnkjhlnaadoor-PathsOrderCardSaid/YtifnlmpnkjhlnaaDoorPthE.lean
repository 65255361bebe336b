/-
  paths: parts, comparisons, Split, Under, by the program and by the document.
-/
import Derived.Test.YtifnlmpnkjhlnaaDoorPthC
import Derived.Test.YtifnlmpnkjhlnaaDoorPthM
namespace Go.Proofs.YtifnlmpnkjhlnaaDoor
open Go.RowKit Pth
set_option linter.unusedVariables false
set_option linter.unusedSimpArgs false

/-- what strings.Split asks of the world: a variable of the library holds a number -/
def MLen (w : World) : Prop := ∃ m : Int, w.cell? ⟨0, 0, none⟩ = some (.int .i64 m)
theorem MLen.ext {w w' : World} (h : MLen w) (hx : Ext w w') : MLen w' := by
  obtain ⟨m, hm⟩ := h
  refine ⟨m, ?_⟩
  have hlt : 0 < w.heap.size := World.block_lt_of_cell? w _ hm
  have := hx.block _ hlt
  unfold World.cell? at hm ⊢
  rwa [this]
theorem MLen.of_shape {w : World} (h : w.ShapedOpen Tryd.prog) : MLen w := Tryd.laysM146.s1_3 w h
theorem split_c (s : List UInt8) (hs : s.length ≤ 1000000) (w : World) (hG : MLen w) :
    Ret Tryd.prog 23 [str s, str [47]] w fun v w' => ∃ b, v = .slice (some ⟨b, 0, none⟩) (parts s).length (parts s).length ∧ w.heap.size ≤ b ∧ Bk w' b 9 (txtsV (parts s)) ∧ Ext w w' := by
  have hn : (!(Tryd.f23.name == "runtime.NumGoroutine") && Tryd.f23.body.isSome) = true := by kernel_rfl
  obtain ⟨m, hm⟩ := hG
  have h := Tryd.strings_Split ⟨s.toArray⟩ ⟨#[47]⟩ m w (by show s.length < _; omega) hm (by show 1 ≤ 1; omega)
  have hd := Go.Lib.splitB_data ⟨#[47]⟩ 0 (Go.Lib.countB ⟨s.toArray⟩ ⟨#[47]⟩) ⟨s.toArray⟩
  have hp : (Go.Lib.splitB ⟨#[47]⟩ 0 (Go.Lib.countB ⟨s.toArray⟩ ⟨#[47]⟩) ⟨s.toArray⟩).map (·.data.toList) = parts s := hd.trans (split_parts _ s rfl)
  have hlen := congrArg List.length hp
  rw [List.length_map, Go.Lib.splitB_all ⟨#[47]⟩ (by show 1 ≤ 1; omega) 0 _ ⟨s.toArray⟩ rfl] at hlen
  have hv : (Go.Lib.splitB ⟨#[47]⟩ 0 (Go.Lib.countB ⟨s.toArray⟩ ⟨#[47]⟩) ⟨s.toArray⟩).map Value.string = txtsV (parts s) := by
    rw [← hp, txtsV, List.map_map]
    rfl
  rw [hv, hlen] at h
  refine (Ret.of_calls Tryd.func23 hn (h.mono (fun e w' q => q))).mono ?_
  rintro v w' ⟨rfl, rfl⟩
  exact ⟨w.heap.size, rfl, Nat.le_refl _, Bk.new w _ _, Ext.alloc w _⟩
theorem parts_p (s : List UInt8) (hs : s.length ≤ 1000000) (w : World) (hG : MLen w) :
    Ret Tryd.prog 10 [str s] w fun v w' => ∃ b, v = .slice (some ⟨b, 0, none⟩) (parts s).length (parts s).length ∧ w.heap.size ≤ b ∧ Bk w' b 9 (txtsV (parts s)) ∧ Ext w w' := by
  refine Ret.enter Tryd.func10 rfl Tryd.ntmps10 (by kernel_rfl) rfl ?_
  refine KW.seq (KW.region ?_)
  refine OW.val rfl rfl (EX.assign rfl) ?_
  refine OW.nil ?_
  refine KW.seq (KW.region ?_)
  refine OW.val rfl rfl (EX.move rfl) ?_
  refine OW.call rfl rfl rfl (split_c s hs w hG) ?_
  rintro _ w1 ⟨b, rfl, hb⟩
  refine OW.val rfl rfl (EX.assign rfl) ?_
  refine OW.nil ?_
  refine KW.ret (ret1 rfl rfl ?_)
  exact ⟨b, rfl, hb⟩
theorem parts_len (s : List UInt8) : (parts s).length ≤ s.length + 1 := by
  have h1 := wt_len (parts s)
  rwa [wt_parts] at h1
/-! ### Comparisons -/
theorem compare_c (x y : List UInt8) (w : World) : Ret Tryd.prog 24 [str x, str y] w fun v w' => v = .int .i64 (Go.Lib.compareBytes x y) ∧ w = w' := by
  have hn : (!(Tryd.f24.name == "runtime.NumGoroutine") && Tryd.f24.body.isSome) = true := by kernel_rfl
  refine (Ret.of_calls Tryd.func24 hn ((Tryd.strings_Compare ⟨x.toArray⟩ ⟨y.toArray⟩ w).mono (fun e w' q => q))).mono ?_
  rintro v w' ⟨rfl, rfl⟩
  exact ⟨rfl, rfl⟩
theorem RetQ.of1 {P : Program} {f : FuncId} {args : List Value} {w : World} {v : Value} (h : Ret P f args w fun v' w' => v' = v ∧ w = w') : RetQ P f args w v :=
  h.mono fun _ _ ⟨h1, h2⟩ => ⟨h1, 0, by subst h2; rfl⟩
theorem cmpL_skip : ∀ (i : Nat) (x y : Txts), (∀ j, j < i → x[j]? = y[j]?) → i ≤ x.length → i ≤ y.length → cmpL x y = cmpL (x.drop i) (y.drop i)
  | 0, x, y, _, _, _ => rfl
  | i + 1, [], y, _, h, _ => by simp at h
  | i + 1, x, [], _, _, h => by simp at h
  | i + 1, a :: x, b :: y, h, h1, h2 => by
    have h0 := h 0 (by omega)
    simp only [List.getElem?_cons_zero, Option.some.injEq] at h0
    subst h0
    rw [cmpL, if_pos rfl]
    simp only [List.drop_succ_cons]
    exact cmpL_skip i x y (fun j hj => by have := h (j + 1) (by omega); simpa using this) (by simpa using h1) (by simpa using h2)
theorem cmpL_at {x y : Txts} {i : Nat} (hs : ∀ j, j < i → x[j]? = y[j]?) (h1 : i < x.length) (h2 : i < y.length) (hne : x[i] ≠ y[i]) : cmpL x y = Go.Lib.compareBytes x[i] y[i] := by
  rw [cmpL_skip i x y hs (by omega) (by omega), List.drop_eq_getElem_cons h1, List.drop_eq_getElem_cons h2, cmpL, if_neg hne]
theorem cmpL_end {x y : Txts} {i : Nat} (hs : ∀ j, j < i → x[j]? = y[j]?) (hi : i = min x.length y.length) : cmpL x y = if x.length < y.length then -1 else if y.length < x.length then 1 else 0 := by
  rw [cmpL_skip i x y hs (by omega) (by omega)]
  rcases hx : x.drop i with _ | ⟨a, x'⟩
  · rcases hy : y.drop i with _ | ⟨b, y'⟩
    · have e1 := congrArg List.length hx
      have e2 := congrArg List.length hy
      simp only [List.length_drop, List.length_nil] at e1 e2
      rw [if_neg (by omega), if_neg (by omega)]
      rfl
    · have e1 := congrArg List.length hx
      have e2 := congrArg List.length hy
      simp only [List.length_drop, List.length_nil, List.length_cons] at e1 e2
      rw [if_pos (by omega)]
      rfl
  · rcases hy : y.drop i with _ | ⟨b, y'⟩
    · have e1 := congrArg List.length hx
      have e2 := congrArg List.length hy
      simp only [List.length_drop, List.length_nil, List.length_cons] at e1 e2
      rw [if_neg (by omega), if_pos (by omega)]
      rfl
    · have e1 := congrArg List.length hx
      have e2 := congrArg List.length hy
      simp only [List.length_drop, List.length_cons] at e1 e2
      omega
theorem same_snoc {x y : Txts} {i : Nat} (hs : ∀ j, j < i → x[j]? = y[j]?) (h1 : i < x.length) (h2 : i < y.length) (h : x[i] = y[i]) : ∀ j, j < i + 1 → x[j]? = y[j]? := fun j hj => by
  by_cases e : j = i
  · subst e
    rw [List.getElem?_eq_getElem h1, List.getElem?_eq_getElem h2, h]
  · exact hs j (by omega)
set_option maxRecDepth 20000 in
theorem cmp_s (a b : List UInt8) (ha : a.length ≤ 1000000) (hb : b.length ≤ 1000000) (w : World) (hG : MLen w) :
    Ret Tryd.prog 13 [str a, str b] w fun v w' => v = .int .i64 (cmpP a b) ∧ Ext w w' := by
  have la := parts_len a
  have lb := parts_len b
  refine Ret.enter Tryd.func13 rfl Tryd.ntmps13 (by kernel_rfl) rfl ?_
  refine KW.seq (KW.region ?_)
  refine OW.val rfl rfl (EX.assign rfl) ?_
  refine OW.nil ?_
  refine KW.seq (KW.region ?_)
  refine OW.val rfl rfl (EX.move rfl) ?_
  refine OW.call rfl rfl rfl (parts_p a ha w hG) ?_
  rintro _ w1 ⟨ba, rfl, hga, hba, hx1⟩
  refine OW.val rfl rfl (EX.move rfl) ?_
  refine OW.call rfl rfl rfl (parts_p b hb w1 (hG.ext hx1)) ?_
  rintro _ w2 ⟨bb, rfl, hgb, hbb, hx2⟩
  refine OW.val rfl rfl (EX.assign rfl) ?_
  refine OW.val rfl rfl (EX.assign rfl) ?_
  refine OW.nil ?_
  refine KW.seq (KW.seq (KW.region ?_))
  refine OW.val rfl rfl (EX.move rfl) ?_
  refine OW.val rfl rfl (EX.lenA Tryd.underlying23 rfl) ?_
  refine OW.val rfl rfl (EX.move rfl) ?_
  refine OW.val rfl rfl (EX.lenA Tryd.underlying23 rfl) ?_
  refine OW.val rfl rfl (by first | exact EX.minN rfl rfl | exact EX.minZ rfl rfl) ?_
  refine OW.val rfl rfl (EX.move rfl) ?_
  refine OW.nil ?_
  refine KW.block ?_
  have x2 := hx1.trans hx2
  have hba2 := hba.ext hx2
  unfold cmpP
  generalize hX : parts a = X at hba2 la
  generalize hY : parts b = Y at hbb lb
  refine KW.loop2 (fun (i : Nat) (wr : World) => i ≤ min X.length Y.length ∧ (∀ j, j < i → X[j]? = Y[j]?) ∧ Ext w2 wr) (fun (i : Nat) (wr : World) => [(5, .slice (some ⟨ba, 0, none⟩) X.length X.length), (6, .slice (some ⟨bb, 0, none⟩) Y.length Y.length), (16, .int .i64 (((min X.length Y.length) : Nat) : Int)), (17, .int .i64 ((i : Nat) : Int))]) (fun (i : Nat) (wr : World) => wr) (fun (i : Nat) (wr : World) => min X.length Y.length - i) (0) (w2) ⟨rfl, rfl, rfl, rfl, trivial⟩ rfl ?_ ?_
  · exact ⟨by omega, fun j hj => by omega, Ext.refl _⟩
  · rintro i wr ⟨hi, hs, hxr⟩
    have xr := x2.trans hxr
    have hbr := hba2.ext hxr
    have hcr := hbb.ext hxr
    refine KW.seq (KW.region ?_)
    refine OW.val rfl rfl (by first | exact EX.lssN rfl rfl | exact EX.lssZ rfl rfl) ?_
    refine OW.nil ?_
    refine KW.seq ?_
    refine KW.condD rfl (fun hlt => ?_) (fun hlt => ?_)
    · have h1 : i < X.length := by omega
      have h2 : i < Y.length := by omega
      have g1 := txtsV_get h1
      have g2 := txtsV_get h2
      refine KW.skip (KW.seq (KW.block (KW.seq (KW.region ?_))))
      refine OW.val rfl rfl (EX.move rfl) ?_
      refine OW.val rfl rfl (EX.assign rfl) ?_
      refine OW.nil ?_
      refine KW.seq ?_
      refine KW.regionQ (by kernel_rfl) (by kernel_rfl) ?_
      refine QW.val rfl rfl (fun _ => EX.move rfl) ?_
      refine QW.val rfl rfl (fun _ => EX.move rfl) ?_
      refine QW.val rfl rfl (fun _ => by first | exact EX.indexAddrS0 Tryd.underlying23 ti9 rfl rfl (by omega) | exact EX.indexAddrS1 Tryd.underlying23 ti9 rfl rfl (by omega)) ?_
      refine QW.val rfl rfl (fun _ => EX.load Tryd.underlying9 rfl rfl ((hbr.drewN _).cell_of g1)) ?_
      refine QW.val rfl rfl (fun _ => EX.move rfl) ?_
      refine QW.val rfl rfl (fun _ => EX.move rfl) ?_
      refine QW.val rfl rfl (fun _ => by first | exact EX.indexAddrS0 Tryd.underlying23 ti9 rfl rfl (by omega) | exact EX.indexAddrS1 Tryd.underlying23 ti9 rfl rfl (by omega)) ?_
      refine QW.val rfl rfl (fun _ => EX.load Tryd.underlying9 rfl rfl ((hcr.drewN _).cell_of g2)) ?_
      refine QW.val rfl rfl (fun _ => EX.neqS rfl rfl) ?_
      refine QW.nil (fun nq => ?_)
      refine KW.condD rfl (fun hne => ?_) (fun hne => ?_)
      · have hcm := cmpL_at hs h1 h2 hne
        have hbd := hbr.drewN nq
        have hcd := hcr.drewN nq
        refine KW.seq ?_
        refine KW.regionQ (by kernel_rfl) (by kernel_rfl) ?_
        refine QW.val rfl rfl (fun _ => EX.move rfl) ?_
        refine QW.val rfl rfl (fun _ => EX.move rfl) ?_
        refine QW.val rfl rfl (fun _ => by first | exact EX.indexAddrS0 Tryd.underlying23 ti9 rfl rfl (by omega) | exact EX.indexAddrS1 Tryd.underlying23 ti9 rfl rfl (by omega)) ?_
        refine QW.val rfl rfl (fun _ => EX.load Tryd.underlying9 rfl rfl ((hbd.drewN _).cell_of g1)) ?_
        refine QW.val rfl rfl (fun _ => EX.move rfl) ?_
        refine QW.val rfl rfl (fun _ => EX.move rfl) ?_
        refine QW.val rfl rfl (fun _ => by first | exact EX.indexAddrS0 Tryd.underlying23 ti9 rfl rfl (by omega) | exact EX.indexAddrS1 Tryd.underlying23 ti9 rfl rfl (by omega)) ?_
        refine QW.val rfl rfl (fun _ => EX.load Tryd.underlying9 rfl rfl ((hcd.drewN _).cell_of g2)) ?_
        refine QW.call rfl rfl rfl (fun _ => RetQ.of1 (compare_c X[i] Y[i] _)) ?_
        refine QW.val rfl rfl (fun _ => EX.assign rfl) ?_
        refine QW.nil (fun nq => ?_)
        refine KW.ret (ret1 rfl rfl ?_)
        rw [hcm]
        exact ⟨rfl, (xr.trans (Ext.drewN _ _)).trans (Ext.drewN _ _)⟩
      · refine KW.skip (KW.leave (KW.region ?_))
        refine OW.val rfl rfl (by first | exact EX.addN (b := 1) (m := 9223372036854775807) rfl rfl rfl (by omega) | exact EX.addZ (m := 9223372036854775807) rfl rfl rfl rfl (by omega)) ?_
        refine OW.val rfl rfl (EX.move rfl) ?_
        refine OW.nil ?_
        refine KW.back2 (i + 1) (wr.drewN nq) ⟨rfl, rfl, rfl, rfl, trivial⟩ rfl ?_ (by omega)
        exact ⟨by omega, same_snoc hs h1 h2 (by simpa using hne), hxr.trans (Ext.drewN wr nq)⟩
    · have hce := cmpL_end hs (by omega)
      refine KW.exit rfl (KW.seq (KW.block (KW.seq (KW.region ?_))))
      refine OW.val rfl rfl (EX.move rfl) ?_
      refine OW.val rfl rfl (EX.lenA Tryd.underlying23 rfl) ?_
      refine OW.val rfl rfl (EX.move rfl) ?_
      refine OW.val rfl rfl (EX.lenA Tryd.underlying23 rfl) ?_
      refine OW.val rfl rfl (by first | exact EX.lssN rfl rfl | exact EX.lssZ rfl rfl) ?_
      refine OW.val rfl rfl (EX.assign rfl) ?_
      refine OW.nil ?_
      refine KW.condD rfl (fun k1 => ?_) (fun k1 => ?_)
      · rw [if_pos k1] at hce
        refine KW.seq (KW.region ?_)
        refine OW.val rfl rfl (EX.assign rfl) ?_
        refine OW.nil ?_
        refine KW.ret (ret1 rfl rfl ?_)
        rw [hce]
        exact ⟨rfl, xr⟩
      · rw [if_neg k1] at hce
        refine KW.seq (KW.region ?_)
        refine OW.val rfl rfl (EX.move rfl) ?_
        refine OW.val rfl rfl (EX.lenA Tryd.underlying23 rfl) ?_
        refine OW.val rfl rfl (EX.move rfl) ?_
        refine OW.val rfl rfl (EX.lenA Tryd.underlying23 rfl) ?_
        refine OW.val rfl rfl (by first | exact EX.gtrN rfl rfl | exact EX.gtrZ rfl rfl) ?_
        refine OW.val rfl rfl (EX.assign rfl) ?_
        refine OW.nil ?_
        refine KW.condD rfl (fun k2 => ?_) (fun k2 => ?_)
        · rw [if_pos (by omega)] at hce
          refine KW.seq (KW.region ?_)
          refine OW.val rfl rfl (EX.assign rfl) ?_
          refine OW.nil ?_
          refine KW.ret (ret1 rfl rfl ?_)
          rw [hce]
          exact ⟨rfl, xr⟩
        · rw [if_neg (by omega)] at hce
          refine KW.skip (KW.leave (KW.seq (KW.region ?_)))
          refine OW.val rfl rfl (EX.assign rfl) ?_
          refine OW.nil ?_
          refine KW.ret (ret1 rfl rfl ?_)
          rw [hce]
          exact ⟨rfl, xr⟩
theorem less_cb : ∀ x y : List UInt8, lessB x y = decide (Go.Lib.compareBytes x y = -1)
  | [], [] => rfl
  | [], _ :: _ => rfl
  | _ :: _, [] => rfl
  | a :: x, b :: y => by
    have ih := less_cb x y
    unfold lessB at ih ⊢
    unfold Op.bytesLess Go.Lib.compareBytes
    rw [ih]
    by_cases h1 : a < b
    · simp [h1]
    · by_cases h2 : b < a
      · have h3 : a ≠ b := fun e => h1 (by subst e; exact h2)
        simp [h1, h2, h3]
      · have h3 : a = b := by
          have h1' : ¬ a.toNat < b.toNat := h1
          have h2' : ¬ b.toNat < a.toNat := h2
          exact UInt8.toNat_inj.1 (by omega)
        subst h3
        simp
set_option maxRecDepth 20000 in
theorem rcmp_s (a b : List UInt8) (ha : a.length ≤ 1000000) (hb : b.length ≤ 1000000) (w : World) :
    Ret Tryd.prog 14 [str a, str b] w fun v w' => v = .int .i64 (cmpP a b) ∧ Ext w w' := by
  have la := parts_len a
  have lb := parts_len b
  have pa : 0 < (parts a).length := List.length_pos_iff.2 (parts_ne a)
  have pb : 0 < (parts b).length := List.length_pos_iff.2 (parts_ne b)
  refine Ret.enter Tryd.func14 rfl Tryd.ntmps14 (by kernel_rfl) rfl ?_
  refine KW.seq (KW.region ?_)
  refine OW.val rfl rfl (EX.assign rfl) ?_
  refine OW.nil ?_
  refine KW.seq (KW.region ?_)
  refine OW.val rfl rfl (EX.move rfl) ?_
  refine OW.call rfl rfl rfl (rparts_s a (by omega) w) ?_
  rintro va w1 ⟨hoa, hx1⟩
  refine OW.val rfl rfl (EX.move rfl) ?_
  refine OW.call rfl rfl rfl (rparts_s b (by omega) w1) ?_
  rintro vb w2 ⟨hob, hx2⟩
  refine OW.val rfl rfl (EX.assign rfl) ?_
  refine OW.val rfl rfl (EX.assign rfl) ?_
  refine OW.nil ?_
  refine KW.seq (KW.seq (KW.region ?_))
  refine OW.val rfl rfl (EX.assign rfl) ?_
  refine OW.nil ?_
  refine KW.block ?_
  obtain ⟨ga, ca, ra, rfl, _, hba, _, _, _⟩ := (hoa.ext hx2).blk (by rw [txtsV_length]; exact pa)
  obtain ⟨gb, cb, rb, rfl, _, hbb, _, _, _⟩ := hob.blk (by rw [txtsV_length]; exact pb)
  have x2 := hx1.trans hx2
  clear hoa hob
  unfold cmpP
  generalize hX : parts a = X at hba la
  generalize hY : parts b = Y at hbb lb
  refine KW.loop2 (fun (i : Nat) (wr : World) => i ≤ X.length ∧ i ≤ Y.length ∧ (∀ j, j < i → X[j]? = Y[j]?) ∧ Ext w2 wr) (fun (i : Nat) (wr : World) => [(5, .slice (some ⟨ga, 0, none⟩) X.length ca), (6, .slice (some ⟨gb, 0, none⟩) Y.length cb), (7, .int .i64 ((i : Nat) : Int))]) (fun (i : Nat) (wr : World) => wr) (fun (i : Nat) (wr : World) => X.length - i) (0) (w2) ⟨rfl, rfl, rfl, trivial⟩ rfl ?_ ?_
  · exact ⟨by omega, by omega, fun j hj => by omega, Ext.refl _⟩
  · rintro i wr ⟨hi, hi2, hs, hxr⟩
    have xr := x2.trans hxr
    have hbr := hba.ext hxr
    have hcr := hbb.ext hxr
    have hend : i = min X.length Y.length → cmpL X Y = if X.length < Y.length then -1 else if Y.length < X.length then 1 else 0 := cmpL_end hs
    refine KW.seq (KW.seq ?_)
    refine KW.region ?_
    refine OW.val rfl rfl (EX.move rfl) ?_
    refine OW.val rfl rfl (EX.move rfl) ?_
    refine OW.val rfl rfl (EX.lenA Tryd.underlying23 rfl) ?_
    refine OW.val rfl rfl (by first | exact EX.lssN rfl rfl | exact EX.lssZ rfl rfl) ?_
    refine OW.val rfl rfl (EX.move rfl) ?_
    refine OW.splitD 16 rfl (fun c1 => ?_) (fun c1 => ?_)
    · refine OW.val rfl rfl (EX.move rfl) ?_
      refine OW.val rfl rfl (EX.move rfl) ?_
      refine OW.val rfl rfl (EX.lenA Tryd.underlying23 rfl) ?_
      refine OW.val rfl rfl (by first | exact EX.lssN rfl rfl | exact EX.lssZ rfl rfl) ?_
      refine OW.val rfl rfl (EX.pickT rfl rfl) ?_
      refine OW.nil ?_
      refine KW.condD rfl (fun c2 => ?_) (fun c2 => ?_)
      · have g1 : (txtsV X ++ ra)[i]? = some (str X[i]) := by rw [List.getElem?_append_left (by rw [txtsV_length]; exact c1)]; exact txtsV_get c1
        have g2 : (txtsV Y ++ rb)[i]? = some (str Y[i]) := by rw [List.getElem?_append_left (by rw [txtsV_length]; exact c2)]; exact txtsV_get c2
        refine KW.skip (KW.seq (KW.block (KW.seq (KW.seq ?_))))
        refine KW.regionQ (by kernel_rfl) (by kernel_rfl) ?_
        refine QW.val rfl rfl (fun _ => EX.move rfl) ?_
        refine QW.val rfl rfl (fun _ => EX.move rfl) ?_
        refine QW.val rfl rfl (fun _ => by first | exact EX.indexAddrS0 Tryd.underlying23 ti9 rfl rfl (by omega) | exact EX.indexAddrS1 Tryd.underlying23 ti9 rfl rfl (by omega)) ?_
        refine QW.val rfl rfl (fun _ => EX.load Tryd.underlying9 rfl rfl ((hbr.drewN _).cell_of g1)) ?_
        refine QW.val rfl rfl (fun _ => EX.move rfl) ?_
        refine QW.val rfl rfl (fun _ => EX.move rfl) ?_
        refine QW.val rfl rfl (fun _ => by first | exact EX.indexAddrS0 Tryd.underlying23 ti9 rfl rfl (by omega) | exact EX.indexAddrS1 Tryd.underlying23 ti9 rfl rfl (by omega)) ?_
        refine QW.val rfl rfl (fun _ => EX.load Tryd.underlying9 rfl rfl ((hcr.drewN _).cell_of g2)) ?_
        refine QW.val rfl rfl (fun _ => EX.lssS rfl rfl) ?_
        refine QW.nil (fun nq => ?_)
        rw [less_cb]
        refine KW.condD rfl (fun l1 => ?_) (fun l1 => ?_)
        · have hne : X[i] ≠ Y[i] := fun e => by rw [(Go.Proofs.YtifnlmpnkjhlnaaDoor.Pth.cb_eq _ _).2 e] at l1; omega
          have hcm := cmpL_at hs c1 c2 hne
          refine KW.seq (KW.region ?_)
          refine OW.val rfl rfl (EX.assign rfl) ?_
          refine OW.nil ?_
          refine KW.ret (ret1 rfl rfl ?_)
          rw [hcm, l1]
          exact ⟨rfl, xr.trans (Ext.drewN _ _)⟩
        · have hbd := hbr.drewN nq
          have hcd := hcr.drewN nq
          refine KW.skip (KW.seq ?_)
          refine KW.regionQ (by kernel_rfl) (by kernel_rfl) ?_
          refine QW.val rfl rfl (fun _ => EX.move rfl) ?_
          refine QW.val rfl rfl (fun _ => EX.move rfl) ?_
          refine QW.val rfl rfl (fun _ => by first | exact EX.indexAddrS0 Tryd.underlying23 ti9 rfl rfl (by omega) | exact EX.indexAddrS1 Tryd.underlying23 ti9 rfl rfl (by omega)) ?_
          refine QW.val rfl rfl (fun _ => EX.load Tryd.underlying9 rfl rfl ((hbd.drewN _).cell_of g1)) ?_
          refine QW.val rfl rfl (fun _ => EX.move rfl) ?_
          refine QW.val rfl rfl (fun _ => EX.move rfl) ?_
          refine QW.val rfl rfl (fun _ => by first | exact EX.indexAddrS0 Tryd.underlying23 ti9 rfl rfl (by omega) | exact EX.indexAddrS1 Tryd.underlying23 ti9 rfl rfl (by omega)) ?_
          refine QW.val rfl rfl (fun _ => EX.load Tryd.underlying9 rfl rfl ((hcd.drewN _).cell_of g2)) ?_
          refine QW.val rfl rfl (fun _ => EX.gtrS rfl rfl) ?_
          refine QW.nil (fun nq => ?_)
          refine KW.as 41 (.bool (decide (X[i] ≠ Y[i]))) rfl (congrArg Value.bool (by rw [less_cb, decide_eq_false l1, Bool.false_or, Bool.eq_iff_iff]; simp)) ?_
          refine KW.condD rfl (fun hne => ?_) (fun hne => ?_)
          · have hcm := cmpL_at hs c1 c2 hne
            have hv : Go.Lib.compareBytes X[i] Y[i] = 1 := by
              rcases cb_val X[i] Y[i] with h | h | h
              · exact absurd h l1
              · exact absurd ((cb_eq _ _).1 h) hne
              · exact h
            refine KW.seq (KW.region ?_)
            refine OW.val rfl rfl (EX.assign rfl) ?_
            refine OW.nil ?_
            refine KW.ret (ret1 rfl rfl ?_)
            rw [hcm, hv]
            exact ⟨rfl, (xr.trans (Ext.drewN _ _)).trans (Ext.drewN _ _)⟩
          · have hsn := same_snoc hs c1 c2 (by simpa using hne)
            refine KW.skip (KW.leave (KW.region ?_))
            refine OW.val rfl rfl (EX.move rfl) ?_
            refine OW.val rfl rfl (by first | exact EX.addN (b := 1) (m := 9223372036854775807) rfl rfl rfl (by omega) | exact EX.addZ (m := 9223372036854775807) rfl rfl rfl rfl (by omega)) ?_
            refine OW.val rfl rfl (EX.assign rfl) ?_
            refine OW.nil ?_
            refine KW.back2 (i + 1) ((wr.drewN _).drewN _) ⟨rfl, rfl, rfl, trivial⟩ rfl ?_ (by omega)
            exact ⟨by omega, by omega, hsn, (hxr.trans (Ext.drewN _ _)).trans (Ext.drewN _ _)⟩
      · have hce := hend (by omega)
        refine KW.exit rfl (KW.seq (KW.seq (KW.region ?_)))
        refine OW.val rfl rfl (EX.move rfl) ?_
        refine OW.val rfl rfl (EX.lenA Tryd.underlying23 rfl) ?_
        refine OW.val rfl rfl (EX.move rfl) ?_
        refine OW.val rfl rfl (EX.lenA Tryd.underlying23 rfl) ?_
        refine OW.val rfl rfl (by first | exact EX.lssN rfl rfl | exact EX.lssZ rfl rfl) ?_
        refine OW.nil ?_
        refine KW.condD rfl (fun k1 => ?_) (fun k1 => ?_)
        · omega
        · rw [if_neg k1] at hce
          refine KW.skip (KW.seq (KW.seq (KW.region ?_)))
          refine OW.val rfl rfl (EX.move rfl) ?_
          refine OW.val rfl rfl (EX.lenA Tryd.underlying23 rfl) ?_
          refine OW.val rfl rfl (EX.move rfl) ?_
          refine OW.val rfl rfl (EX.lenA Tryd.underlying23 rfl) ?_
          refine OW.val rfl rfl (by first | exact EX.gtrN rfl rfl | exact EX.gtrZ rfl rfl) ?_
          refine OW.nil ?_
          refine KW.condD rfl (fun k2 => ?_) (fun k2 => ?_)
          · rw [if_pos (by omega)] at hce
            refine KW.seq (KW.region ?_)
            refine OW.val rfl rfl (EX.assign rfl) ?_
            refine OW.nil ?_
            refine KW.ret (ret1 rfl rfl ?_)
            rw [hce]
            exact ⟨rfl, xr⟩
          · omega
    · have hce := hend (by omega)
      refine OW.pass rfl rfl ?_
      refine OW.pass rfl rfl ?_
      refine OW.pass rfl rfl ?_
      refine OW.pass rfl rfl ?_
      refine OW.val rfl rfl (EX.pickF rfl rfl) ?_
      refine OW.nil ?_
      refine KW.condF rfl (KW.exit rfl (KW.seq (KW.seq (KW.region ?_))))
      refine OW.val rfl rfl (EX.move rfl) ?_
      refine OW.val rfl rfl (EX.lenA Tryd.underlying23 rfl) ?_
      refine OW.val rfl rfl (EX.move rfl) ?_
      refine OW.val rfl rfl (EX.lenA Tryd.underlying23 rfl) ?_
      refine OW.val rfl rfl (by first | exact EX.lssN rfl rfl | exact EX.lssZ rfl rfl) ?_
      refine OW.nil ?_
      refine KW.condD rfl (fun k1 => ?_) (fun k1 => ?_)
      · rw [if_pos k1] at hce
        refine KW.seq (KW.region ?_)
        refine OW.val rfl rfl (EX.assign rfl) ?_
        refine OW.nil ?_
        refine KW.ret (ret1 rfl rfl ?_)
        rw [hce]
        exact ⟨rfl, xr⟩
      · rw [if_neg k1] at hce
        refine KW.skip (KW.seq (KW.seq (KW.region ?_)))
        refine OW.val rfl rfl (EX.move rfl) ?_
        refine OW.val rfl rfl (EX.lenA Tryd.underlying23 rfl) ?_
        refine OW.val rfl rfl (EX.move rfl) ?_
        refine OW.val rfl rfl (EX.lenA Tryd.underlying23 rfl) ?_
        refine OW.val rfl rfl (by first | exact EX.gtrN rfl rfl | exact EX.gtrZ rfl rfl) ?_
        refine OW.nil ?_
        refine KW.condD rfl (fun k2 => ?_) (fun k2 => ?_)
        · omega
        · rw [if_neg (by omega)] at hce
          refine KW.skip (KW.seq (KW.region ?_))
          refine OW.val rfl rfl (EX.assign rfl) ?_
          refine OW.nil ?_
          refine KW.ret (ret1 rfl rfl ?_)
          rw [hce]
          exact ⟨rfl, xr⟩
end Go.Proofs.YtifnlmpnkjhlnaaDoor
