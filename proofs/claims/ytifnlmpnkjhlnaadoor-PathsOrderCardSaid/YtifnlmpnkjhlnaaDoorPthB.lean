/-
  paths: a path's one form, by the program.
-/
import Derived.Test.YtifnlmpnkjhlnaaDoorPthA
import Derived.Test.YtifnlmpnkjhlnaaDoorKq
namespace Go.Proofs.YtifnlmpnkjhlnaaDoor
open Go.RowKit Pth
set_option linter.unusedVariables false
set_option linter.unusedSimpArgs false

/-! ### What a round keeps -/
theorem Bk.isCells {w : World} {b : Nat} {T : TypeId} {l : List Value} (h : Bk w b T l) : ∃ o : Obj, w.heap[b]? = some o ∧ o.isCells = true := by
  obtain ⟨fr, h, _⟩ := h
  exact ⟨_, h, rfl⟩
theorem Bk.turned {A B : World} {row : Option Nat} {C b : Nat} {T : TypeId} {l : List Value} (h : Bk A b T l) (hg : A.grownBy B row) (hr : ∀ r, row = some r → C ≤ r ∧ ∃ o : Obj, A.heap[r]? = some o ∧ o.isCells = false) : Bk B b T l :=
  h.of_block (hg.block b h.lt fun e => by
    obtain ⟨_, o, ho, hn⟩ := hr b e.symm
    obtain ⟨o', ho', hc⟩ := h.isCells
    rw [ho] at ho'
    cases ho'
    rw [hc] at hn
    cases hn)
theorem Own.turned {A B : World} {row : Option Nat} {C B0 s n : Nat} {T : TypeId} {v : Value} {xs : List Value} (h : Own A B0 T s v n xs) (hg : A.grownBy B row) (hr : ∀ r, row = some r → C ≤ r ∧ ∃ o : Obj, A.heap[r]? = some o ∧ o.isCells = false) : Own B B0 T s v n xs :=
  h.of_blocks fun k hk => by
    obtain ⟨_, l, hb⟩ := h.blkT k hk
    refine hg.block k hb.lt fun e => ?_
    obtain ⟨_, o, ho, hn⟩ := hr k e.symm
    obtain ⟨o', ho', hc⟩ := hb.isCells
    rw [ho] at ho'
    cases ho'
    rw [hc] at hn
    cases hn
theorem Ext.turned {w A B : World} {row : Option Nat} {C : Nat} (h : Ext w A) (hC : w.heap.size ≤ C) (hg : A.grownBy B row) (hr : ∀ r, row = some r → C ≤ r ∧ ∃ o : Obj, A.heap[r]? = some o ∧ o.isCells = false) : Ext w B :=
  h.grown hg fun k e => Nat.le_trans hC (hr k e).1
theorem Mo.keeps {w w' : World} {S : List Nat} (h : Mo w w' S) (hS : ∀ k ∈ S, ∃ T l, Bk w k T l) : KeepsOthers w w' :=
  ⟨h.size, fun k o hk ho => by
    refine (h.block k (Array.getElem?_eq_some_iff.1 hk).1 fun hm => ?_).trans hk
    obtain ⟨T, l, hb⟩ := hS k hm
    obtain ⟨o', ho', hc⟩ := hb.isCells
    rw [hk] at ho'
    cases ho'
    rw [hc] at ho
    cases ho⟩
theorem clean_s (s : List UInt8) (hs : s.length ≤ 1000000000000) (w : World) : Ret Tryd.prog 16 [str s] w fun v w' => v = .tuple #[str (cleanP s).1, .int .i64 (((cleanP s).2 : Nat) : Int)] ∧ Ext w w' := by
  refine Ret.enterR 3 Tryd.func16 rfl Tryd.ntmps16 (by kernel_rfl) rfl ?_
  refine KR.seq (KR.region ?_)
  refine OR.boxB rfl rfl rfl rfl ?_
  rintro sb w1 hge1 hs1 hx1
  refine OR.val rfl rfl (EX.assign rfl) ?_
  refine OR.val rfl rfl (EX.assign rfl) ?_
  refine OR.nil ?_
  refine KR.scope (fun _ _ _ h => h) (KR.seq (KR.region ?_))
  refine OR.buildB 0 rfl rfl Tryd.underlying23 ti9 rfl rfl rfl rfl (by first | rfl | (simp only [List.all_cons, List.all_nil, Bool.and_true, Bool.and_eq_true]; assumption)) (by decide) ?_
  rintro gb w2 hge2 hg2 hx2
  refine OR.allocB (l := [.slice none 0 0]) rfl rfl ti23 rfl ?_
  rintro ob w3 hge3 ho3 hx3
  have hob : w1.heap.size ≤ ob := by have := hx2.size; omega
  refine OR.storeB rfl ti23 rfl rfl (by first | rfl | assumption | exact Own.one (by assumption)) (ho3) (by simp) ?_
  rintro w4 ho4 hm4
  refine OR.nil ?_
  refine KR.seq (KR.region ?_)
  refine OR.val rfl rfl (EX.makeFunc rfl rfl) ?_
  refine OR.val rfl rfl (EX.assign rfl) ?_
  refine OR.nil ?_
  refine KR.seq (KR.seq (KR.region ?_))
  simp only [List.set_cons_zero] at ho4
  have hown4 : Own w4 w1.heap.size 9 1 (.slice (some ⟨gb, 0, none⟩) 0 0) 0 (txtsV []) := ((Own.of_bk (l := []) hg2 hge2 rfl (by decide)).ext hx3).mo hm4 (fun k hk => by
    have := (hg2.ext hx3).ne ho3 (by decide)
    simp [Value.ownBlock] at hk
    subst hk
    simpa using this)
  have hx4 : Ext w1 w4 := below_mo (hx2.trans hx3) hm4 (hx2.trans hx3).size (fun k hk => by simp at hk; subst hk; have := hx2.size; omega)
  have hs4 : Bk w4 sb 9 [str s] := hs1.ext hx4
  refine OR.val rfl rfl (EX.load Tryd.underlying9 rfl rfl (hs4.cell_of rfl)) ?_
  refine OR.val rfl rfl (EX.lenS Tryd.underlying9 rfl) ?_
  refine OR.val rfl rfl (EX.move rfl) ?_
  refine OR.nil ?_
  refine KR.block ?_
  refine KR.loop1 (fun (i : Nat) => i ≤ s.length ∧ ∀ c ∈ s.take i, 32 ≤ c.toNat ∧ c.toNat ≤ 126) (fun (i : Nat) => [(1, .pointer (some ⟨sb, 0, none⟩)), (4, .pointer (some ⟨ob, 0, none⟩)), (5, .func (.func 25) #[] #[.pointer (some ⟨sb, 0, none⟩)]), (13, .int .i64 ((s.length : Nat) : Int)), (14, .int .i64 ((i : Nat) : Int))]) (fun (i : Nat) => w4) (fun (i : Nat) => s.length - i) (0) ⟨rfl, rfl, rfl, rfl, rfl, trivial⟩ rfl ?_ ?_
  · exact ⟨by omega, by simp⟩
  · rintro i ⟨hi, hok⟩
    refine KR.seq (KR.region ?_)
    refine OR.val rfl rfl (by first | exact EX.lssN rfl rfl | exact EX.lssZ rfl rfl) ?_
    refine OR.nil ?_
    refine KR.seq ?_
    refine KR.condD rfl (fun hlt => ?_) (fun hlt => ?_)
    · have hbad : ¬ (32 ≤ s[i].toNat ∧ s[i].toNat ≤ 126) → cleanP s = ([], 140) := fun h => by
        unfold cleanP
        rw [if_neg]
        rintro ⟨h1, _⟩
        exact h (h1 _ (List.getElem_mem hlt))
      refine KR.skip (KR.seq (KR.block (KR.seq (KR.region ?_))))
      refine OR.val rfl rfl (EX.move rfl) ?_
      refine OR.val rfl rfl (EX.assign rfl) ?_
      refine OR.nil ?_
      refine KR.seq ?_
      refine KR.region ?_
      refine OR.val rfl rfl (EX.load Tryd.underlying9 rfl rfl (hs4.cell_of rfl)) ?_
      refine OR.val rfl rfl (EX.move rfl) ?_
      refine OR.val rfl rfl (EX.indexS Tryd.underlying9 rfl rfl (List.getElem?_eq_getElem (by omega))) ?_
      refine OR.val rfl rfl (by first | exact EX.lssN (b := 32) rfl rfl | exact EX.lssZ rfl rfl) ?_
      refine OR.val rfl rfl (EX.move rfl) ?_
      refine OR.splitD 21 rfl (fun h1 => ?_) (fun h1 => ?_)
      · refine OR.pass rfl rfl ?_
        refine OR.pass rfl rfl ?_
        refine OR.pass rfl rfl ?_
        refine OR.pass rfl rfl ?_
        refine OR.val rfl rfl (EX.pickT rfl rfl) ?_
        refine OR.nil ?_
        refine KR.condT rfl (KR.seq (KR.region ?_))
        refine OR.val rfl rfl (EX.assign rfl) ?_
        refine OR.val rfl rfl (EX.assign rfl) ?_
        refine OR.nil ?_
        refine KR.ret (retR2 (.inr rfl) rfl rfl rfl rfl rfl ?_)
        rw [hbad (by omega)]
        exact ⟨rfl, hx1.trans hx4⟩
      · skip
        refine OR.val rfl rfl (EX.load Tryd.underlying9 rfl rfl (hs4.cell_of rfl)) ?_
        refine OR.val rfl rfl (EX.move rfl) ?_
        refine OR.val rfl rfl (EX.indexS Tryd.underlying9 rfl rfl (List.getElem?_eq_getElem (by omega))) ?_
        refine OR.val rfl rfl (by first | exact EX.gtrN (b := 126) rfl rfl | exact EX.gtrZ rfl rfl) ?_
        refine OR.val rfl rfl (EX.pickF rfl rfl) ?_
        refine OR.nil ?_
        refine KR.condD rfl (fun h2 => ?_) (fun h2 => ?_)
        · refine KR.seq (KR.region ?_)
          refine OR.val rfl rfl (EX.assign rfl) ?_
          refine OR.val rfl rfl (EX.assign rfl) ?_
          refine OR.nil ?_
          refine KR.ret (retR2 (.inr rfl) rfl rfl rfl rfl rfl ?_)
          rw [hbad (by omega)]
          exact ⟨rfl, hx1.trans hx4⟩
        · refine KR.skip (KR.leave (KR.region ?_))
          refine OR.val rfl rfl (by first | exact EX.addN (b := 1) (m := 9223372036854775807) rfl rfl rfl (by omega) | exact EX.addZ (m := 9223372036854775807) rfl rfl rfl rfl (by omega)) ?_
          refine OR.val rfl rfl (EX.move rfl) ?_
          refine OR.nil ?_
          refine KR.back1 (i + 1) ⟨rfl, rfl, rfl, rfl, rfl, trivial⟩ rfl ?_ (by omega)
          refine ⟨by omega, fun c hc => ?_⟩
          rw [List.take_add_one, List.getElem?_eq_getElem hlt] at hc
          rcases List.mem_append.1 hc with hc | hc
          · exact hok c hc
          · simp only [Option.toList_some, List.mem_singleton] at hc
            subst hc
            omega
    · have hfit : fits s := by
        rw [List.take_of_length_le (by omega)] at hok
        exact hok
      refine KR.exit rfl (KR.seq (KR.region ?_))
      refine OR.allocB (l := [.bool false]) rfl rfl ti4 rfl ?_
      rintro bb w5 hge5 hb5 hx5
      have hbb : w1.heap.size ≤ bb := by have := hx4.size; omega
      refine OR.storeB rfl ti4 rfl rfl (by first | rfl | assumption | exact Own.one (by assumption)) (hb5) (by simp) ?_
      rintro w6 hb6 hm6
      refine OR.nil ?_
      refine KR.seq (KR.label (KR.seq (KR.seq (KR.region ?_))))
      refine OR.val rfl rfl (EX.move rfl) ?_
      refine OR.nil ?_
      refine KR.block ?_
      simp only [List.set_cons_zero] at hb6
      have hx6 : Ext w1 w6 := below_mo (hx4.trans hx5) hm6 (hx4.trans hx5).size (fun k hk => by simp at hk; subst hk; have := hx4.size; omega)
      have ho6 : Bk w6 ob 23 [.slice (some ⟨gb, 0, none⟩) 0 0] := (ho4.ext hx5).mo hm6 (by simp; exact (ho4.ext hx5).ne hb5 (by decide))
      have hown6 : Own w6 w1.heap.size 9 1 (.slice (some ⟨gb, 0, none⟩) 0 0) 0 (txtsV []) := (hown4.ext hx5).mo hm6 (fun k hk => by
        have := ((hg2.ext hx3).mo hm4 (by simp; exact (hg2.ext hx3).ne ho3 (by decide))).ext hx5 |>.ne hb5 (by decide)
        simp [Value.ownBlock] at hk
        subst hk
        simpa using this)
      have hsb1 : sb < w6.heap.size := by have := hs1.lt; have := hx6.size; omega
      refine KR.rangeF rfl (Nat.le_add_left _ _) Tryd.func25 (by kernel_rfl) rfl rfl rfl (fun _ _ => rfl) (by simp) (iter_s sb s hs w6 (hs1.ext hx6)) (fun h k => k.trans h) (fun W l o o' hl h _ _ => World.putObj_heap_other (by omega)) (fun pre W => ∃ v, Bk W ob 23 [v] ∧ Own W w1.heap.size 9 1 v (kept pre).length (txtsV (kept pre)) ∧ Bk W bb 4 [.bool false] ∧ Ext w1 W ∧ dd ∉ pre) (fun c pre W => ∃ p0, c = .exit 2 ∧ pre = p0 ++ [dd] ∧ ∃ v, Bk W ob 23 [v] ∧ Own W w1.heap.size 9 1 v (kept p0).length (txtsV (kept p0)) ∧ Bk W bb 4 [.bool true] ∧ Ext w1 W) (fun pre A B row h hg hr => let ⟨v, h1, h2, h3, h4, h5⟩ := h; ⟨v, h1.turned hg hr, h2.turned hg hr, h3.turned hg hr, h4.turned hx6.size hg hr, h5⟩) (fun c pre A B row h hg hr => let ⟨p0, e1, e2, v, h1, h2, h3, h4⟩ := h; ⟨p0, e1, e2, v, h1.turned hg hr, h2.turned hg hr, h3.turned hg hr, h4.turned hx6.size hg hr⟩) (⟨_, ho6, hown6, hb6, hx6, by simp⟩) ?_ ?_ ?_
      · rintro l pre x W ⟨v, h1, h2, h3, h4, h5⟩ hlen
        have hsW : Bk W sb 9 [str s] := hs1.ext h4
        have hkl : (kept pre).length ≤ pre.length := List.length_filter_le _ _
        have stay : keepB x = false → x ≠ dd → (KeepsOthers W W ∧ KpS sb W W ∧ ∃ v, Bk W ob 23 [v] ∧ Own W w1.heap.size 9 1 v (kept (pre ++ [x])).length (txtsV (kept (pre ++ [x]))) ∧ Bk W bb 4 [.bool false] ∧ Ext w1 W ∧ dd ∉ pre ++ [x]) := fun hk hd => by
          rw [kept_snoc, hk, if_neg (by simp)]
          exact ⟨KeepsOthers.refl W, rfl, v, h1, h2, h3, h4, by simp [h5, Ne.symm hd]⟩
        refine KR.block (KR.seq (KR.seq (KR.region ?_)))
        refine OR.val rfl rfl (EX.move rfl) ?_
        refine OR.nil ?_
        refine KR.block (KR.seq (KR.seq (KR.region ?_)))
        refine OR.val rfl rfl (EX.eqlS (r := []) rfl rfl) ?_
        refine OR.val rfl rfl (EX.assign rfl) ?_
        refine OR.nil ?_
        refine KR.condD rfl (fun hx0 => ?_) (fun hx0 => ?_)
        · refine KR.as 31 (.bool true) rfl (congrArg Value.bool (decide_eq_true (hx0))) ?_
          refine KR.skip (KR.condT rfl (KR.exit rfl ?_))
          refine KR.done ?_
          exact fun _ _ => stay (by rw [hx0]; rfl) (by rw [hx0]; decide)
        · refine KR.region ?_
          refine OR.val rfl rfl (EX.eqlS (r := [46]) rfl rfl) ?_
          refine OR.val rfl rfl (EX.assign rfl) ?_
          refine OR.nil ?_
          refine KR.condD rfl (fun hx1 => ?_) (fun hx1 => ?_)
          · refine KR.exit rfl ?_
            refine KR.done ?_
            exact fun _ _ => stay (by rw [hx1]; rfl) (by rw [hx1]; decide)
          · refine KR.seq (KR.region ?_)
            refine OR.val rfl rfl (EX.eqlS (r := [46, 46]) rfl rfl) ?_
            refine OR.val rfl rfl (EX.assign rfl) ?_
            refine OR.nil ?_
            refine KR.condD rfl (fun hx2 => ?_) (fun hx2 => ?_)
            · refine KR.seq (KR.region ?_)
              refine OR.storeB rfl ti4 rfl rfl (by first | rfl | assumption | exact Own.one (by assumption)) (h3) (by simp) ?_
              rintro W2 hb2 hm2
              refine OR.nil ?_
              refine KR.exitOut rfl ?_
              simp only [List.set_cons_zero] at hb2
              exact fun _ _ => ⟨hm2.keeps (fun k hk => by simp at hk; subst hk; exact ⟨_, _, h3⟩), pre, rfl, by rw [hx2]; rfl, v, h1.mo hm2 (by simp; exact h1.ne h3 (by decide)), h2.mo hm2 (fun k hk => by simp; exact fun q => h2.ne h3 (by decide) k hk q.symm), hb2, below_mo h4 hm2 h4.size (fun k hk => by simp at hk; subst hk; have := hx4.size; have := hx5.size; omega)⟩
            · have hkx : keepB x = true := by simp [keepB, hx0, hx1]
              refine KR.skip (KR.leave (KR.region ?_))
              refine OR.val rfl rfl (EX.load Tryd.underlying23 rfl rfl (h1.cell_of rfl)) ?_
              refine OR.val rfl rfl (EX.move rfl) ?_
              refine OR.push rfl rfl (fun _ => rfl) rfl Tryd.underlying23 ti9 rfl rfl (fun _ => rfl) rfl (h4) (h2) (by simp only [maxLen]; omega) (by omega) ?_
              rintro _ v2 W2 hown2 hx2' hg2' ho2
              have hm2 : Mo W W2 v.ownBlock.toList := Mo.grown hg2' (fun k e => by rw [e]; simp)
              have nb : ob ∉ v.ownBlock.toList := fun q => h2.ne h1 (by decide) ob (by simpa using q) rfl
              have nbb : bb ∉ v.ownBlock.toList := fun q => h2.ne h3 (by decide) bb (by simpa using q) rfl
              have ho2b := h1.mo hm2 nb
              have hb2b := h3.mo hm2 nbb
              refine OR.storeB rfl ti23 rfl rfl (by first | rfl | assumption | exact Own.one (by assumption)) (ho2b) (by simp) ?_
              rintro W3 ho3' hm3
              refine OR.nil ?_
              refine KR.leave ?_
              simp only [List.set_cons_zero] at ho3'
              refine KR.done ?_
              have hown3 : Own W3 w1.heap.size 9 1 v2 (kept (pre ++ [x])).length (txtsV (kept (pre ++ [x]))) := by
                rw [kept_snoc, if_pos hkx, List.length_append, txtsV_snoc]
                exact hown2.mo hm3 (fun k hk => by simp; exact fun q => hown2.ne ho2b (by decide) k hk q.symm)
              have hx3' : Ext w1 W3 := below_mo hx2' hm3 hx2'.size (fun k hk => by simp at hk; omega)
              have hsW3 : Bk W3 sb 9 [str s] := hs1.ext hx3'
              refine fun _ _ => ⟨(hm2.keeps fun k hk => ?_).trans (hm3.keeps fun k hk => ?_), ?_, v2, ho3', hown3, hb2b.mo hm3 (by simp; exact hb2b.ne ho2b (by decide)), hx3', by simp only [List.mem_append, List.mem_singleton, not_or]; exact ⟨h5, fun q => hx2 q.symm⟩⟩
              · obtain ⟨_, l, hb⟩ := h2.blkT k (by simpa using hk)
                exact ⟨_, _, hb⟩
              · simp at hk
                subst hk
                exact ⟨_, _, ho2b⟩
              · show W3.heap[sb]? = W.heap[sb]?
                exact (hx3'.block sb hs1.lt).trans (h4.block sb hs1.lt).symm
      · rintro D xs W hD rfl ⟨v, h1, h2, h3, h4, h5⟩ hK
        obtain ⟨A, c, rfl, hc, hsl⟩ := h2.slice
        have hwt : wt (kept (parts s)) ≤ 140737488355328 := by have q1 := wt_filter keepB (parts s); have q2 := wt_parts s; unfold kept; omega
        have hDl : D < W.heap.size := (Array.getElem?_eq_some_iff.1 hK).1
        refine KR.leave (KR.seq (KR.region ?_))
        refine OR.val rfl rfl (EX.load Tryd.underlying23 rfl rfl (h1.cell_of rfl)) ?_
        refine OR.call rfl rfl rfl (join_c A c (kept (parts s)) _ W hsl (Nat.le_refl _) hc hwt) ?_
        rintro _ W2 ⟨rfl, hxW⟩
        refine OR.val rfl rfl (EX.assign rfl) ?_
        refine OR.nil ?_
        refine KR.seq (KR.seq ?_)
        have hK2 : W2.heap[D]? = some (.deferred (some [])) := (hxW.block D hDl).trans hK
        have hxe : Ext w (W2.putObj D (.deferred none)) := Ext.putObj ((hx1.trans h4).trans hxW) (by have := hx1.size; have := hx6.size; omega) _
        have h3' := h3.ext hxW
        refine KR.region ?_
        refine OR.val rfl rfl (EX.load Tryd.underlying4 rfl rfl (h3'.cell_of rfl)) ?_
        refine OR.val rfl rfl (EX.move rfl) ?_
        refine OR.val rfl rfl (EX.move rfl) ?_
        refine OR.val rfl rfl (EX.eqlS (r := []) rfl rfl) ?_
        refine OR.val rfl rfl (EX.pickF rfl rfl) ?_
        refine OR.val rfl rfl (EX.move rfl) ?_
        refine OR.splitD 47 rfl (fun j1 => ?_) (fun j1 => ?_)
        · refine OR.pass rfl rfl ?_
          refine OR.pass rfl rfl ?_
          refine OR.pass rfl rfl ?_
          refine OR.val rfl rfl (EX.pickT rfl rfl) ?_
          refine OR.nil ?_
          refine KR.condT rfl (KR.seq (KR.region ?_))
          refine OR.val rfl rfl (EX.assign rfl) ?_
          refine OR.val rfl rfl (EX.assign rfl) ?_
          refine OR.nil ?_
          refine KR.ret (retM2 (.inr rfl) rfl rfl (hK2) rfl rfl rfl ?_)
          have e : cleanP s = ([], 140) := by unfold cleanP; rw [if_neg (fun q => q.2.2.1 j1)]
          rw [e]
          exact ⟨rfl, hxe⟩
        · refine OR.val rfl rfl (EX.move rfl) ?_
          refine OR.val rfl rfl (EX.lenS Tryd.underlying9 rfl) ?_
          refine OR.val rfl rfl (by first | exact EX.gtrN (b := 120) rfl rfl | exact EX.gtrZ rfl rfl) ?_
          refine OR.val rfl rfl (EX.pickF rfl rfl) ?_
          refine OR.nil ?_
          refine KR.condD rfl (fun j2 => ?_) (fun j2 => ?_)
          · refine KR.seq (KR.region ?_)
            refine OR.val rfl rfl (EX.assign rfl) ?_
            refine OR.val rfl rfl (EX.assign rfl) ?_
            refine OR.nil ?_
            refine KR.ret (retM2 (.inr rfl) rfl rfl (hK2) rfl rfl rfl ?_)
            have e : cleanP s = ([], 140) := by unfold cleanP; rw [if_neg (fun q => by have := q.2.2.2; omega)]
            rw [e]
            exact ⟨rfl, hxe⟩
          · refine KR.skip (KR.seq (KR.region ?_))
            refine OR.val rfl rfl (EX.move rfl) ?_
            refine OR.val rfl rfl (EX.assign rfl) ?_
            refine OR.val rfl rfl (EX.assign rfl) ?_
            refine OR.nil ?_
            refine KR.ret (retM2 (.inr rfl) rfl rfl (hK2) rfl rfl rfl ?_)
            have e : cleanP s = (joinS (kept (parts s)), 0) := by unfold cleanP; rw [if_pos ⟨hfit, h5, j1, by omega⟩]
            rw [e]
            exact ⟨rfl, hxe⟩
      · rintro D c pre W hD hpre ⟨p0, rfl, rfl, v, h1, h2, h3, h4⟩ hK
        obtain ⟨A, c, rfl, hc, hsl⟩ := h2.slice
        have hwt : wt (kept p0) ≤ 140737488355328 := by
          have q1 := wt_filter keepB p0
          have q2 := wt_parts s
          obtain ⟨r, hr⟩ := hpre
          rw [← hr, wt_append, wt_append] at q2
          unfold kept
          omega
        have e : cleanP s = ([], 140) := by
          unfold cleanP
          rw [if_neg]
          rintro ⟨_, h, _⟩
          exact h (hpre.subset (by simp))
        have hDl : D < W.heap.size := (Array.getElem?_eq_some_iff.1 hK).1
        refine KR.exit rfl (KR.seq (KR.region ?_))
        refine OR.val rfl rfl (EX.load Tryd.underlying23 rfl rfl (h1.cell_of rfl)) ?_
        refine OR.call rfl rfl rfl (join_c A c (kept p0) _ W hsl (Nat.le_refl _) hc hwt) ?_
        rintro _ W2 ⟨rfl, hxW⟩
        refine OR.val rfl rfl (EX.assign rfl) ?_
        refine OR.nil ?_
        refine KR.seq (KR.seq ?_)
        have hK2 : W2.heap[D]? = some (.deferred (some [])) := (hxW.block D hDl).trans hK
        have hxe : Ext w (W2.putObj D (.deferred none)) := Ext.putObj ((hx1.trans h4).trans hxW) (by have := hx1.size; have := hx6.size; omega) _
        have h3' := h3.ext hxW
        refine KR.region ?_
        refine OR.val rfl rfl (EX.load Tryd.underlying4 rfl rfl (h3'.cell_of rfl)) ?_
        refine OR.val rfl rfl (EX.move rfl) ?_
        refine OR.pass rfl rfl ?_
        refine OR.pass rfl rfl ?_
        refine OR.val rfl rfl (EX.pickT rfl rfl) ?_
        refine OR.val rfl rfl (EX.move rfl) ?_
        refine OR.pass rfl rfl ?_
        refine OR.pass rfl rfl ?_
        refine OR.pass rfl rfl ?_
        refine OR.val rfl rfl (EX.pickT rfl rfl) ?_
        refine OR.nil ?_
        refine KR.condT rfl (KR.seq (KR.region ?_))
        refine OR.val rfl rfl (EX.assign rfl) ?_
        refine OR.val rfl rfl (EX.assign rfl) ?_
        refine OR.nil ?_
        refine KR.ret (retM2 (.inr rfl) rfl rfl (hK2) rfl rfl rfl ?_)
        rw [e]
        exact ⟨rfl, hxe⟩
end Go.Proofs.YtifnlmpnkjhlnaaDoor
