/-
  disk: all kept, all changes are done; none kept, none.
-/
import Derived.Test.YtdjcgffhnakeeaaDskO
import Derived.Test.YtdjcgffhnakeeaaKe
namespace Go.Proofs.Ytdjcgffhnakeeaa
open Go.RowKit Dsk
set_option linter.unusedVariables false
set_option linter.unusedSimpArgs false

/-! ### In plain words -/
def allCh (cs : List Ch) (s : List UInt8) : List UInt8 := cs.foldl (fun a c => c.ap a) s
theorem fallen_all : ∀ (cs : List Ch) (n : Nat) (s : List UInt8), cs.length ≤ n → fallen cs (List.replicate n true) s = allCh cs s
  | [], n, s, _ => by cases n <;> rfl
  | c :: cs, 0, s, h => by simp at h
  | c :: cs, n + 1, s, h => by
    rw [List.replicate_succ]
    simp only [fallen, if_true]
    exact fallen_all cs n _ (by simpa using h)
theorem fallen_no : ∀ (cs : List Ch) (n : Nat) (s : List UInt8), fallen cs (List.replicate n false) s = s
  | [], n, s => by cases n <;> rfl
  | c :: cs, 0, s => rfl
  | c :: cs, n + 1, s => by
    rw [List.replicate_succ]
    simp only [fallen]
    exact fallen_no cs n s
/-- changes are under way: nothing fell, what is now is all that is pending, done on what is kept -/
structure Under (D : Dv) : Prop where
  dead : D.dead = false
  at0 : D.at_ = 0
  now : D.now = allCh D.pend D.kept
theorem does_under {D : Dv} (h : Under D) (c : Ch) : Under (D.does (some c)).1 ∧ (D.does (some c)).1.kept = D.kept := by
  have e : D.does (some c) = ({ D with pend := D.pend ++ [c], now := c.ap D.now, calls := D.calls + 1 }, 0) := by
    unfold Dv.does
    simp [Dv.pushed, h.at0, Dv.done]
  rw [e]
  refine ⟨⟨h.dead, h.at0, ?_⟩, rfl⟩
  show c.ap D.now = allCh (D.pend ++ [c]) D.kept
  rw [h.now]
  simp [allCh]
theorem act_under {D : Dv} (h : Under D) (a : Ac) (hk : a.kind = 1 ∨ a.kind = 2) : Under (D.act a).1 ∧ (D.act a).1.kept = D.kept := by
  unfold Dv.act
  rw [if_neg (by omega)]
  rcases hk with hk | hk
  · rw [if_pos hk]
    show Under (D.write a.n (sector a.fill a.odd)).1 ∧ _
    unfold Dv.write
    rw [h.dead, if_neg (by simp)]
    split
    · exact ⟨h, rfl⟩
    · split
      · exact ⟨h, rfl⟩
      · exact does_under h _
  · rw [if_neg (by omega), if_pos hk]
    show Under (D.cut a.n).1 ∧ _
    unfold Dv.cut
    rw [h.dead, if_neg (by simp)]
    split
    · exact ⟨h, rfl⟩
    · exact does_under h _
def isCh (a : Ac) : Bool := decide (a.kind = 1 ∨ a.kind = 2)
def chs (l : List Ac) : List Ac := l.filter isCh
theorem chs_snoc (l : List Ac) {i : Nat} (h : i < l.length) : chs (l.take (i + 1)) = if isCh l[i] = true then chs (l.take i) ++ [l[i]] else chs (l.take i) := by
  rw [List.take_add_one, List.getElem?_eq_getElem h]
  unfold chs
  rw [Option.toList_some, List.filter_append, List.filter_cons, List.filter_nil]
  split <;> simp
theorem actsV_snoc (l : List Ac) (a : Ac) : actsV (l ++ [a]) = actsV l ++ a.cells := by rw [actsV_flat, actsV_flat]; simp
theorem act_keep {D : Dv} (h : Under D) (a : Ac) (hk : a.kind = 1 ∨ a.kind = 2) : (D.act a).1.keep = D.keep := by
  have hd : ∀ c, (D.does (some c)).1.keep = D.keep := fun c => by unfold Dv.does; simp [Dv.pushed, h.at0, Dv.done]
  unfold Dv.act
  rw [if_neg (by omega)]
  rcases hk with hk | hk
  · rw [if_pos hk]
    show (D.write a.n (sector a.fill a.odd)).1.keep = _
    unfold Dv.write
    rw [h.dead, if_neg (by simp)]
    split
    · rfl
    · split
      · rfl
      · exact hd _
  · rw [if_neg (by omega), if_pos hk]
    show (D.cut a.n).1.keep = _
    unfold Dv.cut
    rw [h.dead, if_neg (by simp)]
    split
    · rfl
    · exact hd _
/-! ### The program -/
theorem diskKeeps_s (c : Int) (c0 : -9223372036854775808 ≤ c) (c1 : c ≤ 9223372036854775807) (acts : List Ac) (hok : ∀ a ∈ acts, a.Ok) (A : Option Addr) (k : Nat) (more : List Ac) (hok2 : ∀ a ∈ more, a.Ok) (A2 : Option Addr) (k2 : Nat) (w : World) (C : Nat) (hsl : Sl w C A (actsV acts)) (C2 : Nat) (hsl2 : Sl w C2 A2 (actsV more)) :
    Ret Try.prog 5 [.int .i64 c, .slice A acts.length k, .slice A2 more.length k2] w fun v w' => v = .bool true ∧ Ext w w' := by
  refine Ret.enter Try.func5 rfl Try.ntmps5 (by kernel_rfl) rfl ?_
  refine KW.seq (KW.region ?_)
  refine OW.val rfl rfl (EX.assign rfl) ?_
  refine OW.nil ?_
  refine KW.seq (KW.seq (KW.region ?_))
  refine OW.val rfl rfl (EX.move rfl) ?_
  refine OW.val rfl rfl (EX.lenA Try.underlying33 rfl) ?_
  refine OW.val rfl rfl (by first | exact EX.gtrN (b := 60) rfl rfl | exact EX.gtrZ rfl rfl) ?_
  refine OW.nil ?_
  refine KW.condD rfl (fun h60 => ?_) (fun h60 => ?_)
  · refine KW.seq (KW.region ?_)
    refine OW.call rfl rfl rfl (awake_s w) ?_
    rintro _ w1 ⟨rfl, hx1⟩
    refine OW.val rfl rfl (EX.assign rfl) ?_
    refine OW.nil ?_
    refine KW.ret (ret1 rfl rfl ?_)
    exact ⟨rfl, hx1⟩
  · refine KW.skip (KW.seq (KW.region ?_))
    refine OW.val rfl rfl (EX.assign rfl) ?_
    refine OW.nil ?_
    refine KW.seq (KW.seq (KW.region ?_))
    refine OW.val rfl rfl (EX.assign rfl) ?_
    refine OW.nil ?_
    refine KW.block ?_
    refine KW.loop3 (fun (i : Nat) (v : Value) (wr : World) => i ≤ more.length ∧ Own wr w.heap.size 44 6 v (chs (more.take i)).length (actsV (chs (more.take i))) ∧ Ext w wr) (fun (i : Nat) (v : Value) (wr : World) => [(0, .int .i64 (c : Int)), (1, .slice A acts.length k), (2, .slice A2 more.length k2), (7, v), (8, .int .i64 ((i : Nat) : Int))]) (fun (i : Nat) (v : Value) (wr : World) => wr) (fun (i : Nat) (v : Value) (wr : World) => more.length - i) (0) (.slice none 0 0) (w) ⟨rfl, rfl, rfl, rfl, rfl, trivial⟩ rfl ?_ ?_
    · exact ⟨by omega, Own.nil _ _ _ _, Ext.refl _⟩
    · rintro i v wr ⟨hi, hown, hx⟩
      refine KW.seq (KW.seq (KW.region ?_))
      refine OW.val rfl rfl (EX.move rfl) ?_
      refine OW.val rfl rfl (EX.move rfl) ?_
      refine OW.val rfl rfl (EX.lenA Try.underlying33 rfl) ?_
      refine OW.val rfl rfl (by first | exact EX.lssN rfl rfl | exact EX.lssZ rfl rfl) ?_
      refine OW.nil ?_
      refine KW.condD rfl (fun hlt => ?_) (fun hlt => ?_)
      · have hkl : (chs (more.take i)).length ≤ i := Nat.le_trans (List.length_filter_le _ _) (by simp; omega)
        obtain ⟨ba, o, rfl, _, hcell⟩ := acts_cell (hsl2.ext hx) hlt
        have hsn := chs_snoc more hlt
        refine KW.skip (KW.seq (KW.block (KW.seq ?_)))
        refine KW.region ?_
        refine OW.val rfl rfl (EX.move rfl) ?_
        refine OW.val rfl rfl (EX.move rfl) ?_
        refine OW.val rfl rfl (EX.indexAddrS Try.underlying33 ti44 rfl rfl (by omega)) ?_
        refine OW.val rfl rfl (EX.fieldAddr (off := 0) Try.underlying44 rfl rfl ti3 rfl rfl) ?_
        refine OW.val rfl rfl (EX.load Try.underlying3 rfl rfl (hcell 0 _ rfl)) ?_
        refine OW.val rfl rfl (by first | exact EX.eqlN (b := 1) rfl rfl | exact EX.eqlZ rfl rfl) ?_
        refine OW.val rfl rfl (EX.move rfl) ?_
        refine OW.splitD 32 rfl (fun k1 => ?_) (fun k1 => ?_)
        · rw [if_pos (by simp [isCh, k1])] at hsn
          refine OW.pass rfl rfl ?_
          refine OW.pass rfl rfl ?_
          refine OW.pass rfl rfl ?_
          refine OW.pass rfl rfl ?_
          refine OW.pass rfl rfl ?_
          refine OW.pass rfl rfl ?_
          refine OW.val rfl rfl (EX.pickT rfl rfl) ?_
          refine OW.nil ?_
          refine KW.condT rfl (KW.region ?_)
          refine OW.val rfl rfl (EX.move rfl) ?_
          refine OW.val rfl rfl (EX.move rfl) ?_
          refine OW.val rfl rfl (EX.move rfl) ?_
          refine OW.val rfl rfl (EX.indexAddrS Try.underlying33 ti44 rfl rfl (by omega)) ?_
          refine OW.val rfl rfl (EX.loadA (l := (more[i]).cells) Try.underlying44 rfl ti44 rfl rfl hcell) ?_
          have hone : (more[i]).cells.all (·.oneCell') = true := by have := (hok2 _ (List.getElem_mem hlt)).one; simp only [Ac.cells, List.all_cons, List.all_nil, this]; rfl
          refine OW.pushS rfl rfl (fun _ => rfl) rfl Try.underlying33 ti44 rfl (by decide) (by decide) rfl rfl (fun _ => rfl) (by first | rfl | assumption | (simp only [List.all_cons, List.all_nil, Bool.and_true, Bool.true_and, Bool.and_eq_true, Value.oneCell']; repeat (first | assumption | constructor))) (hx) (hown) (by simp only [maxLen]; omega) (by omega) ?_
          rintro _ v2 w2 hown2 hx2 hg2
          refine OW.val rfl rfl (EX.assign rfl) ?_
          refine OW.nil ?_
          refine KW.leave (KW.region ?_)
          refine OW.val rfl rfl (EX.move rfl) ?_
          refine OW.val rfl rfl (by first | exact EX.addN (b := 1) (m := 9223372036854775807) rfl rfl rfl (by omega) | exact EX.addZ (m := 9223372036854775807) rfl rfl rfl rfl (by omega)) ?_
          refine OW.val rfl rfl (EX.assign rfl) ?_
          refine OW.nil ?_
          refine KW.back3 (i + 1) (v2) (w2) ⟨rfl, rfl, rfl, rfl, rfl, trivial⟩ rfl ?_ (by omega)
          exact ⟨by omega, by rw [hsn, List.length_append, actsV_snoc]; exact hown2, hx2⟩
        · refine OW.val rfl rfl (EX.move rfl) ?_
          refine OW.val rfl rfl (EX.move rfl) ?_
          refine OW.val rfl rfl (EX.indexAddrS Try.underlying33 ti44 rfl rfl (by omega)) ?_
          refine OW.val rfl rfl (EX.fieldAddr (off := 0) Try.underlying44 rfl rfl ti3 rfl rfl) ?_
          refine OW.val rfl rfl (EX.load Try.underlying3 rfl rfl (hcell 0 _ rfl)) ?_
          refine OW.val rfl rfl (by first | exact EX.eqlN (b := 2) rfl rfl | exact EX.eqlZ rfl rfl) ?_
          refine OW.val rfl rfl (EX.pickF rfl rfl) ?_
          refine OW.nil ?_
          refine KW.condD rfl (fun k2' => ?_) (fun k2' => ?_)
          · rw [if_pos (by simp [isCh, k2'])] at hsn
            refine KW.region ?_
            refine OW.val rfl rfl (EX.move rfl) ?_
            refine OW.val rfl rfl (EX.move rfl) ?_
            refine OW.val rfl rfl (EX.move rfl) ?_
            refine OW.val rfl rfl (EX.indexAddrS Try.underlying33 ti44 rfl rfl (by omega)) ?_
            refine OW.val rfl rfl (EX.loadA (l := (more[i]).cells) Try.underlying44 rfl ti44 rfl rfl hcell) ?_
            have hone : (more[i]).cells.all (·.oneCell') = true := by have := (hok2 _ (List.getElem_mem hlt)).one; simp only [Ac.cells, List.all_cons, List.all_nil, this]; rfl
            refine OW.pushS rfl rfl (fun _ => rfl) rfl Try.underlying33 ti44 rfl (by decide) (by decide) rfl rfl (fun _ => rfl) (by first | rfl | assumption | (simp only [List.all_cons, List.all_nil, Bool.and_true, Bool.true_and, Bool.and_eq_true, Value.oneCell']; repeat (first | assumption | constructor))) (hx) (hown) (by simp only [maxLen]; omega) (by omega) ?_
            rintro _ v2 w2 hown2 hx2 hg2
            refine OW.val rfl rfl (EX.assign rfl) ?_
            refine OW.nil ?_
            refine KW.leave (KW.region ?_)
            refine OW.val rfl rfl (EX.move rfl) ?_
            refine OW.val rfl rfl (by first | exact EX.addN (b := 1) (m := 9223372036854775807) rfl rfl rfl (by omega) | exact EX.addZ (m := 9223372036854775807) rfl rfl rfl rfl (by omega)) ?_
            refine OW.val rfl rfl (EX.assign rfl) ?_
            refine OW.nil ?_
            refine KW.back3 (i + 1) (v2) (w2) ⟨rfl, rfl, rfl, rfl, rfl, trivial⟩ rfl ?_ (by omega)
            exact ⟨by omega, by rw [hsn, List.length_append, actsV_snoc]; exact hown2, hx2⟩
          · rw [if_neg (by simp [isCh, k1, k2'])] at hsn
            refine KW.skip (KW.leave (KW.region ?_))
            refine OW.val rfl rfl (EX.move rfl) ?_
            refine OW.val rfl rfl (by first | exact EX.addN (b := 1) (m := 9223372036854775807) rfl rfl rfl (by omega) | exact EX.addZ (m := 9223372036854775807) rfl rfl rfl rfl (by omega)) ?_
            refine OW.val rfl rfl (EX.assign rfl) ?_
            refine OW.nil ?_
            refine KW.back3 (i + 1) (v) (wr) ⟨rfl, rfl, rfl, rfl, rfl, trivial⟩ rfl ?_ (by omega)
            exact ⟨by omega, by rw [hsn]; exact hown, hx⟩
      · obtain rfl : i = more.length := by omega
        rw [List.take_length] at hown
        have hlo : ∀ a ∈ chs more, (a.kind = 1 ∨ a.kind = 2) ∧ a.Ok := fun a ha => by
          obtain ⟨h1, h2⟩ := List.mem_filter.1 ha
          exact ⟨by simpa [isCh] using h2, hok2 a h1⟩
        have hll : (chs more).length ≤ more.length := List.length_filter_le _ _
        generalize hl : chs more = l at hown hlo hll
        obtain ⟨AL, cL, rfl, hcL, _⟩ := hown.slice
        refine KW.exit rfl (KW.seq (KW.seq (KW.region ?_)))
        refine OW.val rfl rfl (EX.assign rfl) ?_
        refine OW.nil ?_
        refine KW.block ?_
        refine KW.loop2 (fun (r : Nat) (wr : World) => r ≤ 2 ∧ Own wr w.heap.size 44 6 (.slice AL l.length cL) l.length (actsV l) ∧ Ext w wr) (fun (r : Nat) (wr : World) => [(0, .int .i64 (c : Int)), (1, .slice A acts.length k), (7, .slice AL l.length cL), (9, .int .i64 ((r : Nat) : Int))]) (fun (r : Nat) (wr : World) => wr) (fun (r : Nat) (wr : World) => 2 - r) (0) (wr) ⟨rfl, rfl, rfl, rfl, trivial⟩ rfl ?_ ?_
        · exact ⟨by omega, hown, hx⟩
        · rintro r w0 ⟨hr, hownL, hx0⟩
          refine KW.seq (KW.seq (KW.region ?_))
          refine OW.val rfl rfl (EX.move rfl) ?_
          refine OW.val rfl rfl (by first | exact EX.lssN (b := 2) rfl rfl | exact EX.lssZ rfl rfl) ?_
          refine OW.nil ?_
          refine KW.condD rfl (fun hr2 => ?_) (fun hr2 => ?_)
          · refine KW.skip (KW.seq (KW.block (KW.seq (KW.region ?_))))
            refine OW.val rfl rfl (EX.move rfl) ?_
            refine OW.val rfl rfl (EX.move rfl) ?_
            refine OW.call rfl rfl rfl (changed_s c c0 c1 acts hok A k C w0 (hsl.ext hx0)) ?_
            rintro vd w1 ⟨hx1, hor⟩
            refine OW.val rfl rfl (EX.assign rfl) ?_
            refine OW.nil ?_
            refine KW.seq (KW.seq (KW.region ?_))
            refine OW.val rfl rfl (EX.move rfl) ?_
            rcases hor with rfl | ⟨b, rfl, hlen, hm, hc40, hd1, hDok, hcl, hpl, ha0, hk0⟩
            · refine OW.val rfl rfl (EX.eqlP0 Try.underlying23 rfl rfl) ?_
              refine OW.nil ?_
              refine KW.condT rfl (KW.seq (KW.region ?_))
              refine OW.call rfl rfl rfl (awake_s w1) ?_
              rintro _ w2 ⟨rfl, hx2⟩
              refine OW.val rfl rfl (EX.assign rfl) ?_
              refine OW.nil ?_
              refine KW.ret (ret1 rfl rfl ?_)
              exact ⟨rfl, (hx0.trans hx1).trans hx2⟩
            · refine OW.val rfl rfl (EX.eqlP1 Try.underlying23 rfl rfl) ?_
              refine OW.nil ?_
              refine KW.condF rfl (KW.skip (KW.seq (KW.seq (KW.region ?_))))
              refine OW.val rfl rfl (EX.move rfl) ?_
              generalize hD : (fresh c.toNat []).acts acts = D at hd1 hDok hcl hpl ha0 hk0
              have hlv : D.dead = false := by rw [← hD]; exact (acts_live acts rfl rfl).1
              have hsm : Small D := ⟨by omega, by omega, by omega, by rw [hk0]; decide⟩
              have e1 := sync_live hlv ha0
              have ok1 := sync_ok hDok
              rw [e1] at ok1
              have hu1 : Under { D with kept := D.now, pend := [], calls := D.calls + 1 } := ⟨hlv, ha0, rfl⟩
              generalize hE : ({ D with kept := D.now, pend := [], calls := D.calls + 1 } : Dv) = E at e1 ok1 hu1
              have hEk : E.kept = D.now ∧ E.now = D.now ∧ E.calls ≤ 61 ∧ E.pend = [] ∧ E.keep = [] := by rw [← hE]; exact ⟨rfl, rfl, by show D.calls + 1 ≤ _; omega, rfl, hk0⟩
              refine OW.call rfl rfl rfl (sync_e hd1 hDok hsm e1) ?_
              rintro _ w2 ⟨rfl, hd2, t2⟩
              refine OW.val rfl rfl (by first | exact EX.neqN (b := 0) rfl rfl | exact EX.neqZ rfl rfl) ?_
              refine OW.nil ?_
              have x1 := hx0.trans hx1
              have x2 : Ext w w2 := t2.below x1 x1.size hx0.size
              have hL2 := t2.own (hownL.ext hx1) rfl
              refine KW.as 59 (.bool false) rfl (congrArg Value.bool (decide_eq_false (by decide))) ?_
              refine KW.condF rfl (KW.skip (KW.seq (KW.region ?_)))
              refine OW.val rfl rfl (EX.move rfl) ?_
              refine OW.call rfl rfl rfl (image_d hd2 ok1) ?_
              rintro _ _ ⟨rfl, rfl⟩
              refine OW.val rfl rfl (EX.assign rfl) ?_
              refine OW.nil ?_
              refine KW.seq (KW.seq (KW.region ?_))
              refine OW.val rfl rfl (EX.assign rfl) ?_
              refine OW.nil ?_
              refine KW.block ?_
              rw [hEk.2.1]
              refine KW.loop3 (fun (i : Nat) (F : Dv) (wr : World) => i ≤ l.length ∧ Under F ∧ F.Ok ∧ F.kept = D.now ∧ F.calls ≤ 61 + i ∧ F.pend.length ≤ i ∧ F.keep = [] ∧ DevAt wr w0.heap.size b F ∧ Own wr w.heap.size 44 6 (.slice AL l.length cL) l.length (actsV l) ∧ Ext w wr) (fun (i : Nat) (F : Dv) (wr : World) => [(0, .int .i64 (c : Int)), (1, .slice A acts.length k), (7, .slice AL l.length cL), (9, .int .i64 ((r : Nat) : Int)), (10, .pointer (some ⟨b, 0, none⟩)), (11, str (D.now)), (12, .int .i64 ((i : Nat) : Int))]) (fun (i : Nat) (F : Dv) (wr : World) => wr) (fun (i : Nat) (F : Dv) (wr : World) => l.length - i) (0) (E) (w2) ⟨rfl, rfl, rfl, rfl, rfl, rfl, rfl, trivial⟩ rfl ?_ ?_
              · exact ⟨by omega, hu1, ok1, hEk.1, by omega, by rw [hEk.2.2.2.1]; simp, hEk.2.2.2.2, hd2, hL2, x2⟩
              · rintro i F wr ⟨hi, hu, hFok, hFk, hFc, hFp, hFq, hd, hL, xw⟩
                refine KW.seq (KW.seq (KW.region ?_))
                refine OW.val rfl rfl (EX.move rfl) ?_
                refine OW.val rfl rfl (EX.move rfl) ?_
                refine OW.val rfl rfl (EX.lenA Try.underlying33 rfl) ?_
                refine OW.val rfl rfl (by first | exact EX.lssN rfl rfl | exact EX.lssZ rfl rfl) ?_
                refine OW.nil ?_
                refine KW.condD rfl (fun hlt => ?_) (fun hlt => ?_)
                · obtain ⟨A', c', e', _, hs'⟩ := hL.slice
                  cases e'
                  obtain ⟨ba, o, rfl, _, hcell⟩ := acts_cell hs' hlt
                  obtain ⟨hk12, hao⟩ := hlo _ (List.getElem_mem hlt)
                  have hsF : Small F := ⟨by omega, by omega, by rw [hu.at0]; omega, by rw [hFq]; decide⟩
                  obtain ⟨g1, g2, _⟩ := act_grew F l[i]
                  obtain ⟨u1, u2⟩ := act_under hu l[i] hk12
                  refine KW.skip (KW.seq (KW.block (KW.region ?_)))
                  refine OW.val rfl rfl (EX.move rfl) ?_
                  refine OW.val rfl rfl (EX.move rfl) ?_
                  refine OW.val rfl rfl (EX.move rfl) ?_
                  refine OW.val rfl rfl (EX.indexAddrS Try.underlying33 ti44 rfl rfl (by omega)) ?_
                  refine OW.val rfl rfl (EX.loadA (l := (l[i]).cells) Try.underlying44 rfl ti44 rfl rfl hcell) ?_
                  refine OW.call rfl rfl rfl (act_d hd hFok hsF (l[i]) hao (by omega) (by omega)) ?_
                  rintro _ w3 ⟨rfl, hd3, t3⟩
                  refine OW.nil ?_
                  refine KW.leave (KW.region ?_)
                  refine OW.val rfl rfl (EX.move rfl) ?_
                  refine OW.val rfl rfl (by first | exact EX.addN (b := 1) (m := 9223372036854775807) rfl rfl rfl (by omega) | exact EX.addZ (m := 9223372036854775807) rfl rfl rfl rfl (by omega)) ?_
                  refine OW.val rfl rfl (EX.assign rfl) ?_
                  refine OW.nil ?_
                  refine KW.back3 (i + 1) ((F.act l[i]).1) (w3) ⟨rfl, rfl, rfl, rfl, rfl, rfl, rfl, trivial⟩ rfl ?_ (by omega)
                  exact ⟨by omega, u1, act_ok hFok _, by rw [u2, hFk], by omega, by omega, by rw [act_keep hu l[i] hk12, hFq], hd3, t3.own hL rfl, t3.below xw xw.size hx0.size⟩
                · obtain rfl : i = l.length := by omega
                  generalize hq : decide (r = 1) = q
                  refine KW.exit rfl (KW.seq (KW.region ?_))
                  refine OW.val rfl rfl (EX.move rfl) ?_
                  refine OW.call rfl rfl rfl (image_d hd hFok) ?_
                  rintro _ _ ⟨rfl, rfl⟩
                  refine OW.val rfl rfl (EX.assign rfl) ?_
                  refine OW.nil ?_
                  refine KW.seq (KW.region ?_)
                  refine OW.val rfl rfl (EX.move rfl) ?_
                  refine OW.val rfl rfl (EX.lenA Try.underlying33 rfl) ?_
                  refine OW.makeB rfl rfl Try.underlying34 ti4 rfl rfl rfl (by omega) (by omega) ?_
                  rintro kb w4 hge4 hk4 hx4
                  refine OW.val rfl rfl (EX.assign rfl) ?_
                  refine OW.nil ?_
                  refine KW.seq (KW.seq (KW.region ?_))
                  refine OW.val rfl rfl (EX.assign rfl) ?_
                  refine OW.nil ?_
                  refine KW.block ?_
                  refine KW.loop2 (fun (j : Nat) (w5 : World) => j ≤ l.length ∧ Bk w5 kb 4 (boolsV (List.replicate j q ++ List.replicate (l.length - j) false)) ∧ Ext wr w5) (fun (j : Nat) (w5 : World) => [(0, .int .i64 (c : Int)), (1, .slice A acts.length k), (7, .slice AL l.length cL), (9, .int .i64 ((r : Nat) : Int)), (10, .pointer (some ⟨b, 0, none⟩)), (11, str (D.now)), (13, str (F.now)), (14, .slice (some ⟨kb, 0, none⟩) l.length l.length), (15, .int .i64 ((j : Nat) : Int))]) (fun (j : Nat) (w5 : World) => w5) (fun (j : Nat) (w5 : World) => l.length - j) (0) (w4) ⟨rfl, rfl, rfl, rfl, rfl, rfl, rfl, rfl, rfl, trivial⟩ rfl ?_ ?_
                  · exact ⟨by omega, by simpa [boolsV] using hk4, hx4⟩
                  · rintro j w5 ⟨hj, hk5, hx5⟩
                    refine KW.seq (KW.seq (KW.region ?_))
                    refine OW.val rfl rfl (EX.move rfl) ?_
                    refine OW.val rfl rfl (EX.move rfl) ?_
                    refine OW.val rfl rfl (EX.lenA Try.underlying34 rfl) ?_
                    refine OW.val rfl rfl (by first | exact EX.lssN rfl rfl | exact EX.lssZ rfl rfl) ?_
                    refine OW.nil ?_
                    refine KW.condD rfl (fun hj2 => ?_) (fun hj2 => ?_)
                    · refine KW.skip (KW.seq (KW.block (KW.region ?_)))
                      refine OW.val rfl rfl (EX.move rfl) ?_
                      refine OW.val rfl rfl (EX.move rfl) ?_
                      refine OW.val rfl rfl (EX.move rfl) ?_
                      refine OW.val rfl rfl (by first | exact EX.eqlN (b := 1) rfl rfl | exact EX.eqlZ rfl rfl) ?_
                      refine OW.val rfl rfl (by first | exact EX.indexAddrS0 Try.underlying34 ti4 rfl rfl (by omega) | exact EX.indexAddrS1 Try.underlying34 ti4 rfl rfl (by omega)) ?_
                      refine OW.storeB rfl ti4 rfl rfl (by first | rfl | assumption | exact Own.one (by assumption)) (hk5) (by simp [boolsV]; omega) ?_
                      rintro w6 hk6 hm6
                      refine OW.nil ?_
                      refine KW.leave (KW.region ?_)
                      refine OW.val rfl rfl (EX.move rfl) ?_
                      refine OW.val rfl rfl (by first | exact EX.addN (b := 1) (m := 9223372036854775807) rfl rfl rfl (by omega) | exact EX.addZ (m := 9223372036854775807) rfl rfl rfl rfl (by omega)) ?_
                      refine OW.val rfl rfl (EX.assign rfl) ?_
                      refine OW.nil ?_
                      refine KW.back2 (j + 1) (w6) ⟨rfl, rfl, rfl, rfl, rfl, rfl, rfl, rfl, rfl, trivial⟩ rfl ?_ (by omega)
                      refine ⟨by omega, ?_, below_mo hx5 hm6 hx5.size (fun k hk => by simp at hk; omega)⟩
                      rw [hq] at hk6
                      have es : (boolsV (List.replicate j q ++ List.replicate (l.length - j) false)).set j (.bool q) = boolsV (List.replicate (j + 1) q ++ List.replicate (l.length - (j + 1)) false) := by
                        rw [show l.length - j = (l.length - (j + 1)) + 1 by omega, List.replicate_succ, List.replicate_succ']
                        simp only [boolsV, List.map_append, List.map_cons, List.map_replicate, List.append_assoc, List.map_nil]
                        rw [List.set_append_right _ _ (by simp)]
                        simp
                      rw [← es]
                      exact hk6
                    · obtain rfl : j = l.length := by omega
                      rw [Nat.sub_self, List.replicate_zero, List.append_nil] at hk5
                      have hd5 := hd.ext hx5
                      have hL5 := hL.ext hx5
                      have x5 := xw.trans hx5
                      have e2 := plan_live hu.dead (List.replicate l.length q)
                      have ok2 := plan_ok hFok 1 (List.replicate l.length q)
                      rw [e2] at ok2
                      have hp := plan_e hd5 hFok 1 (by decide) (by decide) (some ⟨kb, 0, none⟩) l.length _ (List.replicate l.length q) hk5.sl (fun z => by cases z) (by simp; omega) e2
                      rw [List.length_replicate] at hp
                      have sm2 : Small { F with at_ := 1, keep := List.replicate l.length q } := ⟨by show F.calls ≤ _; omega, by show F.pend.length ≤ _; omega, by simp, by simp; omega⟩
                      have e3 := sync_falls (D := { F with at_ := 1, keep := List.replicate l.length q }) hu.dead rfl
                      have ok3 := sync_ok ok2
                      rw [e3] at ok3
                      have hfall : fallen F.pend (List.replicate l.length q) F.kept = if q = true then F.now else D.now := by
                        cases q
                        · rw [fallen_no, hFk]; rfl
                        · rw [fallen_all _ _ _ hFp, ← hu.now]; rfl
                      simp only [hfall] at e3 ok3
                      obtain ⟨J, e4, hJn, okJ⟩ : ∃ J : Dv, ({ F with at_ := 1, keep := List.replicate l.length q } : Dv).sync = (J, 190) ∧ J.now = (if q = true then F.now else D.now) ∧ J.Ok := ⟨_, e3, rfl, ok3⟩
                      have okU := up_ok okJ
                      refine KW.exit rfl (KW.seq (KW.seq ?_))
                      refine KW.region ?_
                      refine OW.val rfl rfl (EX.move rfl) ?_
                      refine OW.val rfl rfl (EX.move rfl) ?_
                      refine OW.val rfl rfl (EX.buildS (pl := [(0, 1), (1, 1)]) (ks := [0, 1]) (is := [0, 1]) (zs := [.int .i64 0, .slice none 0 0]) Try.underlying39 ti39 (by kernel_rfl) rfl rfl rfl (by first | rfl | (simp only [List.all_cons, List.all_nil, Bool.and_true, Bool.true_and, Bool.and_eq_true, Value.oneCell']; repeat (first | assumption | exact Own.one (by assumption) | constructor))) (by simp only [setAll, List.set_cons_zero, List.set_cons_succ]; rfl)) ?_
                      refine OW.call rfl rfl rfl (hp) ?_
                      rintro _ w6 ⟨rfl, hd6, t6⟩
                      refine OW.val rfl rfl (by first | exact EX.neqN (b := 0) rfl rfl | exact EX.neqZ rfl rfl) ?_
                      refine OW.val rfl rfl (EX.move rfl) ?_
                      have x6 : Ext w w6 := t6.below x5 x5.size hx0.size
                      have hL6 := t6.own hL5 rfl
                      refine OW.as 95 (.bool false) rfl (congrArg Value.bool (decide_eq_false (by decide))) ?_
                      refine OW.val rfl rfl (EX.move rfl) ?_
                      refine OW.call rfl rfl rfl (sync_e hd6 ok2 sm2 e4) ?_
                      rintro _ w7 ⟨rfl, hd7, t7⟩
                      refine OW.val rfl rfl (by first | exact EX.neqN (b := 190) rfl rfl | exact EX.neqZ rfl rfl) ?_
                      refine OW.val rfl rfl (EX.pickF rfl rfl) ?_
                      refine OW.val rfl rfl (EX.move rfl) ?_
                      have x7 : Ext w w7 := t7.below x6 x6.size hx0.size
                      have hL7 := t7.own hL6 rfl
                      refine OW.as 100 (.bool false) rfl (congrArg Value.bool (decide_eq_false (by decide))) ?_
                      refine OW.val rfl rfl (EX.move rfl) ?_
                      refine OW.call rfl rfl rfl (up_d hd7 okJ) ?_
                      rintro _ w8 ⟨rfl, hd8, t8⟩
                      refine OW.val rfl rfl (by first | exact EX.neqN (b := 0) rfl rfl | exact EX.neqZ rfl rfl) ?_
                      refine OW.val rfl rfl (EX.pickF rfl rfl) ?_
                      refine OW.nil ?_
                      have x8 : Ext w w8 := t8.below x7 x7.size hx0.size
                      have hL8 := t8.own hL7 rfl
                      refine KW.condD rfl (fun hz => ?_) (fun hz => ?_)
                      · exact absurd rfl hz
                      · have hr3 : r = 0 ∨ r = 1 := by omega
                        rcases hr3 with rfl | rfl
                        · obtain rfl : q = false := by rw [← hq]; rfl
                          have hJ2 : ({ J with dead := false } : Dv).now = D.now := by show J.now = _; rw [hJn]; rfl
                          refine KW.skip (KW.seq ?_)
                          refine KW.region ?_
                          refine OW.val rfl rfl (EX.move rfl) ?_
                          refine OW.val rfl rfl (by first | exact EX.eqlN (b := 0) rfl rfl | exact EX.eqlZ rfl rfl) ?_
                          refine OW.val rfl rfl (EX.move rfl) ?_
                          refine OW.as 107 (.bool true) rfl (congrArg Value.bool (decide_eq_true (rfl))) ?_
                          refine OW.val rfl rfl (EX.move rfl) ?_
                          refine OW.call rfl rfl rfl (image_d hd8 okU) ?_
                          rintro _ _ ⟨rfl, rfl⟩
                          refine OW.val rfl rfl (EX.move rfl) ?_
                          refine OW.val rfl rfl (EX.neqS rfl rfl) ?_
                          refine OW.val rfl rfl (EX.pickT rfl rfl) ?_
                          refine OW.val rfl rfl (EX.move rfl) ?_
                          refine OW.as 113 (.bool false) rfl (congrArg Value.bool (decide_eq_false (fun z => z hJ2))) ?_
                          refine OW.val rfl rfl (EX.move rfl) ?_
                          refine OW.val rfl rfl (by first | exact EX.eqlN (b := 1) rfl rfl | exact EX.eqlZ rfl rfl) ?_
                          refine OW.val rfl rfl (EX.move rfl) ?_
                          refine OW.as 116 (.bool false) rfl (congrArg Value.bool (decide_eq_false (by decide))) ?_
                          refine OW.pass rfl rfl ?_
                          refine OW.pass rfl rfl ?_
                          refine OW.pass rfl rfl ?_
                          refine OW.pass rfl rfl ?_
                          refine OW.val rfl rfl (EX.pickF rfl rfl) ?_
                          refine OW.val rfl rfl (EX.pickF rfl rfl) ?_
                          refine OW.nil ?_
                          refine KW.condF rfl (KW.skip (KW.leave (KW.region ?_)))
                          refine OW.val rfl rfl (EX.move rfl) ?_
                          refine OW.val rfl rfl (by first | exact EX.addN (b := 1) (m := 9223372036854775807) rfl rfl rfl (by omega) | exact EX.addZ (m := 9223372036854775807) rfl rfl rfl rfl (by omega)) ?_
                          refine OW.val rfl rfl (EX.assign rfl) ?_
                          refine OW.nil ?_
                          refine KW.back2 (1) (w8) ⟨rfl, rfl, rfl, rfl, trivial⟩ rfl ?_ (by omega)
                          exact ⟨by omega, hL8, x8⟩
                        · obtain rfl : q = true := by rw [← hq]; rfl
                          have hJ2 : ({ J with dead := false } : Dv).now = F.now := by show J.now = _; rw [hJn]; rfl
                          refine KW.skip (KW.seq ?_)
                          refine KW.region ?_
                          refine OW.val rfl rfl (EX.move rfl) ?_
                          refine OW.val rfl rfl (by first | exact EX.eqlN (b := 0) rfl rfl | exact EX.eqlZ rfl rfl) ?_
                          refine OW.val rfl rfl (EX.move rfl) ?_
                          refine OW.as 107 (.bool false) rfl (congrArg Value.bool (decide_eq_false (by decide))) ?_
                          refine OW.pass rfl rfl ?_
                          refine OW.pass rfl rfl ?_
                          refine OW.pass rfl rfl ?_
                          refine OW.pass rfl rfl ?_
                          refine OW.val rfl rfl (EX.pickF rfl rfl) ?_
                          refine OW.val rfl rfl (EX.move rfl) ?_
                          refine OW.val rfl rfl (EX.move rfl) ?_
                          refine OW.val rfl rfl (by first | exact EX.eqlN (b := 1) rfl rfl | exact EX.eqlZ rfl rfl) ?_
                          refine OW.val rfl rfl (EX.move rfl) ?_
                          refine OW.as 116 (.bool true) rfl (congrArg Value.bool (decide_eq_true (rfl))) ?_
                          refine OW.val rfl rfl (EX.move rfl) ?_
                          refine OW.call rfl rfl rfl (image_d hd8 okU) ?_
                          rintro _ _ ⟨rfl, rfl⟩
                          refine OW.val rfl rfl (EX.move rfl) ?_
                          refine OW.val rfl rfl (EX.neqS rfl rfl) ?_
                          refine OW.val rfl rfl (EX.pickT rfl rfl) ?_
                          refine OW.val rfl rfl (EX.pickF rfl rfl) ?_
                          refine OW.nil ?_
                          refine KW.as 122 (.bool false) rfl (congrArg Value.bool (decide_eq_false (fun z => z hJ2))) ?_
                          refine KW.condF rfl (KW.skip (KW.leave (KW.region ?_)))
                          refine OW.val rfl rfl (EX.move rfl) ?_
                          refine OW.val rfl rfl (by first | exact EX.addN (b := 1) (m := 9223372036854775807) rfl rfl rfl (by omega) | exact EX.addZ (m := 9223372036854775807) rfl rfl rfl rfl (by omega)) ?_
                          refine OW.val rfl rfl (EX.assign rfl) ?_
                          refine OW.nil ?_
                          refine KW.back2 (2) (w8) ⟨rfl, rfl, rfl, rfl, trivial⟩ rfl ?_ (by omega)
                          exact ⟨by omega, hL8, x8⟩
          · refine KW.exit rfl (KW.seq (KW.region ?_))
            refine OW.call rfl rfl rfl (awake_s w0) ?_
            rintro _ w1 ⟨rfl, hx1⟩
            refine OW.val rfl rfl (EX.assign rfl) ?_
            refine OW.nil ?_
            refine KW.ret (ret1 rfl rfl ?_)
            exact ⟨rfl, hx0.trans hx1⟩
end Go.Proofs.Ytdjcgffhnakeeaa
