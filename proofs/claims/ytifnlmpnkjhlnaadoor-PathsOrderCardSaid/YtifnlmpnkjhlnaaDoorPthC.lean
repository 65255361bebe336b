/-
  paths: Check; the document's Parts, Clean, Check.
-/
import Derived.Test.YtifnlmpnkjhlnaaDoorPthB
import Derived.Test.YtifnlmpnkjhlnaaDoorKg
namespace Go.Proofs.YtifnlmpnkjhlnaaDoor
open Go.RowKit Pth
set_option linter.unusedVariables false
set_option linter.unusedSimpArgs false

theorem check_s (s : List UInt8) (hs : s.length ≤ 1000000000000) (w : World) : Ret Tryd.prog 18 [str s] w fun v w' => v = .int .i64 ((checkP s : Nat) : Int) ∧ Ext w w' := by
  refine Ret.enter Tryd.func18 rfl Tryd.ntmps18 (by kernel_rfl) rfl ?_
  refine KW.seq (KW.region ?_)
  refine OW.val rfl rfl (EX.assign rfl) ?_
  refine OW.nil ?_
  refine KW.seq (KW.seq (KW.region ?_))
  refine OW.val rfl rfl (EX.move rfl) ?_
  refine OW.call rfl rfl rfl (clean_s s hs w) ?_
  rintro _ w1 ⟨rfl, hx⟩
  refine OW.val rfl rfl (EX.move rfl) ?_
  refine OW.val rfl rfl (EX.extract rfl rfl) ?_
  refine OW.val rfl rfl (EX.extract rfl rfl) ?_
  refine OW.val rfl rfl (EX.assign rfl) ?_
  refine OW.val rfl rfl (EX.assign rfl) ?_
  refine OW.nil ?_
  refine KW.seq ?_
  rcases hc : cleanP s with ⟨q, e⟩
  refine KW.region ?_
  refine OW.val rfl rfl (EX.move rfl) ?_
  refine OW.val rfl rfl (by first | exact EX.neqN (b := 0) rfl rfl | exact EX.neqZ rfl rfl) ?_
  refine OW.val rfl rfl (EX.move rfl) ?_
  refine OW.splitD 12 rfl (fun h1 => ?_) (fun h1 => ?_)
  · have h : checkP s = 140 := by unfold checkP; rw [hc, if_neg (by simp only [Prod.mk.injEq]; omega)]
    refine OW.pass rfl rfl ?_
    refine OW.pass rfl rfl ?_
    refine OW.pass rfl rfl ?_
    refine OW.val rfl rfl (EX.pickT rfl rfl) ?_
    refine OW.nil ?_
    refine KW.condT rfl (KW.seq (KW.region ?_))
    refine OW.val rfl rfl (EX.assign rfl) ?_
    refine OW.nil ?_
    refine KW.ret (ret1 rfl rfl ?_)
    rw [h]
    exact ⟨rfl, hx⟩
  · refine OW.val rfl rfl (EX.move rfl) ?_
    refine OW.val rfl rfl (EX.move rfl) ?_
    refine OW.val rfl rfl (EX.neqS rfl rfl) ?_
    refine OW.val rfl rfl (EX.pickF rfl rfl) ?_
    refine OW.nil ?_
    refine KW.condD rfl (fun h2 => ?_) (fun h2 => ?_)
    · have h : checkP s = 140 := by unfold checkP; rw [hc, if_neg (by simp only [Prod.mk.injEq]; exact fun q => h2 q.1)]
      refine KW.seq (KW.region ?_)
      refine OW.val rfl rfl (EX.assign rfl) ?_
      refine OW.nil ?_
      refine KW.ret (ret1 rfl rfl ?_)
      rw [h]
      exact ⟨rfl, hx⟩
    · have h : checkP s = 0 := by unfold checkP; rw [hc, if_pos (by simp only [Prod.mk.injEq]; exact ⟨by simpa using h2, by omega⟩)]
      refine KW.skip (KW.seq (KW.region ?_))
      refine OW.val rfl rfl (EX.assign rfl) ?_
      refine OW.nil ?_
      refine KW.ret (ret1 rfl rfl ?_)
      rw [h]
      exact ⟨rfl, hx⟩
/-! ### The document's -/
theorem parts_snoc47 : ∀ a : List UInt8, parts (a ++ [47]) = parts a ++ [[]]
  | [] => rfl
  | c :: a => by
    have ih := parts_snoc47 a
    rw [List.cons_append, parts_cons, parts_cons, ih]
    split
    · rfl
    · rcases hp : parts a with _ | ⟨p, r⟩
      · exact absurd hp (parts_ne a)
      · rfl
theorem parts_snoc {c : UInt8} (hc : c ≠ 47) : ∀ a : List UInt8, ∃ l x, parts a = l ++ [x] ∧ parts (a ++ [c]) = l ++ [x ++ [c]]
  | [] => ⟨[], [], rfl, by simp [parts, hc]⟩
  | b :: a => by
    obtain ⟨l, x, h1, h2⟩ := parts_snoc hc a
    rw [List.cons_append, parts_cons, parts_cons, h1, h2]
    split
    · exact ⟨[] :: l, x, rfl, rfl⟩
    · rcases l with _ | ⟨p, l⟩
      · exact ⟨[], b :: x, rfl, rfl⟩
      · exact ⟨(b :: p) :: l, x, rfl, rfl⟩
theorem txtsV_one {l : Txts} : ∀ u ∈ txtsV l, u.oneCell' = true := by
  intro u hu
  obtain ⟨_, _, rfl⟩ := List.mem_map.1 hu
  rfl
theorem txtsV_get {l : Txts} {i : Nat} (h : i < l.length) : (txtsV l)[i]? = some (str l[i]) := by simp [txtsV, h]
set_option maxRecDepth 20000 in
theorem rparts_s (s : List UInt8) (hs : s.length ≤ 1000000000000) (w : World) : Ret Tryd.prog 11 [str s] w fun v w' => Own w' w.heap.size 9 1 v (parts s).length (txtsV (parts s)) ∧ Ext w w' := by
  refine Ret.enter Tryd.func11 rfl Tryd.ntmps11 (by kernel_rfl) rfl ?_
  refine KW.seq (KW.region ?_)
  refine OW.val rfl rfl (EX.assign rfl) ?_
  refine OW.nil ?_
  refine KW.seq (KW.region ?_)
  refine OW.buildB 1 rfl rfl Tryd.underlying23 ti9 rfl rfl rfl rfl (by first | rfl | (simp only [List.all_cons, List.all_nil, Bool.and_true, Bool.and_eq_true]; assumption)) (by decide) ?_
  rintro gb w1 hge1 hg1 hx1
  refine OW.val rfl rfl (EX.assign rfl) ?_
  refine OW.nil ?_
  refine KW.seq (KW.seq (KW.region ?_))
  refine OW.val rfl rfl (EX.assign rfl) ?_
  refine OW.nil ?_
  refine KW.block ?_
  have hown1 : Own w1 w.heap.size 9 1 (.slice (some ⟨gb, 0, none⟩) 1 1) 1 (txtsV (parts (s.take 0))) := Own.of_bk (l := [str []]) hg1 hge1 rfl (by decide)
  refine KW.loop3 (fun (i : Nat) (v : Value) (wr : World) => i ≤ s.length ∧ Own wr w.heap.size 9 1 v (parts (s.take i)).length (txtsV (parts (s.take i))) ∧ Ext w wr) (fun (i : Nat) (v : Value) (wr : World) => [(0, str (s)), (3, v), (4, .int .i64 ((i : Nat) : Int))]) (fun (i : Nat) (v : Value) (wr : World) => wr) (fun (i : Nat) (v : Value) (wr : World) => s.length - i) (0) (.slice (some ⟨gb, 0, none⟩) 1 1) (w1) ⟨rfl, rfl, rfl, trivial⟩ rfl ?_ ?_
  · exact ⟨by omega, hown1, hx1⟩
  · rintro i v wr ⟨hi, hown, hx⟩
    refine KW.seq (KW.seq (KW.region ?_))
    refine OW.val rfl rfl (EX.move rfl) ?_
    refine OW.val rfl rfl (EX.move rfl) ?_
    refine OW.val rfl rfl (EX.lenS Tryd.underlying9 rfl) ?_
    refine OW.val rfl rfl (by first | exact EX.lssN rfl rfl | exact EX.lssZ rfl rfl) ?_
    refine OW.nil ?_
    refine KW.condD rfl (fun hlt => ?_) (fun hlt => ?_)
    · have hpl : (parts (s.take i)).length ≤ i + 1 := by have h1 := wt_len (parts (s.take i)); rw [wt_parts, List.length_take] at h1; omega
      have htk : s.take (i + 1) = s.take i ++ [s[i]] := by rw [List.take_add_one, List.getElem?_eq_getElem hlt]; rfl
      refine KW.skip (KW.seq (KW.block (KW.seq (KW.region ?_))))
      refine OW.val rfl rfl (EX.move rfl) ?_
      refine OW.val rfl rfl (EX.move rfl) ?_
      refine OW.val rfl rfl (EX.indexS Tryd.underlying9 rfl rfl (List.getElem?_eq_getElem (by omega))) ?_
      refine OW.val rfl rfl (by first | exact EX.eqlN (b := 47) rfl rfl | exact EX.eqlZ rfl rfl) ?_
      refine OW.nil ?_
      refine KW.condD rfl (fun h47 => ?_) (fun h47 => ?_)
      · have e47 : s[i] = 47 := UInt8.toNat_inj.1 h47
        refine KW.region ?_
        refine OW.val rfl rfl (EX.move rfl) ?_
        refine OW.push rfl rfl (fun _ => rfl) rfl Tryd.underlying23 ti9 rfl rfl (fun _ => rfl) rfl (hx) (hown) (by simp only [maxLen]; omega) (by omega) ?_
        rintro _ v2 w2 hown2 hx2 hg2 ho2
        refine OW.val rfl rfl (EX.assign rfl) ?_
        refine OW.nil ?_
        refine KW.leave (KW.region ?_)
        refine OW.val rfl rfl (EX.move rfl) ?_
        refine OW.val rfl rfl (by first | exact EX.addN (b := 1) (m := 9223372036854775807) rfl rfl rfl (by omega) | exact EX.addZ (m := 9223372036854775807) rfl rfl rfl rfl (by omega)) ?_
        refine OW.val rfl rfl (EX.assign rfl) ?_
        refine OW.nil ?_
        refine KW.back3 (i + 1) (v2) (w2) ⟨rfl, rfl, rfl, trivial⟩ rfl ?_ (by omega)
        refine ⟨by omega, ?_, hx2⟩
        rw [htk, e47, parts_snoc47, List.length_append, txtsV_snoc]
        exact hown2
      · obtain ⟨l, x, e1, e2⟩ := parts_snoc (c := s[i]) (fun q => h47 (by rw [q]; rfl)) (s.take i)
        rw [e1] at hown hpl
        rw [List.length_append, List.length_singleton] at hpl
        obtain ⟨g, cap, rest, rfl, hgB, hg, hgl, hgc, hgm⟩ := hown.blk (by rw [txtsV_length, List.length_append]; simp)
        have hlast : (txtsV (l ++ [x]) ++ rest)[l.length]? = some (str x) := by
          rw [List.getElem?_append_left (by simp [txtsV])]
          simp [txtsV]
        have hxl : x.length ≤ i := by
          have h1 := wt_parts (s.take i)
          rw [e1, wt_append, List.length_take] at h1
          simp only [wt] at h1
          omega
        rw [List.length_append, List.length_singleton] at hown ⊢
        refine KW.regionH 17 (by kernel_rfl) (by kernel_rfl) ?_
        refine HW.val rfl rfl (EX.move rfl) ?_
        refine HW.val rfl rfl (EX.move rfl) ?_
        refine HW.val rfl rfl (EX.lenA Tryd.underlying23 rfl) ?_
        refine HW.val rfl rfl (by first | exact EX.subN (b := 1) (m := 9223372036854775807) rfl rfl rfl (by omega) | exact EX.subZ (m := 9223372036854775807) rfl rfl rfl rfl (by omega)) ?_
        refine HW.val rfl rfl (EX.move rfl) ?_
        refine HW.val rfl rfl (EX.move rfl) ?_
        refine HW.val rfl rfl (EX.lenA Tryd.underlying23 rfl) ?_
        refine HW.val rfl rfl (by first | exact EX.subN (b := 1) (m := 9223372036854775807) rfl rfl rfl (by omega) | exact EX.subZ (m := 9223372036854775807) rfl rfl rfl rfl (by omega)) ?_
        refine HW.val rfl rfl (by first | exact EX.indexAddrS0 Tryd.underlying23 ti9 rfl rfl (by omega) | exact EX.indexAddrS1 Tryd.underlying23 ti9 rfl rfl (by omega)) ?_
        refine HW.val rfl rfl (EX.load Tryd.underlying9 rfl rfl (hg.drew.cell_of (by rw [Nat.add_sub_cancel]; exact hlast))) ?_
        refine HW.val rfl rfl (EX.move rfl) ?_
        refine HW.val rfl rfl (EX.move rfl) ?_
        refine HW.val rfl rfl (EX.move rfl) ?_
        refine HW.val rfl rfl (by first | exact EX.addN (b := 1) (m := 9223372036854775807) rfl rfl rfl (by omega) | exact EX.addZ (m := 9223372036854775807) rfl rfl rfl rfl (by omega)) ?_
        refine HW.val rfl rfl (EX.sliceLH Tryd.underlying9 rfl rfl rfl (by omega)) ?_
        refine HW.val rfl rfl (EX.addS rfl rfl (by first | omega | (simp only [List.length_append, List.length_cons, List.length_nil, List.length_take, List.length_drop, List.length_replicate]; omega))) ?_
        refine HW.val rfl rfl (by first | exact EX.indexAddrS0 Tryd.underlying23 ti9 rfl rfl (by omega) | exact EX.indexAddrS1 Tryd.underlying23 ti9 rfl rfl (by omega)) ?_
        refine HW.tail ?_
        have hgd := hg.drew
        refine OW.storeB rfl ti9 rfl rfl (by first | rfl | assumption | exact Own.one (by assumption)) (hgd) (by rw [List.length_append, txtsV_length, List.length_append, List.length_singleton]; omega) ?_
        rintro w2 hb2 hm2
        refine OW.nil ?_
        refine KW.leave (KW.region ?_)
        refine OW.val rfl rfl (EX.move rfl) ?_
        refine OW.val rfl rfl (by first | exact EX.addN (b := 1) (m := 9223372036854775807) rfl rfl rfl (by omega) | exact EX.addZ (m := 9223372036854775807) rfl rfl rfl rfl (by omega)) ?_
        refine OW.val rfl rfl (EX.assign rfl) ?_
        refine OW.nil ?_
        have e1c : (s.drop i).take (i + 1 - i) = [s[i]] := by
          rw [show i + 1 - i = 1 by omega, List.drop_eq_getElem_cons hlt]
          rfl
        rw [Nat.add_sub_cancel, e1c] at hb2
        refine KW.back3 (i + 1) (.slice (some ⟨g, 0, none⟩) (l.length + 1) cap) (w2) ⟨rfl, rfl, rfl, trivial⟩ rfl ?_ (by omega)
        refine ⟨by omega, ?_, below_mo (hx.trans (Ext.drew wr)) hm2 (hx.trans (Ext.drew wr)).size (fun k hk => by simp at hk; omega)⟩
        rw [htk, e2]
        have hset : (txtsV (l ++ [x]) ++ rest).set l.length (str (x ++ [s[i]])) = txtsV (l ++ [x ++ [s[i]]]) ++ rest := by
          rw [txtsV_snoc, txtsV_snoc, List.append_assoc, List.append_assoc, List.set_append_right _ _ (by simp [txtsV])]
          simp [txtsV]
        rw [hset] at hb2
        rw [List.length_append, List.length_singleton]
        exact ⟨by simp [txtsV], .inr ⟨g, cap, rest, rfl, hgB, hb2, by simp only [txtsV_length, List.length_append, List.length_singleton] at hgl ⊢; exact hgl, by simpa using hgc, hgm⟩⟩
    · obtain rfl : i = s.length := by omega
      rw [List.take_length] at hown
      refine KW.exit rfl (KW.seq (KW.region ?_))
      refine OW.val rfl rfl (EX.move rfl) ?_
      refine OW.val rfl rfl (EX.assign rfl) ?_
      refine OW.nil ?_
      refine KW.ret (ret1 rfl rfl ?_)
      exact ⟨hown, hx⟩
theorem kept_take {l : Txts} {i : Nat} (h : i < l.length) : kept (l.take (i + 1)) = if keepB l[i] = true then kept (l.take i) ++ [l[i]] else kept (l.take i) := by
  rw [List.take_add_one, List.getElem?_eq_getElem h]
  exact kept_snoc _ _
theorem joinS_wtk (s : List UInt8) (i : Nat) : (joinS (kept ((parts s).take i))).length ≤ s.length + 1 := by
  have h1 := joinS_wt (kept ((parts s).take i))
  have h2 := wt_filter keepB ((parts s).take i)
  have h3 := wt_append ((parts s).take i) ((parts s).drop i)
  rw [List.take_append_drop, wt_parts] at h3
  unfold kept at h1 ⊢
  omega
theorem rclean_s (s : List UInt8) (hs : s.length ≤ 1000000000000) (w : World) : Ret Tryd.prog 17 [str s] w fun v w' => v = .tuple #[str (cleanP s).1, .int .i64 (((cleanP s).2 : Nat) : Int)] ∧ Ext w w' := by
  refine Ret.enter Tryd.func17 rfl Tryd.ntmps17 (by kernel_rfl) rfl ?_
  refine KW.seq (KW.region ?_)
  refine OW.val rfl rfl (EX.assign rfl) ?_
  refine OW.val rfl rfl (EX.assign rfl) ?_
  refine OW.nil ?_
  refine KW.seq (KW.region ?_)
  refine OW.val rfl rfl (EX.assign rfl) ?_
  refine OW.nil ?_
  refine KW.seq (KW.region ?_)
  refine OW.val rfl rfl (EX.move rfl) ?_
  refine OW.call rfl rfl rfl (rparts_s s hs w) ?_
  rintro v w1 ⟨hown, hx⟩
  refine OW.val rfl rfl (EX.assign rfl) ?_
  refine OW.nil ?_
  refine KW.seq (KW.seq (KW.region ?_))
  refine OW.val rfl rfl (EX.assign rfl) ?_
  refine OW.nil ?_
  refine KW.block ?_
  obtain ⟨A, c, rfl, hc, hsl⟩ := hown.slice
  have hpos : 0 < (parts s).length := List.length_pos_iff.2 (parts_ne s)
  have hpl : (parts s).length ≤ s.length + 1 := by have h1 := wt_len (parts s); rw [wt_parts] at h1; exact h1
  obtain ⟨b, o, rfl, _, hcell⟩ := hsl.at_ (by rw [txtsV_length]; exact hpos)
  refine KW.loop2 (fun (i : Nat) (q : (List UInt8)) => i ≤ (parts s).length ∧ dd ∉ (parts s).take i ∧ q = joinS (kept ((parts s).take i))) (fun (i : Nat) (q : (List UInt8)) => [(0, str (s)), (4, str (q)), (5, .slice (some ⟨b, o, none⟩) (parts s).length c), (6, .int .i64 ((i : Nat) : Int))]) (fun (i : Nat) (q : (List UInt8)) => w1) (fun (i : Nat) (q : (List UInt8)) => (parts s).length - i) (0) ([]) ⟨rfl, rfl, rfl, rfl, trivial⟩ rfl ?_ ?_
  · exact ⟨by omega, by simp, rfl⟩
  · rintro i q ⟨hi, hdd, hq⟩
    refine KW.seq (KW.seq (KW.region ?_))
    refine OW.val rfl rfl (EX.move rfl) ?_
    refine OW.val rfl rfl (EX.move rfl) ?_
    refine OW.val rfl rfl (EX.lenA Tryd.underlying23 rfl) ?_
    refine OW.val rfl rfl (by first | exact EX.lssN rfl rfl | exact EX.lssZ rfl rfl) ?_
    refine OW.nil ?_
    refine KW.condD rfl (fun hlt => ?_) (fun hlt => ?_)
    · have hci := hcell i _ (txtsV_get hlt)
      have hjl := joinS_wtk s i
      have hjl2 := joinS_wtk s (i + 1)
      have hxl : (parts s)[i].length ≤ s.length := by have h1 := wt_mem (List.getElem_mem hlt); rw [wt_parts] at h1; omega
      refine KW.skip (KW.seq (KW.block (KW.seq (KW.seq (KW.region ?_)))))
      refine OW.val rfl rfl (EX.move rfl) ?_
      refine OW.val rfl rfl (EX.move rfl) ?_
      refine OW.val rfl rfl (by first | exact EX.indexAddrS0 Tryd.underlying23 ti9 rfl rfl (by omega) | exact EX.indexAddrS1 Tryd.underlying23 ti9 rfl rfl (by omega)) ?_
      refine OW.val rfl rfl (EX.load Tryd.underlying9 rfl rfl (hci)) ?_
      refine OW.val rfl rfl (EX.eqlS (r := [46, 46]) rfl rfl) ?_
      refine OW.nil ?_
      refine KW.condD rfl (fun h0 => ?_) (fun h0 => ?_)
      · have e : cleanP s = ([], 140) := by
          unfold cleanP
          rw [if_neg]
          rintro ⟨_, h, _⟩
          exact h (by rw [show dd = (parts s)[i] from h0.symm]; exact List.getElem_mem hlt)
        refine KW.seq (KW.region ?_)
        refine OW.val rfl rfl (EX.assign rfl) ?_
        refine OW.val rfl rfl (EX.assign rfl) ?_
        refine OW.nil ?_
        refine KW.ret (ret2 rfl rfl rfl ?_)
        rw [e]
        exact ⟨rfl, hx⟩
      · have hdd' : dd ∉ (parts s).take (i + 1) := by
          rw [List.take_add_one, List.getElem?_eq_getElem hlt]
          simp only [Option.toList_some, List.mem_append, List.mem_singleton, not_or]
          exact ⟨hdd, fun q => h0 q.symm⟩
        refine KW.skip (KW.seq (KW.seq ?_))
        refine KW.region ?_
        refine OW.val rfl rfl (EX.move rfl) ?_
        refine OW.val rfl rfl (EX.move rfl) ?_
        refine OW.val rfl rfl (by first | exact EX.indexAddrS0 Tryd.underlying23 ti9 rfl rfl (by omega) | exact EX.indexAddrS1 Tryd.underlying23 ti9 rfl rfl (by omega)) ?_
        refine OW.val rfl rfl (EX.load Tryd.underlying9 rfl rfl (hci)) ?_
        refine OW.val rfl rfl (EX.eqlS (r := []) rfl rfl) ?_
        refine OW.val rfl rfl (EX.move rfl) ?_
        refine OW.splitD 26 rfl (fun h1 => ?_) (fun h1 => ?_)
        · have hk : kept ((parts s).take (i + 1)) = kept ((parts s).take i) := by rw [kept_take hlt, if_neg (by simp [keepB, h1])]
          refine OW.pass rfl rfl ?_
          refine OW.pass rfl rfl ?_
          refine OW.pass rfl rfl ?_
          refine OW.pass rfl rfl ?_
          refine OW.pass rfl rfl ?_
          refine OW.val rfl rfl (EX.pickT rfl rfl) ?_
          refine OW.nil ?_
          refine KW.condT rfl (KW.exit rfl (KW.region ?_))
          refine OW.val rfl rfl (EX.move rfl) ?_
          refine OW.val rfl rfl (by first | exact EX.addN (b := 1) (m := 9223372036854775807) rfl rfl rfl (by omega) | exact EX.addZ (m := 9223372036854775807) rfl rfl rfl rfl (by omega)) ?_
          refine OW.val rfl rfl (EX.assign rfl) ?_
          refine OW.nil ?_
          refine KW.back2 (i + 1) (q) ⟨rfl, rfl, rfl, rfl, trivial⟩ rfl ?_ (by omega)
          exact ⟨by omega, hdd', by rw [hk]; exact hq⟩
        · refine OW.val rfl rfl (EX.move rfl) ?_
          refine OW.val rfl rfl (EX.move rfl) ?_
          refine OW.val rfl rfl (by first | exact EX.indexAddrS0 Tryd.underlying23 ti9 rfl rfl (by omega) | exact EX.indexAddrS1 Tryd.underlying23 ti9 rfl rfl (by omega)) ?_
          refine OW.val rfl rfl (EX.load Tryd.underlying9 rfl rfl (hci)) ?_
          refine OW.val rfl rfl (EX.eqlS (r := [46]) rfl rfl) ?_
          refine OW.val rfl rfl (EX.pickF rfl rfl) ?_
          refine OW.nil ?_
          refine KW.condD rfl (fun h2 => ?_) (fun h2 => ?_)
          · have hk : kept ((parts s).take (i + 1)) = kept ((parts s).take i) := by rw [kept_take hlt, if_neg (by simp [keepB, h2])]
            refine KW.as 32 (.bool true) rfl (congrArg Value.bool (decide_eq_true (h2))) ?_
            refine KW.exit rfl (KW.region ?_)
            refine OW.val rfl rfl (EX.move rfl) ?_
            refine OW.val rfl rfl (by first | exact EX.addN (b := 1) (m := 9223372036854775807) rfl rfl rfl (by omega) | exact EX.addZ (m := 9223372036854775807) rfl rfl rfl rfl (by omega)) ?_
            refine OW.val rfl rfl (EX.assign rfl) ?_
            refine OW.nil ?_
            refine KW.back2 (i + 1) (q) ⟨rfl, rfl, rfl, rfl, trivial⟩ rfl ?_ (by omega)
            exact ⟨by omega, hdd', by rw [hk]; exact hq⟩
          · have hk : kept ((parts s).take (i + 1)) = kept ((parts s).take i) ++ [(parts s)[i]] := by rw [kept_take hlt, if_pos (by simp [keepB, h1, h2])]
            have hql : q.length ≤ s.length + 1 := by rw [hq]; exact hjl
            refine KW.as 32 (.bool false) rfl (congrArg Value.bool (decide_eq_false (h2))) ?_
            refine KW.skip (KW.seq (KW.seq (KW.region ?_)))
            refine OW.val rfl rfl (EX.move rfl) ?_
            refine OW.val rfl rfl (EX.neqS (r := []) rfl rfl) ?_
            refine OW.nil ?_
            refine KW.condD rfl (fun h3 => ?_) (fun h3 => ?_)
            · have hne : kept ((parts s).take i) ≠ [] := fun e => h3 (by rw [hq, e]; rfl)
              refine KW.region ?_
              refine OW.val rfl rfl (EX.move rfl) ?_
              refine OW.val rfl rfl (EX.addS (r := [47]) rfl rfl (by first | omega | (simp only [List.length_append, List.length_cons, List.length_nil, List.length_take, List.length_drop, List.length_replicate]; omega))) ?_
              refine OW.val rfl rfl (EX.assign rfl) ?_
              refine OW.nil ?_
              refine KW.region ?_
              refine OW.val rfl rfl (EX.move rfl) ?_
              refine OW.val rfl rfl (EX.move rfl) ?_
              refine OW.val rfl rfl (EX.move rfl) ?_
              refine OW.val rfl rfl (by first | exact EX.indexAddrS0 Tryd.underlying23 ti9 rfl rfl (by omega) | exact EX.indexAddrS1 Tryd.underlying23 ti9 rfl rfl (by omega)) ?_
              refine OW.val rfl rfl (EX.load Tryd.underlying9 rfl rfl (hci)) ?_
              refine OW.val rfl rfl (EX.addS rfl rfl (by first | omega | (simp only [List.length_append, List.length_cons, List.length_nil, List.length_take, List.length_drop, List.length_replicate]; omega))) ?_
              refine OW.val rfl rfl (EX.assign rfl) ?_
              refine OW.nil ?_
              refine KW.leave (KW.region ?_)
              refine OW.val rfl rfl (EX.move rfl) ?_
              refine OW.val rfl rfl (by first | exact EX.addN (b := 1) (m := 9223372036854775807) rfl rfl rfl (by omega) | exact EX.addZ (m := 9223372036854775807) rfl rfl rfl rfl (by omega)) ?_
              refine OW.val rfl rfl (EX.assign rfl) ?_
              refine OW.nil ?_
              refine KW.back2 (i + 1) (q ++ [47] ++ (parts s)[i]) ⟨rfl, rfl, rfl, rfl, trivial⟩ rfl ?_ (by omega)
              exact ⟨by omega, hdd', by rw [hk, joinS_snoc _ _ hne, hq, List.append_assoc]; rfl⟩
            · have hke : kept ((parts s).take i) = [] := by
                refine (joinS_nil (kept_ne _)).1 ?_
                rw [← hq]
                simpa using h3
              refine KW.skip (KW.region ?_)
              refine OW.val rfl rfl (EX.move rfl) ?_
              refine OW.val rfl rfl (EX.move rfl) ?_
              refine OW.val rfl rfl (EX.move rfl) ?_
              refine OW.val rfl rfl (by first | exact EX.indexAddrS0 Tryd.underlying23 ti9 rfl rfl (by omega) | exact EX.indexAddrS1 Tryd.underlying23 ti9 rfl rfl (by omega)) ?_
              refine OW.val rfl rfl (EX.load Tryd.underlying9 rfl rfl (hci)) ?_
              refine OW.val rfl rfl (EX.addS rfl rfl (by first | omega | (simp only [List.length_append, List.length_cons, List.length_nil, List.length_take, List.length_drop, List.length_replicate]; omega))) ?_
              refine OW.val rfl rfl (EX.assign rfl) ?_
              refine OW.nil ?_
              refine KW.leave (KW.region ?_)
              refine OW.val rfl rfl (EX.move rfl) ?_
              refine OW.val rfl rfl (by first | exact EX.addN (b := 1) (m := 9223372036854775807) rfl rfl rfl (by omega) | exact EX.addZ (m := 9223372036854775807) rfl rfl rfl rfl (by omega)) ?_
              refine OW.val rfl rfl (EX.assign rfl) ?_
              refine OW.nil ?_
              refine KW.back2 (i + 1) (q ++ (parts s)[i]) ⟨rfl, rfl, rfl, rfl, trivial⟩ rfl ?_ (by omega)
              exact ⟨by omega, hdd', by rw [hk, hq, hke]; rfl⟩
    · obtain rfl : i = (parts s).length := by omega
      rw [List.take_length] at hdd hq
      have hjl := joinS_wtk s (parts s).length
      rw [List.take_length] at hjl
      refine KW.exit rfl (KW.seq (KW.seq (KW.region ?_)))
      refine OW.val rfl rfl (EX.assign rfl) ?_
      refine OW.nil ?_
      refine KW.block ?_
      refine KW.loop1 (fun (i : Nat) => i ≤ s.length ∧ ∀ c ∈ s.take i, 32 ≤ c.toNat ∧ c.toNat ≤ 126) (fun (i : Nat) => [(0, str (s)), (4, str (q)), (7, .int .i64 ((i : Nat) : Int))]) (fun (i : Nat) => w1) (fun (i : Nat) => s.length - i) (0) ⟨rfl, rfl, rfl, trivial⟩ rfl ?_ ?_
      · exact ⟨by omega, by simp⟩
      · rintro i ⟨hi, hok⟩
        refine KW.seq (KW.seq (KW.region ?_))
        refine OW.val rfl rfl (EX.move rfl) ?_
        refine OW.val rfl rfl (EX.move rfl) ?_
        refine OW.val rfl rfl (EX.lenS Tryd.underlying9 rfl) ?_
        refine OW.val rfl rfl (by first | exact EX.lssN rfl rfl | exact EX.lssZ rfl rfl) ?_
        refine OW.nil ?_
        refine KW.condD rfl (fun hlt => ?_) (fun hlt => ?_)
        · have hbad : ¬ (32 ≤ s[i].toNat ∧ s[i].toNat ≤ 126) → cleanP s = ([], 140) := fun h => by
            unfold cleanP
            rw [if_neg]
            rintro ⟨h1, _⟩
            exact h (h1 _ (List.getElem_mem hlt))
          refine KW.skip (KW.seq (KW.block (KW.seq ?_)))
          refine KW.region ?_
          refine OW.val rfl rfl (EX.move rfl) ?_
          refine OW.val rfl rfl (EX.move rfl) ?_
          refine OW.val rfl rfl (EX.indexS Tryd.underlying9 rfl rfl (List.getElem?_eq_getElem (by omega))) ?_
          refine OW.val rfl rfl (by first | exact EX.lssN (b := 32) rfl rfl | exact EX.lssZ rfl rfl) ?_
          refine OW.val rfl rfl (EX.move rfl) ?_
          refine OW.splitD 53 rfl (fun h1 => ?_) (fun h1 => ?_)
          · refine OW.pass rfl rfl ?_
            refine OW.pass rfl rfl ?_
            refine OW.pass rfl rfl ?_
            refine OW.pass rfl rfl ?_
            refine OW.val rfl rfl (EX.pickT rfl rfl) ?_
            refine OW.nil ?_
            refine KW.condT rfl (KW.seq (KW.region ?_))
            refine OW.val rfl rfl (EX.assign rfl) ?_
            refine OW.val rfl rfl (EX.assign rfl) ?_
            refine OW.nil ?_
            refine KW.ret (ret2 rfl rfl rfl ?_)
            rw [hbad (by omega)]
            exact ⟨rfl, hx⟩
          · refine OW.val rfl rfl (EX.move rfl) ?_
            refine OW.val rfl rfl (EX.move rfl) ?_
            refine OW.val rfl rfl (EX.indexS Tryd.underlying9 rfl rfl (List.getElem?_eq_getElem (by omega))) ?_
            refine OW.val rfl rfl (by first | exact EX.gtrN (b := 126) rfl rfl | exact EX.gtrZ rfl rfl) ?_
            refine OW.val rfl rfl (EX.pickF rfl rfl) ?_
            refine OW.nil ?_
            refine KW.condD rfl (fun h2 => ?_) (fun h2 => ?_)
            · refine KW.seq (KW.region ?_)
              refine OW.val rfl rfl (EX.assign rfl) ?_
              refine OW.val rfl rfl (EX.assign rfl) ?_
              refine OW.nil ?_
              refine KW.ret (ret2 rfl rfl rfl ?_)
              rw [hbad (by omega)]
              exact ⟨rfl, hx⟩
            · refine KW.skip (KW.leave (KW.region ?_))
              refine OW.val rfl rfl (EX.move rfl) ?_
              refine OW.val rfl rfl (by first | exact EX.addN (b := 1) (m := 9223372036854775807) rfl rfl rfl (by omega) | exact EX.addZ (m := 9223372036854775807) rfl rfl rfl rfl (by omega)) ?_
              refine OW.val rfl rfl (EX.assign rfl) ?_
              refine OW.nil ?_
              refine KW.back1 (i + 1) ⟨rfl, rfl, rfl, trivial⟩ rfl ?_ (by omega)
              refine ⟨by omega, fun c hc => ?_⟩
              rw [List.take_add_one, List.getElem?_eq_getElem hlt] at hc
              rcases List.mem_append.1 hc with hc | hc
              · exact hok c hc
              · simp only [Option.toList_some, List.mem_singleton] at hc
                subst hc
                omega
        · have hfit : fits s := by
            rw [List.take_of_length_le (by omega)] at hok
            exact hok
          refine KW.exit rfl (KW.seq (KW.seq ?_))
          refine KW.region ?_
          refine OW.val rfl rfl (EX.move rfl) ?_
          refine OW.val rfl rfl (EX.eqlS (r := []) rfl rfl) ?_
          refine OW.val rfl rfl (EX.move rfl) ?_
          refine OW.splitD 61 rfl (fun j1 => ?_) (fun j1 => ?_)
          · have e : cleanP s = ([], 140) := by unfold cleanP; rw [if_neg (fun r => r.2.2.1 (by rw [← hq]; exact j1))]
            refine OW.pass rfl rfl ?_
            refine OW.pass rfl rfl ?_
            refine OW.pass rfl rfl ?_
            refine OW.val rfl rfl (EX.pickT rfl rfl) ?_
            refine OW.nil ?_
            refine KW.condT rfl (KW.seq (KW.region ?_))
            refine OW.val rfl rfl (EX.assign rfl) ?_
            refine OW.val rfl rfl (EX.assign rfl) ?_
            refine OW.nil ?_
            refine KW.ret (ret2 rfl rfl rfl ?_)
            rw [e]
            exact ⟨rfl, hx⟩
          · have hql : q.length ≤ s.length + 1 := by rw [hq]; exact hjl
            refine OW.val rfl rfl (EX.move rfl) ?_
            refine OW.val rfl rfl (EX.lenS Tryd.underlying9 rfl) ?_
            refine OW.val rfl rfl (by first | exact EX.gtrN (b := 120) rfl rfl | exact EX.gtrZ rfl rfl) ?_
            refine OW.val rfl rfl (EX.pickF rfl rfl) ?_
            refine OW.nil ?_
            refine KW.condD rfl (fun j2 => ?_) (fun j2 => ?_)
            · have e : cleanP s = ([], 140) := by unfold cleanP; rw [if_neg (fun r => by have := r.2.2.2; rw [← hq] at this; omega)]
              refine KW.seq (KW.region ?_)
              refine OW.val rfl rfl (EX.assign rfl) ?_
              refine OW.val rfl rfl (EX.assign rfl) ?_
              refine OW.nil ?_
              refine KW.ret (ret2 rfl rfl rfl ?_)
              rw [e]
              exact ⟨rfl, hx⟩
            · have e : cleanP s = (q, 0) := by unfold cleanP; rw [← hq, if_pos ⟨hfit, hdd, j1, by omega⟩]
              refine KW.skip (KW.seq (KW.region ?_))
              refine OW.val rfl rfl (EX.move rfl) ?_
              refine OW.val rfl rfl (EX.assign rfl) ?_
              refine OW.val rfl rfl (EX.assign rfl) ?_
              refine OW.nil ?_
              refine KW.ret (ret2 rfl rfl rfl ?_)
              rw [e]
              exact ⟨rfl, hx⟩
theorem rcheck_s (s : List UInt8) (hs : s.length ≤ 1000000000000) (w : World) : Ret Tryd.prog 19 [str s] w fun v w' => v = .int .i64 ((checkP s : Nat) : Int) ∧ Ext w w' := by
  refine Ret.enter Tryd.func19 rfl Tryd.ntmps19 (by kernel_rfl) rfl ?_
  refine KW.seq (KW.region ?_)
  refine OW.val rfl rfl (EX.assign rfl) ?_
  refine OW.nil ?_
  refine KW.seq (KW.region ?_)
  refine OW.val rfl rfl (EX.move rfl) ?_
  refine OW.call rfl rfl rfl (rclean_s s hs w) ?_
  rintro _ w1 ⟨rfl, hx⟩
  refine OW.val rfl rfl (EX.move rfl) ?_
  refine OW.val rfl rfl (EX.extract rfl rfl) ?_
  refine OW.val rfl rfl (EX.extract rfl rfl) ?_
  refine OW.val rfl rfl (EX.assign rfl) ?_
  refine OW.val rfl rfl (EX.assign rfl) ?_
  refine OW.nil ?_
  refine KW.seq (KW.seq ?_)
  rcases hc : cleanP s with ⟨q, e⟩
  refine KW.region ?_
  refine OW.val rfl rfl (EX.move rfl) ?_
  refine OW.val rfl rfl (by first | exact EX.neqN (b := 0) rfl rfl | exact EX.neqZ rfl rfl) ?_
  refine OW.val rfl rfl (EX.move rfl) ?_
  refine OW.splitD 12 rfl (fun h1 => ?_) (fun h1 => ?_)
  · have h : checkP s = 140 := by unfold checkP; rw [hc, if_neg (by simp only [Prod.mk.injEq]; omega)]
    refine OW.pass rfl rfl ?_
    refine OW.pass rfl rfl ?_
    refine OW.pass rfl rfl ?_
    refine OW.val rfl rfl (EX.pickT rfl rfl) ?_
    refine OW.nil ?_
    refine KW.condT rfl (KW.seq (KW.region ?_))
    refine OW.val rfl rfl (EX.assign rfl) ?_
    refine OW.nil ?_
    refine KW.ret (ret1 rfl rfl ?_)
    rw [h]
    exact ⟨rfl, hx⟩
  · refine OW.val rfl rfl (EX.move rfl) ?_
    refine OW.val rfl rfl (EX.move rfl) ?_
    refine OW.val rfl rfl (EX.neqS rfl rfl) ?_
    refine OW.val rfl rfl (EX.pickF rfl rfl) ?_
    refine OW.nil ?_
    refine KW.condD rfl (fun h2 => ?_) (fun h2 => ?_)
    · have h : checkP s = 140 := by unfold checkP; rw [hc, if_neg (by simp only [Prod.mk.injEq]; exact fun q => h2 q.1)]
      refine KW.seq (KW.region ?_)
      refine OW.val rfl rfl (EX.assign rfl) ?_
      refine OW.nil ?_
      refine KW.ret (ret1 rfl rfl ?_)
      rw [h]
      exact ⟨rfl, hx⟩
    · have h : checkP s = 0 := by unfold checkP; rw [hc, if_pos (by simp only [Prod.mk.injEq]; exact ⟨by simpa using h2, by omega⟩)]
      refine KW.skip (KW.seq (KW.region ?_))
      refine OW.val rfl rfl (EX.assign rfl) ?_
      refine OW.nil ?_
      refine KW.ret (ret1 rfl rfl ?_)
      rw [h]
      exact ⟨rfl, hx⟩
end Go.Proofs.YtifnlmpnkjhlnaaDoor
