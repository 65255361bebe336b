/-
  What the statements rest on, part 7 of 7: many small texts, one behind the other.
-/
import Derived.Test.YtjgeoeeikfjmdaaGreatDoorMrgF
/- tar: the statements about each path's last file. -/
namespace Go.Proofs.YtjgeoeeikfjmdaaGreatDoor
set_option linter.unnecessarySimpa false
open Go.ChangeShapes Go.WideShapes Go.ChangeAt Go.RowKit Go.Deep Fld Ust Pax Pth Tar Srt
set_option linter.unusedVariables false
set_option linter.unusedSimpArgs false

theorem cell_ext {w w' : World} (h : Ext w w') {a : Addr} {u : Value} (hc : w.cell? a = some u) : w'.cell? a = some u := by
  have hlt := World.block_lt_of_cell? w _ hc
  have := h.block _ hlt
  unfold World.cell? at hc ⊢
  rw [this]
  exact hc
theorem insR_len {α : Type} (key : α → List UInt8) (x : α) : ∀ l : List α, (insR key x l).length ≤ l.length + 1
  | [] => by simp [insR]
  | y :: l => by
    have := insR_len key x l
    unfold insR
    split
    · simp
    · split
      · simp
      · simpa using this
theorem take_snoc' {α : Type} {l : List α} {i : Nat} (h : i < l.length) : l.take (i + 1) = l.take i ++ [l[i]] := (List.take_append_getElem h).symm
set_option maxRecDepth 20000 in
theorem rlast18_s (l : List En) (hl : ∀ x ∈ l, x.path.length ≤ 2000000) (hn : l.length ≤ 1000000) (A : Option Addr) (c B : Nat) (w : World) (hs : Sl w B A (ensV l)) :
    Ret Tryz.prog 18 [.slice A l.length c] w fun v w' => ∃ out, IsMap En.path (lastF En.path l) out ∧ Own w' w.heap.size 23 2 v out.length (ensV out) ∧ Ext w w' := by
  refine Ret.enter Tryz.func18 rfl Tryz.ntmps18 (by kernel_rfl) rfl ?_
  refine KW.seq (KW.region ?_)
  refine OW.val rfl rfl (EX.assign rfl) ?_
  refine OW.nil ?_
  refine KW.seq (KW.region ?_)
  refine OW.val rfl rfl (EX.assign rfl) ?_
  refine OW.nil ?_
  refine KW.seq (KW.seq (KW.region ?_))
  refine OW.val rfl rfl (EX.assign rfl) ?_
  refine OW.nil ?_
  refine KW.block ?_
  refine KW.loop4 (fun (i : Nat) (out : (List En)) (v : Value) (wr : World) => i ≤ l.length ∧ IsMap En.path (lastF En.path (l.take i)) out ∧ out.length ≤ i ∧ Own wr w.heap.size 23 2 v out.length (ensV out) ∧ Ext w wr) (fun (i : Nat) (out : (List En)) (v : Value) (wr : World) => [(0, .slice A l.length c), (3, v), (4, .int .i64 ((i : Nat) : Int))]) (fun (i : Nat) (out : (List En)) (v : Value) (wr : World) => wr) (fun (i : Nat) (out : (List En)) (v : Value) (wr : World) => l.length - i) (0) ([]) (.slice none 0 0) (w) ⟨rfl, rfl, rfl, trivial⟩ rfl ?_ ?_
  · exact ⟨Nat.zero_le _, IsMap.nil _, Nat.zero_le _, Own.nil _ _ _ _, Ext.refl _⟩
  · rintro i out v wr ⟨hi, hmap, hol, hown, hx⟩
    refine KW.seq (KW.seq (KW.region ?_))
    refine OW.val rfl rfl (EX.move rfl) ?_
    refine OW.val rfl rfl (EX.move rfl) ?_
    refine OW.val rfl rfl (EX.lenA Tryz.underlying31 rfl) ?_
    refine OW.val rfl rfl (by first | exact EX.lssN rfl rfl | exact EX.lssZ rfl rfl) ?_
    refine OW.nil ?_
    refine KW.condD rfl (fun hlt => ?_) (fun hlt => ?_)
    · obtain ⟨b, o, rfl, _, hcell⟩ := (hs.ext hx).flat (c := 2) (fun _ => rfl) (by decide) hlt
      have hsn := take_snoc' hlt
      have hxl := hl l[i] (List.getElem_mem hlt)
      generalize hxd : l[i] = x at hcell hsn hxl
      obtain ⟨A2, c2, rfl, hc2, hsl⟩ := hown.slice
      have hbds : ∀ y ∈ out, y.path.length ≤ 2000000 := fun y hy => hl y (List.mem_of_mem_take (lastF_mem En.path ((hmap.mem y).1 hy)))
      refine KW.skip (KW.seq (KW.block (KW.seq (KW.region ?_))))
      refine OW.val rfl rfl (EX.assign rfl) ?_
      refine OW.nil ?_
      refine KW.seq (KW.region ?_)
      refine OW.val rfl rfl (EX.assign rfl) ?_
      refine OW.nil ?_
      refine KW.seq (KW.seq (KW.region ?_))
      refine OW.val rfl rfl (EX.assign rfl) ?_
      refine OW.nil ?_
      refine KW.cut4 (fun (nx : (List En)) (dn : Bool) (u : Value) (w1 : World) => (nx, dn) = out.foldl (stepI En.path x) ([], false) ∧ nx.length ≤ 2 * out.length ∧ Own w1 w.heap.size 23 2 u nx.length (ensV nx) ∧ Ext wr w1) (fun (nx : (List En)) (dn : Bool) (u : Value) (w1 : World) => [(0, .slice (some ⟨b, o, none⟩) l.length c), (4, .int .i64 ((i : Nat) : Int)), (5, u), (6, .bool dn)]) (fun (nx : (List En)) (dn : Bool) (u : Value) (w1 : World) => w1) ?_ ?_
      · refine KW.block ?_
        refine KW.loop5 (fun (k : Nat) (nx : (List En)) (dn : Bool) (u : Value) (w1 : World) => k ≤ out.length ∧ (nx, dn) = (out.take k).foldl (stepI En.path x) ([], false) ∧ nx.length ≤ 2 * k ∧ Own w1 w.heap.size 23 2 u nx.length (ensV nx) ∧ (∀ q, u.ownBlock = some q → wr.heap.size ≤ q) ∧ Ext wr w1) (fun (k : Nat) (nx : (List En)) (dn : Bool) (u : Value) (w1 : World) => [(0, .slice (some ⟨b, o, none⟩) l.length c), (3, .slice A2 out.length c2), (4, .int .i64 ((i : Nat) : Int)), (5, u), (6, .bool dn), (7, .int .i64 ((k : Nat) : Int))]) (fun (k : Nat) (nx : (List En)) (dn : Bool) (u : Value) (w1 : World) => w1) (fun (k : Nat) (nx : (List En)) (dn : Bool) (u : Value) (w1 : World) => out.length - k) (0) ([]) (false) (.slice none 0 0) (wr) ⟨rfl, rfl, rfl, rfl, rfl, rfl, trivial⟩ rfl ?_ ?_
        · exact ⟨Nat.zero_le _, rfl, Nat.zero_le _, Own.nil _ _ _ _, fun q h => by simp [Value.ownBlock] at h, Ext.refl _⟩
        · rintro k nx dn u w1 ⟨hk, hf, hnl, hownu, hub, hx1⟩
          refine KW.seq (KW.seq (KW.region ?_))
          refine OW.val rfl rfl (EX.move rfl) ?_
          refine OW.val rfl rfl (EX.move rfl) ?_
          refine OW.val rfl rfl (EX.lenA Tryz.underlying31 rfl) ?_
          refine OW.val rfl rfl (by first | exact EX.lssN rfl rfl | exact EX.lssZ rfl rfl) ?_
          refine OW.nil ?_
          refine KW.condD rfl (fun hkl => ?_) (fun hkl => ?_)
          · have x1 := hx.trans hx1
            obtain ⟨b2, o2, rfl, _, hcell2⟩ := (hsl.ext hx1).flat (l := out) (i := k) (c := 2) (fun _ => rfl) (by decide) hkl
            have hsn2 := take_snoc' hkl
            have hyl := hbds out[k] (List.getElem_mem hkl)
            generalize hyd : out[k] = y at hcell2 hsn2 hyl
            have hstep : (out.take (k + 1)).foldl (stepI En.path x) ([], false) = stepI En.path x (nx, dn) y := by rw [hsn2, List.foldl_append, ← hf]; rfl
            have c1 := fun w => rcmp_s x.path y.path hxl hyl w
            have hcd : cmpK En.path x y = cmpP x.path y.path := rfl
            generalize cmpP x.path y.path = cc at c1 hcd
            refine KW.skip (KW.seq (KW.block (KW.seq ?_)))
            refine KW.regionG (N := 12) (fun w' => Ext w1 w') (by kernel_rfl) rfl ?_
            have hS := Ext.drew w1
            refine GW.val 0 rfl (by kernel_rfl) (by kernel_rfl) (by kernel_rfl) rfl rfl hS (fun w' hS' => EX.move rfl) ?_
            refine GW.val 1 rfl (by kernel_rfl) (by kernel_rfl) (by kernel_rfl) rfl rfl hS (fun w' hS' => EX.move rfl) ?_
            refine GW.val 2 rfl (by kernel_rfl) (by kernel_rfl) (by kernel_rfl) rfl rfl hS (fun w' hS' => EX.indexAddrS Tryz.underlying31 ti23 rfl rfl (by omega)) ?_
            refine GW.val 3 rfl (by kernel_rfl) (by kernel_rfl) (by kernel_rfl) rfl rfl hS (fun w' hS' => EX.fieldAddr (off := 0) Tryz.underlying23 rfl rfl ti9 rfl rfl) ?_
            refine GW.val 4 rfl (by kernel_rfl) (by kernel_rfl) (by kernel_rfl) rfl rfl hS (fun w' hS' => EX.load Tryz.underlying9 rfl rfl (cell_ext (hx1.trans hS') (hcell 0 _ rfl))) ?_
            refine GW.val 5 rfl (by kernel_rfl) (by kernel_rfl) (by kernel_rfl) rfl rfl hS (fun w' hS' => EX.move rfl) ?_
            refine GW.val 6 rfl (by kernel_rfl) (by kernel_rfl) (by kernel_rfl) rfl rfl hS (fun w' hS' => EX.move rfl) ?_
            refine GW.val 7 rfl (by kernel_rfl) (by kernel_rfl) (by kernel_rfl) rfl rfl hS (fun w' hS' => EX.indexAddrS Tryz.underlying31 ti23 rfl rfl (by omega)) ?_
            refine GW.val 8 rfl (by kernel_rfl) (by kernel_rfl) (by kernel_rfl) rfl rfl hS (fun w' hS' => EX.fieldAddr (off := 0) Tryz.underlying23 rfl rfl ti9 rfl rfl) ?_
            refine GW.val 9 rfl (by kernel_rfl) (by kernel_rfl) (by kernel_rfl) rfl rfl hS (fun w' hS' => EX.load Tryz.underlying9 rfl rfl (cell_ext hS' (hcell2 0 _ rfl))) ?_
            refine GW.call 10 rfl (by kernel_rfl) rfl rfl rfl (c1 _) ?_
            rintro _ w2 ⟨rfl, hx2⟩
            refine ⟨hS.trans hx2, fun hS => ?_⟩
            refine GW.val 11 rfl (by kernel_rfl) (by kernel_rfl) (by kernel_rfl) rfl rfl hS (fun w' hS' => EX.assign rfl) ?_
            refine GW.done (by kernel_rfl) ?_
            refine KW.seq (KW.seq ?_)
            have hS2 : Ext w1 w2 := hS
            have x2 := hx1.trans hS2
            have hown2 := hownu.ext hS2
            have hcellx := fun j u h => cell_ext x2 (hcell j u h)
            have hcelly := fun j u h => cell_ext hS2 (hcell2 j u h)
            refine KW.cutd3 (fun (n1 : (List En)) (u1 : Value) (w3 : World) => n1 = (if cc ≤ 0 ∧ dn = false then nx ++ [x] else nx) ∧ n1.length ≤ nx.length + 1 ∧ Own w3 w.heap.size 23 2 u1 n1.length (ensV n1) ∧ (∀ q, u1.ownBlock = some q → wr.heap.size ≤ q) ∧ Ext wr w3 ∧ (∀ j v', y.cells[j]? = some v' → w3.cell? ⟨b2, o2 + k * 2 + j, none⟩ = some v')) (fun (n1 : (List En)) (u1 : Value) (w3 : World) => [(0, .slice (some ⟨b, o, none⟩) l.length c), (3, .slice (some ⟨b2, o2, none⟩) out.length c2), (4, .int .i64 ((i : Nat) : Int)), (5, u1), (6, .bool (or dn (decide (cc ≤ 0)))), (7, .int .i64 ((k : Nat) : Int)), (8, .int .i64 (cc : Int))]) (fun (n1 : (List En)) (u1 : Value) (w3 : World) => w3) ?_ ?_
            · skip
              rcases Decidable.em (cc ≤ 0 ∧ dn = false) with hq | hq
              · obtain ⟨hq1, rfl⟩ := hq
                rw [if_pos ⟨hq1, rfl⟩]
                refine KW.region ?_
                refine OW.val rfl rfl (EX.move rfl) ?_
                refine OW.val rfl rfl (by first | exact EX.leqN (b := 0) rfl rfl | exact EX.leqZ rfl rfl) ?_
                refine OW.val rfl rfl (EX.move rfl) ?_
                refine OW.as 34 (.bool true) rfl (congrArg Value.bool (decide_eq_true (hq1))) ?_
                refine OW.val rfl rfl (EX.move rfl) ?_
                refine OW.val rfl rfl (by first | exact EX.notD rfl | exact EX.notB rfl) ?_
                refine OW.val rfl rfl (EX.pickT rfl rfl) ?_
                refine OW.nil ?_
                refine KW.condT rfl (KW.seq (KW.region ?_))
                refine OW.val rfl rfl (EX.move rfl) ?_
                refine OW.val rfl rfl (EX.move rfl) ?_
                refine OW.val rfl rfl (EX.move rfl) ?_
                refine OW.val rfl rfl (EX.indexAddrS Tryz.underlying31 ti23 rfl rfl (by omega)) ?_
                refine OW.val rfl rfl (EX.loadA (l := x.cells) Tryz.underlying23 rfl ti23 rfl rfl hcellx) ?_
                refine OW.pushSB (w.heap.size) rfl rfl (fun _ => rfl) rfl Tryz.underlying31 ti23 rfl (by decide) (by decide) rfl rfl (fun _ => rfl) (by first | rfl | assumption | (simp only [List.all_cons, List.all_nil, Bool.and_true, Bool.true_and, Bool.and_eq_true, Value.oneCell']; repeat (first | assumption | constructor))) ((hx.trans x2).size) (hown2) (by simp only [maxLen]; omega) (by omega) ?_
                rintro _ u3 w3 hown3 hmo3 hblk3
                refine OW.val rfl rfl (EX.assign rfl) ?_
                refine OW.nil ?_
                refine KW.region ?_
                refine OW.val rfl rfl (EX.assign rfl) ?_
                refine OW.nil ?_
                refine KW.as 6 (.bool (false || decide (cc ≤ 0))) rfl (congrArg Value.bool (by simp [hq1])) ?_
                refine KW.meet3 (nx ++ [x]) (u3) (w3) ⟨rfl, rfl, rfl, rfl, rfl, rfl, rfl, trivial⟩ rfl ?_
                refine ⟨rfl, by simp, by rw [List.length_append, ensV_snoc]; exact hown3, ?_, below_mo x2 hmo3 x2.size (fun q hq => hub q (Option.mem_toList.1 hq)), fun j v' h => ?_⟩
                · intro q hq
                  rcases hblk3 with e | ⟨g, e1, e2⟩
                  · exact hub q (by rw [← e]; exact hq)
                  · rw [e1] at hq
                    cases hq
                    exact Nat.le_trans x2.size e2
                · have h1 := hcelly j v' h
                  have h2 := World.block_lt_of_cell? _ _ (hcell2 j v' h)
                  have h3 : b2 < wr.heap.size ∨ b2 ∉ u.ownBlock.toList := by
                    by_cases z : b2 ∈ u.ownBlock.toList
                    · left
                      have hy := List.getElem_mem hkl
                      obtain ⟨b3, o3, e3, hb3, _⟩ := hsl.flat (l := out) (i := k) (c := 2) (fun _ => rfl) (by decide) hkl
                      cases e3
                      exact hb3
                    · exact .inr z
                  have h4 : b2 ∉ u.ownBlock.toList := by
                    rcases h3 with h3 | h3
                    · exact fun z => by have := hub b2 (Option.mem_toList.1 z); omega
                    · exact h3
                  have h5 := hmo3.block b2 (Nat.lt_of_lt_of_le h2 hS2.size) h4
                  unfold World.cell? at h1 ⊢
                  simp only at h1 ⊢
                  rw [h5]
                  exact h1
              · rw [if_neg hq]
                refine KW.region ?_
                refine OW.val rfl rfl (EX.move rfl) ?_
                refine OW.val rfl rfl (by first | exact EX.leqN (b := 0) rfl rfl | exact EX.leqZ rfl rfl) ?_
                refine OW.val rfl rfl (EX.move rfl) ?_
                refine OW.splitD 34 rfl (fun h1 => ?_) (fun h1 => ?_)
                · have hdn : dn = true := by cases dn; (· exact absurd ⟨h1, rfl⟩ hq); (· rfl)
                  subst hdn
                  refine OW.val rfl rfl (EX.move rfl) ?_
                  refine OW.val rfl rfl (by first | exact EX.notD rfl | exact EX.notB rfl) ?_
                  refine OW.val rfl rfl (EX.pickT rfl rfl) ?_
                  refine OW.nil ?_
                  refine KW.condF rfl (KW.skip ?_)
                  refine KW.as 6 (.bool (true || decide (cc ≤ 0))) rfl (congrArg Value.bool (by simp)) ?_
                  refine KW.meet3 (nx) (u) (w2) ⟨rfl, rfl, rfl, rfl, rfl, rfl, rfl, trivial⟩ rfl ?_
                  exact ⟨rfl, by omega, hown2, hub, x2, hcelly⟩
                · refine OW.pass rfl rfl ?_
                  refine OW.pass rfl rfl ?_
                  refine OW.val rfl rfl (EX.pickF rfl rfl) ?_
                  refine OW.nil ?_
                  refine KW.condF rfl (KW.skip ?_)
                  refine KW.as 6 (.bool (dn || decide (cc ≤ 0))) rfl (congrArg Value.bool (by simp [h1])) ?_
                  refine KW.meet3 (nx) (u) (w2) ⟨rfl, rfl, rfl, rfl, rfl, rfl, rfl, trivial⟩ rfl ?_
                  exact ⟨rfl, by omega, hown2, hub, x2, hcelly⟩
            · rintro n1 u1 w3 ⟨hn1, hnl1, hown3, hub1, hx3, hcelly3⟩
              have hst : stepI En.path x (nx, dn) y = (if cc ≠ 0 then n1 ++ [y] else n1, dn || decide (cc ≤ 0)) := by
                simp only [stepI, hcd, ← hn1]
              refine KW.seq (KW.region ?_)
              refine OW.val rfl rfl (EX.move rfl) ?_
              refine OW.val rfl rfl (by first | exact EX.neqN (b := 0) rfl rfl | exact EX.neqZ rfl rfl) ?_
              refine OW.nil ?_
              refine KW.condD rfl (fun hc0 => ?_) (fun hc0 => ?_)
              · rw [if_pos (by omega)] at hst
                refine KW.region ?_
                refine OW.val rfl rfl (EX.move rfl) ?_
                refine OW.val rfl rfl (EX.move rfl) ?_
                refine OW.val rfl rfl (EX.move rfl) ?_
                refine OW.val rfl rfl (EX.indexAddrS Tryz.underlying31 ti23 rfl rfl (by omega)) ?_
                refine OW.val rfl rfl (EX.loadA (l := y.cells) Tryz.underlying23 rfl ti23 rfl rfl hcelly3) ?_
                refine OW.pushSB (w.heap.size) rfl rfl (fun _ => rfl) rfl Tryz.underlying31 ti23 rfl (by decide) (by decide) rfl rfl (fun _ => rfl) (by first | rfl | assumption | (simp only [List.all_cons, List.all_nil, Bool.and_true, Bool.true_and, Bool.and_eq_true, Value.oneCell']; repeat (first | assumption | constructor))) ((hx.trans hx3).size) (hown3) (by simp only [maxLen]; omega) (by omega) ?_
                rintro _ u4 w4 hown4 hmo4 hblk4
                refine OW.val rfl rfl (EX.assign rfl) ?_
                refine OW.nil ?_
                refine KW.leave (KW.region ?_)
                refine OW.val rfl rfl (EX.move rfl) ?_
                refine OW.val rfl rfl (by first | exact EX.addN (b := 1) (m := 9223372036854775807) rfl rfl rfl (by omega) | exact EX.addZ (m := 9223372036854775807) rfl rfl rfl rfl (by omega)) ?_
                refine OW.val rfl rfl (EX.assign rfl) ?_
                refine OW.nil ?_
                refine KW.back5 (k + 1) (n1 ++ [y]) (dn || decide (cc ≤ 0)) (u4) (w4) ⟨rfl, rfl, rfl, rfl, rfl, rfl, trivial⟩ rfl ?_ (by omega)
                refine ⟨by omega, by rw [hstep, hst], by rw [List.length_append, List.length_singleton]; omega, by rw [List.length_append, ensV_snoc]; exact hown4, ?_, below_mo hx3 hmo4 hx3.size (fun q hq => hub1 q (Option.mem_toList.1 hq))⟩
                intro q hq
                rcases hblk4 with e | ⟨g, e1, e2⟩
                · exact hub1 q (by rw [← e]; exact hq)
                · rw [e1] at hq
                  cases hq
                  exact Nat.le_trans hx3.size e2
              · rw [if_neg (by omega)] at hst
                refine KW.skip (KW.leave (KW.region ?_))
                refine OW.val rfl rfl (EX.move rfl) ?_
                refine OW.val rfl rfl (by first | exact EX.addN (b := 1) (m := 9223372036854775807) rfl rfl rfl (by omega) | exact EX.addZ (m := 9223372036854775807) rfl rfl rfl rfl (by omega)) ?_
                refine OW.val rfl rfl (EX.assign rfl) ?_
                refine OW.nil ?_
                refine KW.back5 (k + 1) (n1) (dn || decide (cc ≤ 0)) (u1) (w3) ⟨rfl, rfl, rfl, rfl, rfl, rfl, trivial⟩ rfl ?_ (by omega)
                exact ⟨by omega, by rw [hstep, hst], by omega, hown3, hub1, hx3⟩
          · obtain rfl : k = out.length := by omega
            rw [List.take_length] at hf
            refine KW.exit rfl ?_
            refine KW.meet4 (nx) (dn) (u) (w1) ⟨rfl, rfl, rfl, rfl, trivial⟩ rfl ?_
            exact ⟨hf, hnl, hownu, hx1⟩
      · rintro nx dn u w1 ⟨hf, hnl, hownu, hx1⟩
        have x1 := hx.trans hx1
        have hins : insF En.path x out = (if dn = true then nx else nx ++ [x]) := by
          unfold insF
          rw [← hf]
          rfl
        rw [insF_eq En.path hmap.rises] at hins
        have hput := IsMap.put En.path hmap x
        have hil := insR_len En.path x out
        rw [← lastF_snoc, ← hsn, hins] at hput
        rw [hins] at hil
        have hcellx := fun j u h => cell_ext hx1 (hcell j u h)
        rcases dn with _ | _
        · rw [if_neg (by decide)] at hput hil
          refine KW.seq (KW.seq (KW.region ?_))
          refine OW.val rfl rfl (EX.move rfl) ?_
          refine OW.val rfl rfl (by first | exact EX.notD rfl | exact EX.notB rfl) ?_
          refine OW.nil ?_
          refine KW.condT rfl (KW.region ?_)
          refine OW.val rfl rfl (EX.move rfl) ?_
          refine OW.val rfl rfl (EX.move rfl) ?_
          refine OW.val rfl rfl (EX.move rfl) ?_
          refine OW.val rfl rfl (EX.indexAddrS Tryz.underlying31 ti23 rfl rfl (by omega)) ?_
          refine OW.val rfl rfl (EX.loadA (l := x.cells) Tryz.underlying23 rfl ti23 rfl rfl hcellx) ?_
          refine OW.pushS rfl rfl (fun _ => rfl) rfl Tryz.underlying31 ti23 rfl (by decide) (by decide) rfl rfl (fun _ => rfl) (by first | rfl | assumption | (simp only [List.all_cons, List.all_nil, Bool.and_true, Bool.true_and, Bool.and_eq_true, Value.oneCell']; repeat (first | assumption | constructor))) (x1) (hownu) (by simp only [maxLen]; omega) (by omega) ?_
          rintro _ u4 w4 hown4 hx4 hg4
          refine OW.val rfl rfl (EX.assign rfl) ?_
          refine OW.nil ?_
          refine KW.region ?_
          refine OW.val rfl rfl (EX.move rfl) ?_
          refine OW.val rfl rfl (EX.assign rfl) ?_
          refine OW.nil ?_
          refine KW.leave (KW.region ?_)
          refine OW.val rfl rfl (EX.move rfl) ?_
          refine OW.val rfl rfl (by first | exact EX.addN (b := 1) (m := 9223372036854775807) rfl rfl rfl (by omega) | exact EX.addZ (m := 9223372036854775807) rfl rfl rfl rfl (by omega)) ?_
          refine OW.val rfl rfl (EX.assign rfl) ?_
          refine OW.nil ?_
          refine KW.back4 (i + 1) (nx ++ [x]) (u4) (w4) ⟨rfl, rfl, rfl, trivial⟩ rfl ?_ (by omega)
          refine ⟨by omega, hput, by omega, by rw [List.length_append, ensV_snoc]; exact hown4, hx4⟩
        · rw [if_pos rfl] at hput hil
          refine KW.seq (KW.seq (KW.region ?_))
          refine OW.val rfl rfl (EX.move rfl) ?_
          refine OW.val rfl rfl (by first | exact EX.notD rfl | exact EX.notB rfl) ?_
          refine OW.nil ?_
          refine KW.condF rfl (KW.skip (KW.region ?_))
          refine OW.val rfl rfl (EX.move rfl) ?_
          refine OW.val rfl rfl (EX.assign rfl) ?_
          refine OW.nil ?_
          refine KW.leave (KW.region ?_)
          refine OW.val rfl rfl (EX.move rfl) ?_
          refine OW.val rfl rfl (by first | exact EX.addN (b := 1) (m := 9223372036854775807) rfl rfl rfl (by omega) | exact EX.addZ (m := 9223372036854775807) rfl rfl rfl rfl (by omega)) ?_
          refine OW.val rfl rfl (EX.assign rfl) ?_
          refine OW.nil ?_
          refine KW.back4 (i + 1) (nx) (u) (w1) ⟨rfl, rfl, rfl, trivial⟩ rfl ?_ (by omega)
          exact ⟨by omega, hput, by omega, hownu, x1⟩
    · obtain rfl : i = l.length := by omega
      rw [List.take_length] at hmap
      refine KW.exit rfl (KW.seq (KW.region ?_))
      refine OW.val rfl rfl (EX.move rfl) ?_
      refine OW.val rfl rfl (EX.assign rfl) ?_
      refine OW.nil ?_
      refine KW.ret (ret1 rfl rfl ?_)
      exact ⟨out, hmap, hown, hx⟩
set_option maxRecDepth 20000 in
theorem tarLasts_s (l : List En) (hl : (∀ x ∈ l, EnOk x) ∧ l.length ≤ 140737488355328) (A : Option Addr) (c : Nat) (w : World) (B : Nat) (hs : Sl w B A (ensV l)) (ht : Tab w) (hm : ∃ m : Int, w.cell? ⟨0, 0, none⟩ = some (.int .i64 m)) :
    Ret Tryz.prog 6 [.slice A l.length c] w fun v w' => v = .bool true ∧ Ext w w' := by
  have hG : Env w := ⟨ht, hm⟩
  have hM : MLen w := hm
  have c0 := light_s l hl.1 hl.2 A c B w hs
  have bye : ∀ w', Ext w w' → Ret Tryz.prog 8 [] w' fun v w'' => v = .bool true ∧ Ext w w'' := fun w' hx => (awake18_s w' (hG.ext hx)).mono fun _ _ h => ⟨h.1, hx.trans h.2⟩
  refine Ret.enter Tryz.func6 rfl Tryz.ntmps6 (by kernel_rfl) rfl ?_
  refine KW.seq (KW.region ?_)
  refine OW.val rfl rfl (EX.assign rfl) ?_
  refine OW.nil ?_
  refine KW.seq (KW.seq (KW.region ?_))
  refine OW.val rfl rfl (EX.move rfl) ?_
  rcases Decidable.em (hv l ≤ 40000) with hlight | hlight
  · rw [decide_eq_true hlight] at c0
    refine OW.call rfl rfl rfl (c0) ?_
    rintro _ w1 ⟨rfl, hx1⟩
    refine OW.val rfl rfl (by first | exact EX.notD rfl | exact EX.notB rfl) ?_
    refine OW.nil ?_
    refine KW.condF rfl (KW.skip (KW.seq (KW.region ?_)))
    have hld := light_data hlight
    have hbd : ∀ x ∈ l, x.path.length ≤ 2000000 := fun x hx => by have := (hld x hx).1; omega
    have hll := hv_len l
    refine OW.buildG 0 ([]) rfl rfl Tryz.underlying31 ti23 rfl (by decide) rfl rfl rfl (by repeat' (first | exact List.forall_mem_nil _ | refine List.forall_mem_cons.2 ⟨by first | rfl | assumption, ?_⟩)) (by decide) ?_
    rintro eb w2 hge2 hb2 hx2
    refine OW.val rfl rfl (EX.move rfl) ?_
    have x2 := hx1.trans hx2
    have hown2 : Own w2 w.heap.size 23 2 (.slice (some ⟨eb, 0, none⟩) 0 0) 0 [] := Own.of_bk (cap := 0) hb2 (by have := hx1.size; omega) rfl (by decide)
    refine OW.appendX rfl rfl Tryz.underlying31 ti23 rfl (by decide) rfl rfl (x2) (hown2) (Src.of_sl Tryz.underlying31 (hs.ext x2) (flat_len (cells := En.cells) (k := 2) (fun _ => rfl) l) (ensV_one l) (by decide)) (by simp only [maxLen]; omega) (by omega) ?_
    rintro u3 w3 hown3 hx3 hg3 hv3
    refine OW.val rfl rfl (EX.assign rfl) ?_
    refine OW.nil ?_
    refine KW.seq ?_
    rw [List.nil_append] at hown3
    obtain ⟨A3, c3, rfl, _, hsl3⟩ := hown3.slice
    rw [Nat.zero_add] at *
    have c1 := last18_s l hbd (by omega) A3 c3 _ w3 (hM.ext hx3) hsl3
    refine KW.region ?_
    refine OW.val rfl rfl (EX.move rfl) ?_
    refine OW.call rfl rfl rfl (c1) ?_
    rintro _ w4 ⟨out, hout, hown4, hx4⟩
    refine OW.val rfl rfl (EX.move rfl) ?_
    have x4 := hx3.trans hx4
    refine OW.call rfl rfl rfl (rlast18_s l hbd (by omega) A c _ w4 (hs.ext x4)) ?_
    rintro _ w5 ⟨out2, hout2, hown5, hx5⟩
    obtain rfl := hout.one hout2
    have x5 := x4.trans hx5
    have hown4b := hown4.ext hx5
    obtain ⟨A4, c4, rfl, _, hsl4⟩ := hown4b.slice
    obtain ⟨A5, c5, rfl, _, hsl5⟩ := hown5.slice
    have hol : out.length ≤ 1000000 := by
      have h1 := nodup_le (V := out.map En.path) (A := l.map En.path) (by
        have hp := hout.rises
        exact List.pairwise_map.2 (hp.imp fun {a b} h e => by have := (cmpK_eq En.path a b).2 e; omega)) (fun p hp => by
        obtain ⟨z, hz, rfl⟩ := List.mem_map.1 hp
        exact List.mem_map.2 ⟨z, lastF_mem En.path ((hout.mem z).1 hz), rfl⟩)
      simp only [List.length_map] at h1
      omega
    have c6 := sameE_s out out A4 A5 c4 c5 w5 _ _ hsl4 hsl5 (by omega)
    rw [decide_eq_true rfl] at c6
    refine OW.call rfl rfl rfl (c6) ?_
    rintro _ w6 ⟨rfl, hx6⟩
    refine OW.val rfl rfl (EX.move rfl) ?_
    have x6 := x5.trans hx6
    refine OW.val rfl rfl (EX.move rfl) ?_
    refine OW.val rfl rfl (EX.move rfl) ?_
    have c7 := sameE_s l l A3 A c3 c w6 _ _ (((hsl3.ext hx4).ext hx5).ext hx6) (hs.ext x6) (by omega)
    rw [decide_eq_true rfl] at c7
    refine OW.call rfl rfl rfl (c7) ?_
    rintro _ w7 ⟨rfl, hx7⟩
    refine OW.val rfl rfl (EX.pickT rfl rfl) ?_
    refine OW.val rfl rfl (EX.move rfl) ?_
    refine OW.call rfl rfl rfl (bye w7 (x6.trans hx7)) ?_
    rintro _ w8 ⟨rfl, hx8⟩
    refine OW.val rfl rfl (EX.pickT rfl rfl) ?_
    refine OW.val rfl rfl (EX.assign rfl) ?_
    refine OW.nil ?_
    refine KW.ret (ret1 rfl rfl ?_)
    exact ⟨rfl, hx8⟩
  · rw [decide_eq_false hlight] at c0
    refine OW.call rfl rfl rfl (c0) ?_
    rintro _ w1 ⟨rfl, hx1⟩
    refine OW.val rfl rfl (by first | exact EX.notD rfl | exact EX.notB rfl) ?_
    refine OW.nil ?_
    refine KW.condT rfl (KW.seq (KW.region ?_))
    refine OW.call rfl rfl rfl (bye w1 hx1) ?_
    rintro _ w2 ⟨rfl, hx2⟩
    refine OW.val rfl rfl (EX.assign rfl) ?_
    refine OW.nil ?_
    refine KW.ret (ret1 rfl rfl ?_)
    exact ⟨rfl, hx2⟩
end Go.Proofs.YtjgeoeeikfjmdaaGreatDoor
/- tar: the last files are their own last ones; later ones leave nothing of earlier ones. -/
namespace Go.Proofs.YtjgeoeeikfjmdaaGreatDoor
set_option linter.unnecessarySimpa false
open Go.ChangeShapes Go.WideShapes Go.ChangeAt Go.RowKit Go.Deep Fld Ust Pax Pth Tar Srt
set_option linter.unusedVariables false
set_option linter.unusedSimpArgs false

theorem tab_of5 {W : World} (h : laidMetH Tryz.prog Rows.tarLastsRow.laid W) : Tab W := by
  have h2 : laidMet Tryz.prog [("internal/strconv.uint64pow10", Lib.tabData .u64 Lib.pow10Tab), ("unicode/utf8.acceptRanges", Rows.laid_unicode_utf8_acceptRanges), ("unicode/utf8.first", Rows.laid_unicode_utf8_first)] W := laidMet.tail (laidMet.tail h)
  exact Lib.tabBelow_of_tabIs (Lib.tabIs_of_head (rest := [("unicode/utf8.acceptRanges", Rows.laid_unicode_utf8_acceptRanges), ("unicode/utf8.first", Rows.laid_unicode_utf8_first)]) (g := 1) (by kernel_rfl) (by kernel_rfl) Tryz.underlying179 Tryz.underlying142 (by kernel_rfl) (by kernel_rfl) h2)
theorem last_len {l out : List En} (h : IsMap En.path (lastF En.path l) out) : out.length ≤ l.length := by
  have h1 := nodup_le (V := out.map En.path) (A := l.map En.path) (List.pairwise_map.2 (h.rises.imp fun {a b} q e => by have := (cmpK_eq En.path a b).2 e; omega)) (fun p hp => by
    obtain ⟨z, hz, rfl⟩ := List.mem_map.1 hp
    exact List.mem_map.2 ⟨z, lastF_mem En.path ((h.mem z).1 hz), rfl⟩)
  simpa using h1
theorem last_more {l more a b : List En} (ha : IsMap En.path (lastF En.path l) a) (hb : IsMap En.path (lastF En.path (more ++ l)) b) : a.length ≤ b.length := by
  have hn : a.Nodup := ha.rises.imp fun {x y} q e => by subst e; have := (cmpK_eq En.path x x).2 rfl; omega
  refine nodup_le hn fun z hz => (hb.mem z).2 ?_
  rw [lastF_app, (ha.mem z).1 hz]
  rfl
def covers (l more : List En) : Bool := more.all (fun y => l.any (fun x => decide (x.path = y.path)))
theorem last_same {l more a b : List En} (ha : IsMap En.path (lastF En.path l) a) (hb : IsMap En.path (lastF En.path (more ++ l)) b) (hc : covers l more = true) : a = b := by
  have e : lastF En.path (more ++ l) = lastF En.path l := by
    funext p
    rw [lastF_app]
    cases h : lastF En.path l p with
    | some z => rfl
    | none =>
      rw [Option.none_or]
      refine (lastF_none En.path).2 fun y hy e => ?_
      have h1 := List.all_eq_true.1 hc y hy
      obtain ⟨x, hx, h2⟩ := List.any_eq_true.1 h1
      exact (lastF_none En.path).1 h x hx (by rw [← e]; simpa using h2)
  rw [e] at hb
  exact ha.one hb
set_option maxRecDepth 20000 in
theorem tarTwice_s (l : List En) (hl : (∀ x ∈ l, EnOk x) ∧ l.length ≤ 140737488355328) (A : Option Addr) (c : Nat) (more : List En) (hl' : (∀ x ∈ more, EnOk x) ∧ more.length ≤ 140737488355328) (A' : Option Addr) (c' : Nat) (w : World) (B : Nat) (hs : Sl w B A (ensV l)) (B' : Nat) (hs' : Sl w B' A' (ensV more)) (ht : Tab w) (hm : ∃ m : Int, w.cell? ⟨0, 0, none⟩ = some (.int .i64 m)) :
    Ret Tryz.prog 7 [.slice A l.length c, .slice A' more.length c'] w fun v w' => v = .bool true ∧ Ext w w' := by
  have hG : Env w := ⟨ht, hm⟩
  have hM : MLen w := hm
  have c0 := light_s l hl.1 hl.2 A c B w hs
  have c0' := fun w hs => light_s more hl'.1 hl'.2 A' c' B' w hs
  have bye : ∀ w', Ext w w' → Ret Tryz.prog 8 [] w' fun v w'' => v = .bool true ∧ Ext w w'' := fun w' hx => (awake18_s w' (hG.ext hx)).mono fun _ _ h => ⟨h.1, hx.trans h.2⟩
  refine Ret.enter Tryz.func7 rfl Tryz.ntmps7 (by kernel_rfl) rfl ?_
  refine KW.seq (KW.region ?_)
  refine OW.val rfl rfl (EX.assign rfl) ?_
  refine OW.nil ?_
  refine KW.seq (KW.seq ?_)
  rcases Decidable.em (hv l ≤ 40000) with hlight | hlight
  · rw [decide_eq_true hlight] at c0
    refine KW.region ?_
    refine OW.val rfl rfl (EX.move rfl) ?_
    refine OW.call rfl rfl rfl (c0) ?_
    rintro _ w1 ⟨rfl, hx1⟩
    refine OW.val rfl rfl (by first | exact EX.notD rfl | exact EX.notB rfl) ?_
    refine OW.val rfl rfl (EX.move rfl) ?_
    refine OW.val rfl rfl (EX.move rfl) ?_
    have c1 := c0' w1 (hs'.ext hx1)
    rcases Decidable.em (hv more ≤ 40000) with hlight' | hlight'
    · rw [decide_eq_true hlight'] at c1
      refine OW.call rfl rfl rfl (c1) ?_
      rintro _ w2 ⟨rfl, hx2⟩
      refine OW.val rfl rfl (by first | exact EX.notD rfl | exact EX.notB rfl) ?_
      refine OW.val rfl rfl (EX.pickF rfl rfl) ?_
      refine OW.nil ?_
      refine KW.condF rfl (KW.skip (KW.seq (KW.region ?_)))
      refine OW.val rfl rfl (EX.move rfl) ?_
      have x2 := hx1.trans hx2
      have hbd : ∀ x ∈ l, x.path.length ≤ 2000000 := fun x hx => by have := (light_data hlight x hx).1; omega
      have hbd' : ∀ x ∈ more, x.path.length ≤ 2000000 := fun x hx => by have := (light_data hlight' x hx).1; omega
      have hll := hv_len l
      have hll' := hv_len more
      refine OW.call rfl rfl rfl (last18_s l hbd (by omega) A c _ w2 (hM.ext x2) (hs.ext x2)) ?_
      rintro _ w3 ⟨a, ha, hownA, hx3⟩
      refine OW.val rfl rfl (EX.assign rfl) ?_
      refine OW.nil ?_
      refine KW.seq (KW.seq (KW.region ?_))
      refine OW.val rfl rfl (EX.assign rfl) ?_
      refine OW.nil ?_
      have x3 := x2.trans hx3
      obtain ⟨Aa, ca, rfl, _, hsla⟩ := hownA.slice
      have hal := last_len ha
      have habd : ∀ x ∈ a, x.path.length ≤ 2000000 := fun x hx => hbd x (lastF_mem En.path ((ha.mem x).1 hx))
      refine KW.cut1 (fun (wr : World) => Ext w3 wr) (fun (wr : World) => [(0, .slice A l.length c), (1, .slice A' more.length c'), (5, .slice Aa a.length ca)]) (fun (wr : World) => wr) ?_ ?_
      · refine KW.block ?_
        refine KW.loop2 (fun (i : Nat) (wr : World) => i ≤ a.length ∧ Ext w3 wr) (fun (i : Nat) (wr : World) => [(0, .slice A l.length c), (1, .slice A' more.length c'), (5, .slice Aa a.length ca), (6, .int .i64 ((i : Nat) : Int))]) (fun (i : Nat) (wr : World) => wr) (fun (i : Nat) (wr : World) => a.length - i) (0) (w3) ⟨rfl, rfl, rfl, rfl, trivial⟩ rfl ?_ ?_
        · exact ⟨Nat.zero_le _, Ext.refl _⟩
        · rintro i wr ⟨hi, hx⟩
          have xr := x3.trans hx
          refine KW.seq (KW.seq (KW.region ?_))
          refine OW.val rfl rfl (EX.move rfl) ?_
          refine OW.val rfl rfl (EX.move rfl) ?_
          refine OW.val rfl rfl (EX.lenA Tryz.underlying31 rfl) ?_
          refine OW.val rfl rfl (by first | exact EX.lssN rfl rfl | exact EX.lssZ rfl rfl) ?_
          refine OW.nil ?_
          refine KW.condD rfl (fun hia => ?_) (fun hia => ?_)
          · obtain ⟨b, o, rfl, _, hcz⟩ := (hsla.ext hx).flat (l := a) (i := i) (c := 2) (fun _ => rfl) (by decide) hia
            have hzm := (ha.mem a[i]).1 (List.getElem_mem hia)
            have hzl := habd a[i] (List.getElem_mem hia)
            have hprev : ∀ h : 0 < i, cmpP (a[i - 1]'(by omega)).path (a[i]).path = -1 := fun h => List.pairwise_iff_getElem.1 ha.rises (i - 1) i (by omega) hia (by omega)
            have hpl : ∀ h : 0 < i, (a[i - 1]'(by omega)).path.length ≤ 2000000 := fun h => habd _ (List.getElem_mem _)
            have hcp : ∀ h : 0 < i, ∀ j u, (a[i - 1]'(by omega)).cells[j]? = some u → wr.cell? ⟨b, o + (i - 1) * 2 + j, none⟩ = some u := fun h => by
              obtain ⟨b2, o2, e2, _, h2⟩ := (hsla.ext hx).flat (l := a) (i := i - 1) (c := 2) (fun _ => rfl) (by decide) (by omega)
              cases e2
              exact h2
            generalize hzd : a[i] = z at hcz hzm hzl hprev
            refine KW.skip (KW.seq (KW.block (KW.seq (KW.seq ?_))))
            refine KW.cut1 (fun (wq : World) => Ext wr wq) (fun (wq : World) => [(0, .slice A l.length c), (1, .slice A' more.length c'), (5, .slice (some ⟨b, o, none⟩) a.length ca), (6, .int .i64 ((i : Nat) : Int)), (47, .bool false)]) (fun (wq : World) => wq) ?_ ?_
            · skip
              rcases Nat.eq_zero_or_pos i with h0 | h0
              · refine KW.regionG (N := 17) (fun w' => Ext wr w') (by kernel_rfl) rfl ?_
                have hS := Ext.drew wr
                refine GW.val 0 rfl (by kernel_rfl) (by kernel_rfl) (by kernel_rfl) rfl rfl hS (fun w' hS' => EX.move rfl) ?_
                refine GW.val 1 rfl (by kernel_rfl) (by kernel_rfl) (by kernel_rfl) rfl rfl hS (fun w' hS' => by first | exact EX.gtrN (b := 0) rfl rfl | exact EX.gtrZ rfl rfl) ?_
                refine GW.val 2 rfl (by kernel_rfl) (by kernel_rfl) (by kernel_rfl) rfl rfl hS (fun w' hS' => EX.move rfl) ?_
                refine GW.as 33 (.bool false) rfl (congrArg Value.bool (decide_eq_false ((by omega)))) ?_
                refine GW.pass 3 rfl (by kernel_rfl) (by kernel_rfl) (by kernel_rfl) rfl rfl hS ?_
                refine GW.pass 4 rfl (by kernel_rfl) (by kernel_rfl) (by kernel_rfl) rfl rfl hS ?_
                refine GW.pass 5 rfl (by kernel_rfl) (by kernel_rfl) (by kernel_rfl) rfl rfl hS ?_
                refine GW.pass 6 rfl (by kernel_rfl) (by kernel_rfl) (by kernel_rfl) rfl rfl hS ?_
                refine GW.pass 7 rfl (by kernel_rfl) (by kernel_rfl) (by kernel_rfl) rfl rfl hS ?_
                refine GW.pass 8 rfl (by kernel_rfl) (by kernel_rfl) (by kernel_rfl) rfl rfl hS ?_
                refine GW.pass 9 rfl (by kernel_rfl) (by kernel_rfl) (by kernel_rfl) rfl rfl hS ?_
                refine GW.pass 10 rfl (by kernel_rfl) (by kernel_rfl) (by kernel_rfl) rfl rfl hS ?_
                refine GW.pass 11 rfl (by kernel_rfl) (by kernel_rfl) (by kernel_rfl) rfl rfl hS ?_
                refine GW.pass 12 rfl (by kernel_rfl) (by kernel_rfl) (by kernel_rfl) rfl rfl hS ?_
                refine GW.pass 13 rfl (by kernel_rfl) (by kernel_rfl) (by kernel_rfl) rfl rfl hS ?_
                refine GW.pass 14 rfl (by kernel_rfl) (by kernel_rfl) (by kernel_rfl) rfl rfl hS ?_
                refine GW.pass 15 rfl (by kernel_rfl) (by kernel_rfl) (by kernel_rfl) rfl rfl hS ?_
                refine GW.val 16 rfl (by kernel_rfl) (by kernel_rfl) (by kernel_rfl) rfl rfl hS (fun w' hS' => EX.pickF rfl rfl) ?_
                refine GW.done (by kernel_rfl) ?_
                refine KW.meet1 (wr.drew) ⟨rfl, rfl, rfl, rfl, rfl, trivial⟩ rfl ?_
                exact Ext.drew wr
              · have e1 := hprev h0
                have e2 := hpl h0
                have e3 := hcp h0
                generalize (a[i - 1]'(by omega)) = y at e1 e2 e3
                have cc := fun w hG => cmp_s y.path z.path e2 hzl w hG
                rw [e1] at cc
                refine KW.regionG (N := 17) (fun w' => Ext wr w') (by kernel_rfl) rfl ?_
                have hS := Ext.drew wr
                refine GW.val 0 rfl (by kernel_rfl) (by kernel_rfl) (by kernel_rfl) rfl rfl hS (fun w' hS' => EX.move rfl) ?_
                refine GW.val 1 rfl (by kernel_rfl) (by kernel_rfl) (by kernel_rfl) rfl rfl hS (fun w' hS' => by first | exact EX.gtrN (b := 0) rfl rfl | exact EX.gtrZ rfl rfl) ?_
                refine GW.val 2 rfl (by kernel_rfl) (by kernel_rfl) (by kernel_rfl) rfl rfl hS (fun w' hS' => EX.move rfl) ?_
                refine GW.as 33 (.bool true) rfl (congrArg Value.bool (decide_eq_true ((by omega)))) ?_
                refine GW.val 3 rfl (by kernel_rfl) (by kernel_rfl) (by kernel_rfl) rfl rfl hS (fun w' hS' => EX.move rfl) ?_
                refine GW.val 4 rfl (by kernel_rfl) (by kernel_rfl) (by kernel_rfl) rfl rfl hS (fun w' hS' => EX.move rfl) ?_
                refine GW.val 5 rfl (by kernel_rfl) (by kernel_rfl) (by kernel_rfl) rfl rfl hS (fun w' hS' => by first | exact EX.subN (b := 1) (m := 9223372036854775807) rfl rfl rfl (by omega) | exact EX.subZ (m := 9223372036854775807) rfl rfl rfl rfl (by omega)) ?_
                refine GW.val 6 rfl (by kernel_rfl) (by kernel_rfl) (by kernel_rfl) rfl rfl hS (fun w' hS' => EX.indexAddrS Tryz.underlying31 ti23 rfl rfl (by omega)) ?_
                refine GW.val 7 rfl (by kernel_rfl) (by kernel_rfl) (by kernel_rfl) rfl rfl hS (fun w' hS' => EX.fieldAddr (off := 0) Tryz.underlying23 rfl rfl ti9 rfl rfl) ?_
                refine GW.val 8 rfl (by kernel_rfl) (by kernel_rfl) (by kernel_rfl) rfl rfl hS (fun w' hS' => EX.load Tryz.underlying9 rfl rfl (cell_ext hS' (e3 0 _ rfl))) ?_
                refine GW.val 9 rfl (by kernel_rfl) (by kernel_rfl) (by kernel_rfl) rfl rfl hS (fun w' hS' => EX.move rfl) ?_
                refine GW.val 10 rfl (by kernel_rfl) (by kernel_rfl) (by kernel_rfl) rfl rfl hS (fun w' hS' => EX.move rfl) ?_
                refine GW.val 11 rfl (by kernel_rfl) (by kernel_rfl) (by kernel_rfl) rfl rfl hS (fun w' hS' => EX.indexAddrS Tryz.underlying31 ti23 rfl rfl (by omega)) ?_
                refine GW.val 12 rfl (by kernel_rfl) (by kernel_rfl) (by kernel_rfl) rfl rfl hS (fun w' hS' => EX.fieldAddr (off := 0) Tryz.underlying23 rfl rfl ti9 rfl rfl) ?_
                refine GW.val 13 rfl (by kernel_rfl) (by kernel_rfl) (by kernel_rfl) rfl rfl hS (fun w' hS' => EX.load Tryz.underlying9 rfl rfl (cell_ext hS' (hcz 0 _ rfl))) ?_
                refine GW.call 14 rfl (by kernel_rfl) rfl rfl rfl (cc _ ((hM.ext xr).ext hS)) ?_
                rintro _ wq ⟨rfl, hxq⟩
                refine ⟨hS.trans hxq, fun hS => ?_⟩
                refine GW.val 15 rfl (by kernel_rfl) (by kernel_rfl) (by kernel_rfl) rfl rfl hS (fun w' hS' => by first | exact EX.geqN (b := 0) rfl rfl | exact EX.geqZ rfl rfl) ?_
                refine GW.val 16 rfl (by kernel_rfl) (by kernel_rfl) (by kernel_rfl) rfl rfl hS (fun w' hS' => EX.pickT rfl rfl) ?_
                refine GW.done (by kernel_rfl) ?_
                refine KW.as 47 (.bool false) rfl (congrArg Value.bool (decide_eq_false ((by omega)))) ?_
                refine KW.meet1 (wq) ⟨rfl, rfl, rfl, rfl, rfl, trivial⟩ rfl ?_
                exact hS
            · rintro wq hxq
              have xq := xr.trans hxq
              refine KW.condF rfl (KW.skip (KW.seq (KW.region ?_)))
              refine OW.val rfl rfl (EX.assign rfl) ?_
              refine OW.nil ?_
              refine KW.seq (KW.seq (KW.region ?_))
              refine OW.val rfl rfl (EX.assign rfl) ?_
              refine OW.nil ?_
              refine KW.cut1 (fun (wr2 : World) => Ext wq wr2) (fun (wr2 : World) => [(0, .slice A l.length c), (1, .slice A' more.length c'), (5, .slice (some ⟨b, o, none⟩) a.length ca), (6, .int .i64 ((i : Nat) : Int)), (7, .bool true)]) (fun (wr2 : World) => wr2) ?_ ?_
              · refine KW.block ?_
                refine KW.loop2 (fun (k : Nat) (wr2 : World) => k ≤ l.length ∧ Ext wq wr2) (fun (k : Nat) (wr2 : World) => [(0, .slice A l.length c), (1, .slice A' more.length c'), (5, .slice (some ⟨b, o, none⟩) a.length ca), (6, .int .i64 ((i : Nat) : Int)), (7, .bool (decide (lastF En.path (l.take k) z.path = some z))), (8, .int .i64 ((k : Nat) : Int))]) (fun (k : Nat) (wr2 : World) => wr2) (fun (k : Nat) (wr2 : World) => l.length - k) (0) (wq) ⟨rfl, rfl, rfl, rfl, rfl, rfl, trivial⟩ rfl ?_ ?_
                · exact ⟨Nat.zero_le _, Ext.refl _⟩
                · rintro k wr2 ⟨hk, hx2⟩
                  refine KW.seq (KW.seq (KW.region ?_))
                  refine OW.val rfl rfl (EX.move rfl) ?_
                  refine OW.val rfl rfl (EX.move rfl) ?_
                  refine OW.val rfl rfl (EX.lenA Tryz.underlying31 rfl) ?_
                  refine OW.val rfl rfl (by first | exact EX.lssN rfl rfl | exact EX.lssZ rfl rfl) ?_
                  refine OW.nil ?_
                  refine KW.condD rfl (fun hkl => ?_) (fun hkl => ?_)
                  · obtain ⟨b2, o2, rfl, _, hcy⟩ := (hs.ext (xq.trans hx2)).flat (i := k) (c := 2) (fun _ => rfl) (by decide) hkl
                    have hsn := take_snoc' hkl
                    have hcz2 := fun j u h => cell_ext (hxq.trans hx2) (hcz j u h)
                    generalize l[k] = y at hcy hsn
                    have hnext : lastF En.path (l.take (k + 1)) z.path = if z.path = y.path then some y else lastF En.path (l.take k) z.path := by rw [hsn, lastF_snoc]; rfl
                    refine KW.skip (KW.seq (KW.block (KW.seq ?_)))
                    refine KW.regionQ (by kernel_rfl) (by kernel_rfl) ?_
                    refine QW.val rfl rfl (fun _ => EX.move rfl) ?_
                    refine QW.val rfl rfl (fun _ => EX.move rfl) ?_
                    refine QW.val rfl rfl (fun _ => EX.indexAddrS Tryz.underlying31 ti23 rfl rfl (by omega)) ?_
                    refine QW.val rfl rfl (fun _ => EX.fieldAddr (off := 0) Tryz.underlying23 rfl rfl ti9 rfl rfl) ?_
                    refine QW.val rfl rfl (fun _ => EX.load Tryz.underlying9 rfl rfl (hcy 0 _ rfl)) ?_
                    refine QW.val rfl rfl (fun _ => EX.move rfl) ?_
                    refine QW.val rfl rfl (fun _ => EX.move rfl) ?_
                    refine QW.val rfl rfl (fun _ => EX.indexAddrS Tryz.underlying31 ti23 rfl rfl (by omega)) ?_
                    refine QW.val rfl rfl (fun _ => EX.fieldAddr (off := 0) Tryz.underlying23 rfl rfl ti9 rfl rfl) ?_
                    refine QW.val rfl rfl (fun _ => EX.load Tryz.underlying9 rfl rfl (hcz2 0 _ rfl)) ?_
                    refine QW.val rfl rfl (fun _ => EX.eqlS rfl rfl) ?_
                    refine QW.nil (fun nq => ?_)
                    refine KW.condD rfl (fun hp => ?_) (fun hp => ?_)
                    · rw [if_pos hp.symm] at hnext
                      have hxa := hx2.trans (Ext.drewN wr2 nq)
                      have hcy3 := fun j u h => cell_ext (Ext.drewN wr2 nq) (hcy j u h)
                      have hcz3 := fun j u h => cell_ext (Ext.drewN wr2 nq) (hcz2 j u h)
                      generalize wr2.drewN nq = wp at hxa hcy3 hcz3
                      refine KW.regionQ (by kernel_rfl) (by kernel_rfl) ?_
                      refine QW.val rfl rfl (fun _ => EX.move rfl) ?_
                      refine QW.val rfl rfl (fun _ => EX.move rfl) ?_
                      refine QW.val rfl rfl (fun _ => EX.indexAddrS Tryz.underlying31 ti23 rfl rfl (by omega)) ?_
                      refine QW.val rfl rfl (fun _ => EX.loadA (w := wp.drewN _) (l := y.cells) Tryz.underlying23 rfl ti23 rfl rfl hcy3) ?_
                      refine QW.val rfl rfl (fun _ => EX.move rfl) ?_
                      refine QW.val rfl rfl (fun _ => EX.move rfl) ?_
                      refine QW.val rfl rfl (fun _ => EX.indexAddrS Tryz.underlying31 ti23 rfl rfl (by omega)) ?_
                      refine QW.val rfl rfl (fun _ => EX.loadA (w := wp.drewN _) (l := z.cells) Tryz.underlying23 rfl ti23 rfl rfl hcz3) ?_
                      refine QW.val rfl rfl (fun _ => EX.eqlG Tryz.underlying23 (by kernel_rfl) (by kernel_rfl) rfl rfl (.cons (by decide) Tryz.underlying9 rfl rfl rfl (eq_str Tryz.underlying9) (.cons (by decide) Tryz.underlying9 rfl rfl rfl (eq_str Tryz.underlying9) .nil)) rfl) ?_
                      refine QW.val rfl rfl (fun _ => EX.assign rfl) ?_
                      refine QW.nil (fun nq => ?_)
                      refine KW.leave (KW.region ?_)
                      refine OW.val rfl rfl (EX.move rfl) ?_
                      refine OW.val rfl rfl (by first | exact EX.addN (b := 1) (m := 9223372036854775807) rfl rfl rfl (by omega) | exact EX.addZ (m := 9223372036854775807) rfl rfl rfl rfl (by omega)) ?_
                      refine OW.val rfl rfl (EX.assign rfl) ?_
                      refine OW.nil ?_
                      refine KW.as 7 (.bool (decide (lastF En.path (l.take (k + 1)) z.path = some z))) rfl (congrArg Value.bool (by rw [hnext, en_eq]; exact decide_eq_decide.2 ⟨fun h => by rw [h], fun h => by injection h⟩)) ?_
                      refine KW.back2 (k + 1) (wp.drewN _) ⟨rfl, rfl, rfl, rfl, rfl, rfl, trivial⟩ rfl ?_ (by omega)
                      exact ⟨by omega, hxa.trans (Ext.drewN _ _)⟩
                    · rw [if_neg (fun e => hp e.symm)] at hnext
                      refine KW.skip (KW.leave (KW.region ?_))
                      refine OW.val rfl rfl (EX.move rfl) ?_
                      refine OW.val rfl rfl (by first | exact EX.addN (b := 1) (m := 9223372036854775807) rfl rfl rfl (by omega) | exact EX.addZ (m := 9223372036854775807) rfl rfl rfl rfl (by omega)) ?_
                      refine OW.val rfl rfl (EX.assign rfl) ?_
                      refine OW.nil ?_
                      refine KW.as 7 (.bool (decide (lastF En.path (l.take (k + 1)) z.path = some z))) rfl (by rw [hnext]) ?_
                      refine KW.back2 (k + 1) (wr2.drewN nq) ⟨rfl, rfl, rfl, rfl, rfl, rfl, trivial⟩ rfl ?_ (by omega)
                      exact ⟨by omega, hx2.trans (Ext.drewN _ _)⟩
                  · obtain rfl : k = l.length := by omega
                    refine KW.exit rfl ?_
                    refine KW.as 7 (.bool true) rfl (congrArg Value.bool (decide_eq_true (by rw [List.take_length]; exact hzm))) ?_
                    refine KW.meet1 (wr2) ⟨rfl, rfl, rfl, rfl, rfl, trivial⟩ rfl ?_
                    exact hx2
              · rintro wr2 hx2
                refine KW.seq (KW.region ?_)
                refine OW.val rfl rfl (EX.move rfl) ?_
                refine OW.val rfl rfl (by first | exact EX.notD rfl | exact EX.notB rfl) ?_
                refine OW.nil ?_
                refine KW.condF rfl (KW.skip (KW.leave (KW.region ?_)))
                refine OW.val rfl rfl (EX.move rfl) ?_
                refine OW.val rfl rfl (by first | exact EX.addN (b := 1) (m := 9223372036854775807) rfl rfl rfl (by omega) | exact EX.addZ (m := 9223372036854775807) rfl rfl rfl rfl (by omega)) ?_
                refine OW.val rfl rfl (EX.assign rfl) ?_
                refine OW.nil ?_
                refine KW.back2 (i + 1) (wr2) ⟨rfl, rfl, rfl, rfl, trivial⟩ rfl ?_ (by omega)
                exact ⟨by omega, (hx.trans hxq).trans hx2⟩
          · refine KW.exit rfl ?_
            refine KW.meet1 (wr) ⟨rfl, rfl, rfl, trivial⟩ rfl ?_
            exact hx
      · rintro wr hx
        have xr := x3.trans hx
        refine KW.seq (KW.region ?_)
        refine OW.buildG 0 ([]) rfl rfl Tryz.underlying31 ti23 rfl (by decide) rfl rfl rfl (by repeat' (first | exact List.forall_mem_nil _ | refine List.forall_mem_cons.2 ⟨by first | rfl | assumption, ?_⟩)) (by decide) ?_
        rintro eb w4 hge4 hb4 hx4
        refine OW.val rfl rfl (EX.move rfl) ?_
        have x4 := xr.trans hx4
        have hown4 : Own w4 wr.heap.size 23 2 (.slice (some ⟨eb, 0, none⟩) 0 0) 0 [] := Own.of_bk (cap := 0) hb4 hge4 rfl (by decide)
        refine OW.appendX rfl rfl Tryz.underlying31 ti23 rfl (by decide) rfl rfl (hx4) (hown4) (Src.of_sl Tryz.underlying31 (hs'.ext x4) (flat_len (cells := En.cells) (k := 2) (fun _ => rfl) more) (ensV_one more) (by decide)) (by simp only [maxLen]; omega) (by omega) ?_
        rintro u5 w5 hown5 hx5 hg5 hv5
        refine OW.val rfl rfl (EX.move rfl) ?_
        refine OW.appendX rfl rfl Tryz.underlying31 ti23 rfl (by decide) rfl rfl (hx5) (hown5) (Src.of_sl Tryz.underlying31 (hs.ext (xr.trans hx5)) (flat_len (cells := En.cells) (k := 2) (fun _ => rfl) l) (ensV_one l) (by decide)) (by simp only [maxLen]; omega) (by omega) ?_
        rintro u6 w6 hown6 hx6 hg6 hv6
        have x6 := xr.trans hx6
        replace hown6 : Own w6 wr.heap.size 23 2 u6 (more ++ l).length (ensV (more ++ l)) := by (rw [List.length_append]; simpa [ensV] using hown6)
        obtain ⟨A6, c6, rfl, _, hsl6⟩ := hown6.slice
        have hbda : ∀ x ∈ more ++ l, x.path.length ≤ 2000000 := fun x hx => by
          rcases List.mem_append.1 hx with h | h
          · exact hbd' x h
          · exact hbd x h
        refine OW.call rfl rfl rfl (last18_s (more ++ l) hbda (by rw [List.length_append]; omega) A6 c6 _ w6 (hM.ext x6) hsl6) ?_
        rintro _ w7 ⟨bl, hbl, hownB, hx7⟩
        refine OW.val rfl rfl (EX.assign rfl) ?_
        refine OW.nil ?_
        refine KW.seq (KW.region ?_)
        refine OW.val rfl rfl (EX.assign rfl) ?_
        refine OW.nil ?_
        refine KW.seq (KW.seq (KW.region ?_))
        refine OW.val rfl rfl (EX.assign rfl) ?_
        refine OW.nil ?_
        have x7 := x6.trans hx7
        have hsla7 : Ext w3 w7 := (hx.trans hx6).trans hx7
        have hbl1 := last_len hbl
        have hab := last_more ha hbl
        have hsm := fun h => last_same ha hbl h
        obtain ⟨Ab, cb, rfl, _, hslb⟩ := hownB.slice
        refine KW.cut1 (fun (wq : World) => Ext w7 wq) (fun (wq : World) => [(0, .slice A l.length c), (1, .slice A' more.length c'), (5, .slice Aa a.length ca), (9, .slice Ab bl.length cb), (10, .bool (covers l more))]) (fun (wq : World) => wq) ?_ ?_
        · refine KW.block ?_
          refine KW.loop2 (fun (i : Nat) (wq : World) => i ≤ more.length ∧ Ext w7 wq) (fun (i : Nat) (wq : World) => [(0, .slice A l.length c), (1, .slice A' more.length c'), (5, .slice Aa a.length ca), (9, .slice Ab bl.length cb), (10, .bool (covers l (more.take i))), (11, .int .i64 ((i : Nat) : Int))]) (fun (i : Nat) (wq : World) => wq) (fun (i : Nat) (wq : World) => more.length - i) (0) (w7) ⟨rfl, rfl, rfl, rfl, rfl, rfl, trivial⟩ rfl ?_ ?_
          · exact ⟨Nat.zero_le _, Ext.refl _⟩
          · rintro i wq ⟨hi, hxq⟩
            refine KW.seq (KW.seq (KW.region ?_))
            refine OW.val rfl rfl (EX.move rfl) ?_
            refine OW.val rfl rfl (EX.move rfl) ?_
            refine OW.val rfl rfl (EX.lenA Tryz.underlying31 rfl) ?_
            refine OW.val rfl rfl (by first | exact EX.lssN rfl rfl | exact EX.lssZ rfl rfl) ?_
            refine OW.nil ?_
            refine KW.condD rfl (fun him => ?_) (fun him => ?_)
            · obtain ⟨b, o, rfl, _, hcy⟩ := (hs'.ext (x7.trans hxq)).flat (i := i) (c := 2) (fun _ => rfl) (by decide) him
              have hsn := take_snoc' him
              generalize more[i] = y at hcy hsn
              have hnext : covers l (more.take (i + 1)) = (covers l (more.take i) && l.any (fun x => decide (x.path = y.path))) := by rw [hsn]; simp [covers]
              refine KW.skip (KW.seq (KW.block (KW.seq (KW.region ?_))))
              refine OW.val rfl rfl (EX.assign rfl) ?_
              refine OW.nil ?_
              refine KW.seq (KW.seq (KW.region ?_))
              refine OW.val rfl rfl (EX.assign rfl) ?_
              refine OW.nil ?_
              refine KW.cut1 (fun (wp : World) => Ext wq wp) (fun (wp : World) => [(0, .slice A l.length c), (1, .slice (some ⟨b, o, none⟩) more.length c'), (5, .slice Aa a.length ca), (9, .slice Ab bl.length cb), (10, .bool (covers l (more.take i))), (11, .int .i64 ((i : Nat) : Int)), (12, .bool (l.any (fun x => decide (x.path = y.path))))]) (fun (wp : World) => wp) ?_ ?_
              · refine KW.block ?_
                refine KW.loop2 (fun (k : Nat) (wp : World) => k ≤ l.length ∧ Ext wq wp) (fun (k : Nat) (wp : World) => [(0, .slice A l.length c), (1, .slice (some ⟨b, o, none⟩) more.length c'), (5, .slice Aa a.length ca), (9, .slice Ab bl.length cb), (10, .bool (covers l (more.take i))), (11, .int .i64 ((i : Nat) : Int)), (12, .bool ((l.take k).any (fun x => decide (x.path = y.path)))), (13, .int .i64 ((k : Nat) : Int))]) (fun (k : Nat) (wp : World) => wp) (fun (k : Nat) (wp : World) => l.length - k) (0) (wq) ⟨rfl, rfl, rfl, rfl, rfl, rfl, rfl, rfl, trivial⟩ rfl ?_ ?_
                · exact ⟨Nat.zero_le _, Ext.refl _⟩
                · rintro k wp ⟨hk, hxp⟩
                  refine KW.seq (KW.seq (KW.region ?_))
                  refine OW.val rfl rfl (EX.move rfl) ?_
                  refine OW.val rfl rfl (EX.move rfl) ?_
                  refine OW.val rfl rfl (EX.lenA Tryz.underlying31 rfl) ?_
                  refine OW.val rfl rfl (by first | exact EX.lssN rfl rfl | exact EX.lssZ rfl rfl) ?_
                  refine OW.nil ?_
                  refine KW.condD rfl (fun hkl => ?_) (fun hkl => ?_)
                  · obtain ⟨b2, o2, rfl, _, hcx⟩ := (hs.ext ((x7.trans hxq).trans hxp)).flat (i := k) (c := 2) (fun _ => rfl) (by decide) hkl
                    have hsn2 := take_snoc' hkl
                    have hcy2 := fun j u h => cell_ext hxp (hcy j u h)
                    generalize l[k] = x at hcx hsn2
                    have hnext2 : (l.take (k + 1)).any (fun x => decide (x.path = y.path)) = ((l.take k).any (fun x => decide (x.path = y.path)) || decide (x.path = y.path)) := by rw [hsn2]; simp
                    refine KW.skip (KW.seq (KW.block ?_))
                    rcases hqk : (l.take k).any (fun x => decide (x.path = y.path)) with _ | _
                    · rw [hqk, Bool.false_or] at hnext2
                      refine KW.regionQ (by kernel_rfl) (by kernel_rfl) ?_
                      refine QW.val rfl rfl (fun _ => EX.move rfl) ?_
                      refine QW.val rfl rfl (fun _ => EX.move rfl) ?_
                      refine QW.val rfl rfl (fun _ => EX.move rfl) ?_
                      refine QW.val rfl rfl (fun _ => EX.move rfl) ?_
                      refine QW.val rfl rfl (fun _ => EX.indexAddrS Tryz.underlying31 ti23 rfl rfl (by omega)) ?_
                      refine QW.val rfl rfl (fun _ => EX.fieldAddr (off := 0) Tryz.underlying23 rfl rfl ti9 rfl rfl) ?_
                      refine QW.val rfl rfl (fun _ => EX.load Tryz.underlying9 rfl rfl (hcx 0 _ rfl)) ?_
                      refine QW.val rfl rfl (fun _ => EX.move rfl) ?_
                      refine QW.val rfl rfl (fun _ => EX.move rfl) ?_
                      refine QW.val rfl rfl (fun _ => EX.indexAddrS Tryz.underlying31 ti23 rfl rfl (by omega)) ?_
                      refine QW.val rfl rfl (fun _ => EX.fieldAddr (off := 0) Tryz.underlying23 rfl rfl ti9 rfl rfl) ?_
                      refine QW.val rfl rfl (fun _ => EX.load Tryz.underlying9 rfl rfl (hcy2 0 _ rfl)) ?_
                      refine QW.val rfl rfl (fun _ => EX.eqlS rfl rfl) ?_
                      refine QW.val rfl rfl (fun _ => EX.pickF rfl rfl) ?_
                      refine QW.val rfl rfl (fun _ => EX.assign rfl) ?_
                      refine QW.nil (fun nq => ?_)
                      refine KW.leave (KW.region ?_)
                      refine OW.val rfl rfl (EX.move rfl) ?_
                      refine OW.val rfl rfl (by first | exact EX.addN (b := 1) (m := 9223372036854775807) rfl rfl rfl (by omega) | exact EX.addZ (m := 9223372036854775807) rfl rfl rfl rfl (by omega)) ?_
                      refine OW.val rfl rfl (EX.assign rfl) ?_
                      refine OW.nil ?_
                      refine KW.as 12 (.bool ((l.take (k + 1)).any (fun x => decide (x.path = y.path)))) rfl (congrArg Value.bool hnext2.symm) ?_
                      refine KW.back2 (k + 1) (wp.drewN nq) ⟨rfl, rfl, rfl, rfl, rfl, rfl, rfl, rfl, trivial⟩ rfl ?_ (by omega)
                      exact ⟨by omega, hxp.trans (Ext.drewN _ _)⟩
                    · rw [hqk, Bool.true_or] at hnext2
                      refine KW.regionQ (by kernel_rfl) (by kernel_rfl) ?_
                      refine QW.val rfl rfl (fun _ => EX.move rfl) ?_
                      refine QW.val rfl rfl (fun _ => EX.move rfl) ?_
                      refine QW.pass rfl rfl ?_
                      refine QW.pass rfl rfl ?_
                      refine QW.pass rfl rfl ?_
                      refine QW.pass rfl rfl ?_
                      refine QW.pass rfl rfl ?_
                      refine QW.pass rfl rfl ?_
                      refine QW.pass rfl rfl ?_
                      refine QW.pass rfl rfl ?_
                      refine QW.pass rfl rfl ?_
                      refine QW.pass rfl rfl ?_
                      refine QW.pass rfl rfl ?_
                      refine QW.val rfl rfl (fun _ => EX.pickT rfl rfl) ?_
                      refine QW.val rfl rfl (fun _ => EX.assign rfl) ?_
                      refine QW.nil (fun nq => ?_)
                      refine KW.leave (KW.region ?_)
                      refine OW.val rfl rfl (EX.move rfl) ?_
                      refine OW.val rfl rfl (by first | exact EX.addN (b := 1) (m := 9223372036854775807) rfl rfl rfl (by omega) | exact EX.addZ (m := 9223372036854775807) rfl rfl rfl rfl (by omega)) ?_
                      refine OW.val rfl rfl (EX.assign rfl) ?_
                      refine OW.nil ?_
                      refine KW.as 12 (.bool ((l.take (k + 1)).any (fun x => decide (x.path = y.path)))) rfl (congrArg Value.bool hnext2.symm) ?_
                      refine KW.back2 (k + 1) (wp.drewN nq) ⟨rfl, rfl, rfl, rfl, rfl, rfl, rfl, rfl, trivial⟩ rfl ?_ (by omega)
                      exact ⟨by omega, hxp.trans (Ext.drewN _ _)⟩
                  · obtain rfl : k = l.length := by omega
                    refine KW.exit rfl ?_
                    refine KW.as 12 (.bool (l.any (fun x => decide (x.path = y.path)))) rfl (by rw [List.take_length]) ?_
                    refine KW.meet1 (wp) ⟨rfl, rfl, rfl, rfl, rfl, rfl, rfl, trivial⟩ rfl ?_
                    exact hxp
              · rintro wp hxp
                generalize l.any (fun x => decide (x.path = y.path)) = q at hnext
                rcases hcv : covers l (more.take i) with _ | _
                · rw [hcv, Bool.false_and] at hnext
                  refine KW.region ?_
                  refine OW.val rfl rfl (EX.move rfl) ?_
                  refine OW.val rfl rfl (EX.move rfl) ?_
                  refine OW.pass rfl rfl ?_
                  refine OW.val rfl rfl (EX.pickF rfl rfl) ?_
                  refine OW.val rfl rfl (EX.assign rfl) ?_
                  refine OW.nil ?_
                  refine KW.leave (KW.region ?_)
                  refine OW.val rfl rfl (EX.move rfl) ?_
                  refine OW.val rfl rfl (by first | exact EX.addN (b := 1) (m := 9223372036854775807) rfl rfl rfl (by omega) | exact EX.addZ (m := 9223372036854775807) rfl rfl rfl rfl (by omega)) ?_
                  refine OW.val rfl rfl (EX.assign rfl) ?_
                  refine OW.nil ?_
                  refine KW.as 10 (.bool (covers l (more.take (i + 1)))) rfl (congrArg Value.bool hnext.symm) ?_
                  refine KW.back2 (i + 1) (wp) ⟨rfl, rfl, rfl, rfl, rfl, rfl, trivial⟩ rfl ?_ (by omega)
                  exact ⟨by omega, hxq.trans hxp⟩
                · rw [hcv, Bool.true_and] at hnext
                  refine KW.region ?_
                  refine OW.val rfl rfl (EX.move rfl) ?_
                  refine OW.val rfl rfl (EX.move rfl) ?_
                  refine OW.val rfl rfl (EX.move rfl) ?_
                  refine OW.val rfl rfl (EX.pickT rfl rfl) ?_
                  refine OW.val rfl rfl (EX.assign rfl) ?_
                  refine OW.nil ?_
                  refine KW.leave (KW.region ?_)
                  refine OW.val rfl rfl (EX.move rfl) ?_
                  refine OW.val rfl rfl (by first | exact EX.addN (b := 1) (m := 9223372036854775807) rfl rfl rfl (by omega) | exact EX.addZ (m := 9223372036854775807) rfl rfl rfl rfl (by omega)) ?_
                  refine OW.val rfl rfl (EX.assign rfl) ?_
                  refine OW.nil ?_
                  refine KW.as 10 (.bool (covers l (more.take (i + 1)))) rfl (congrArg Value.bool hnext.symm) ?_
                  refine KW.back2 (i + 1) (wp) ⟨rfl, rfl, rfl, rfl, rfl, rfl, trivial⟩ rfl ?_ (by omega)
                  exact ⟨by omega, hxq.trans hxp⟩
            · obtain rfl : i = more.length := by omega
              refine KW.exit rfl ?_
              refine KW.as 10 (.bool (covers l more)) rfl (by rw [List.take_length]) ?_
              refine KW.meet1 (wq) ⟨rfl, rfl, rfl, rfl, rfl, trivial⟩ rfl ?_
              exact hxq
        · rintro wq hxq
          have xq := x7.trans hxq
          have hsla8 := hsla.ext (hsla7.trans hxq)
          have hslb8 := hslb.ext hxq
          have c8 := last18_s a habd (by omega) Aa ca _ wq (hM.ext xq) hsla8
          refine KW.seq (KW.region ?_)
          refine OW.val rfl rfl (EX.move rfl) ?_
          refine OW.call rfl rfl rfl (c8) ?_
          rintro _ w8 ⟨a2, ha2, hown8, hx8⟩
          refine OW.val rfl rfl (EX.move rfl) ?_
          obtain rfl := (isMap_self En.path ha.rises).one ha2
          have x8 := xq.trans hx8
          obtain ⟨A8, c8, rfl, _, hsl8⟩ := hown8.slice
          have c9 := sameE_s a a A8 Aa c8 ca w8 _ _ hsl8 (hsla8.ext hx8) (by omega)
          rw [decide_eq_true rfl] at c9
          refine OW.call rfl rfl rfl (c9) ?_
          rintro _ w9 ⟨rfl, hx9⟩
          refine OW.val rfl rfl (EX.move rfl) ?_
          have x9 := x8.trans hx9
          refine OW.val rfl rfl (EX.move rfl) ?_
          refine OW.val rfl rfl (by first | exact EX.notD rfl | exact EX.notB rfl) ?_
          refine OW.val rfl rfl (EX.move rfl) ?_
          rcases hcv : covers l more with _ | _
          · refine OW.pass rfl rfl ?_
            refine OW.pass rfl rfl ?_
            refine OW.pass rfl rfl ?_
            refine OW.val rfl rfl (EX.pickT rfl rfl) ?_
            refine OW.val rfl rfl (EX.pickT rfl rfl) ?_
            refine OW.val rfl rfl (EX.move rfl) ?_
            refine OW.val rfl rfl (EX.move rfl) ?_
            refine OW.val rfl rfl (EX.lenA Tryz.underlying31 rfl) ?_
            refine OW.val rfl rfl (EX.move rfl) ?_
            refine OW.val rfl rfl (EX.lenA Tryz.underlying31 rfl) ?_
            refine OW.val rfl rfl (by first | exact EX.geqN rfl rfl | exact EX.geqZ rfl rfl) ?_
            refine OW.val rfl rfl (EX.pickT rfl rfl) ?_
            refine OW.val rfl rfl (EX.move rfl) ?_
            refine OW.as 132 (.bool true) rfl (congrArg Value.bool (decide_eq_true (hab))) ?_
            refine OW.call rfl rfl rfl (bye w9 x9) ?_
            rintro _ w10 ⟨rfl, hx10⟩
            refine OW.val rfl rfl (EX.pickT rfl rfl) ?_
            refine OW.val rfl rfl (EX.assign rfl) ?_
            refine OW.nil ?_
            refine KW.ret (ret1 rfl rfl ?_)
            exact ⟨rfl, hx10⟩
          · obtain rfl := hsm hcv
            refine OW.val rfl rfl (EX.move rfl) ?_
            refine OW.val rfl rfl (EX.move rfl) ?_
            have c10 := sameE_s a a Aa Ab ca cb w9 _ _ ((hsla8.ext hx8).ext hx9) ((hslb8.ext hx8).ext hx9) (by omega)
            rw [decide_eq_true rfl] at c10
            refine OW.call rfl rfl rfl (c10) ?_
            rintro _ w10 ⟨rfl, hx10⟩
            refine OW.val rfl rfl (EX.pickF rfl rfl) ?_
            refine OW.val rfl rfl (EX.pickT rfl rfl) ?_
            refine OW.val rfl rfl (EX.move rfl) ?_
            refine OW.val rfl rfl (EX.move rfl) ?_
            refine OW.val rfl rfl (EX.lenA Tryz.underlying31 rfl) ?_
            refine OW.val rfl rfl (EX.move rfl) ?_
            refine OW.val rfl rfl (EX.lenA Tryz.underlying31 rfl) ?_
            refine OW.val rfl rfl (by first | exact EX.geqN rfl rfl | exact EX.geqZ rfl rfl) ?_
            refine OW.val rfl rfl (EX.pickT rfl rfl) ?_
            refine OW.val rfl rfl (EX.move rfl) ?_
            refine OW.as 132 (.bool true) rfl (congrArg Value.bool (decide_eq_true ((Nat.le_refl _)))) ?_
            refine OW.call rfl rfl rfl (bye w10 (x9.trans hx10)) ?_
            rintro _ w11 ⟨rfl, hx11⟩
            refine OW.val rfl rfl (EX.pickT rfl rfl) ?_
            refine OW.val rfl rfl (EX.assign rfl) ?_
            refine OW.nil ?_
            refine KW.ret (ret1 rfl rfl ?_)
            exact ⟨rfl, hx11⟩
    · rw [decide_eq_false hlight'] at c1
      refine OW.call rfl rfl rfl (c1) ?_
      rintro _ w2 ⟨rfl, hx2⟩
      refine OW.val rfl rfl (by first | exact EX.notD rfl | exact EX.notB rfl) ?_
      refine OW.val rfl rfl (EX.pickF rfl rfl) ?_
      refine OW.nil ?_
      refine KW.condT rfl (KW.seq (KW.region ?_))
      refine OW.call rfl rfl rfl (bye w2 (hx1.trans hx2)) ?_
      rintro _ w3 ⟨rfl, hx3⟩
      refine OW.val rfl rfl (EX.assign rfl) ?_
      refine OW.nil ?_
      refine KW.ret (ret1 rfl rfl ?_)
      exact ⟨rfl, hx3⟩
  · rw [decide_eq_false hlight] at c0
    refine KW.region ?_
    refine OW.val rfl rfl (EX.move rfl) ?_
    refine OW.call rfl rfl rfl (c0) ?_
    rintro _ w1 ⟨rfl, hx1⟩
    refine OW.val rfl rfl (by first | exact EX.notD rfl | exact EX.notB rfl) ?_
    refine OW.val rfl rfl (EX.move rfl) ?_
    refine OW.pass rfl rfl ?_
    refine OW.pass rfl rfl ?_
    refine OW.pass rfl rfl ?_
    refine OW.val rfl rfl (EX.pickT rfl rfl) ?_
    refine OW.nil ?_
    refine KW.condT rfl (KW.seq (KW.region ?_))
    refine OW.call rfl rfl rfl (bye w1 hx1) ?_
    rintro _ w2 ⟨rfl, hx2⟩
    refine OW.val rfl rfl (EX.assign rfl) ?_
    refine OW.nil ?_
    refine KW.ret (ret1 rfl rfl ?_)
    exact ⟨rfl, hx2⟩
end Go.Proofs.YtjgeoeeikfjmdaaGreatDoor
