/-
  What the statements rest on, part 6 of 6: many small texts, one behind the other.
-/
import Derived.Test.YtlpnoogcdnfllaaMrgE
import Derived.ProofKit
import Derived.OpenShut
import Derived.ShutString
import Derived.SizedLaws
import Derived.SliceStrings
import Derived.Deep.Slices
import Derived.Deep.Grids
/- wal: transactions are appended, by the document. -/
namespace Go.Proofs.Ytlpnoogcdnfllaa
set_option linter.unnecessarySimpa false
open Go.RowKit Rec Pth Dsk Wal
set_option linter.unusedVariables false
set_option linter.unusedSimpArgs false

set_option maxRecDepth 20000 in
theorem rappend_s {D : Dv} (hD : D.Ok) {k : Nat} (hsm : Sm D k) (hk : k ≤ 800000) (B b : Nat) (gen at_ : Int) (g0 : -9223372036854775808 ≤ gen) (g1 : gen ≤ 9223372036854775807) (a0 : -9223372036854775808 ≤ at_) (a1 : at_ ≤ 9223372036854775807) (l : List Nt) (hl : l.length ≤ 140737488355328) (hok : ∀ n ∈ l, n.mem.Ok) (A : Option Addr) (c C : Nat) (w : World) (h : RDevAt w B b D) (hs : Sl w C A (ntsV l)) :
    Ret Try.prog 24 [.pointer (some ⟨b, 0, none⟩), .int .i64 gen, .int .i64 at_, .slice A l.length c] w fun v w' => v = .tuple #[.int .i64 (appendW D gen at_ l).2.1, .int .i64 (((appendW D gen at_ l).2.2 : Nat) : Int)] ∧ RDevAt w' B b (appendW D gen at_ l).1 ∧ Tm w w' B rty := by
  have bye : ∀ w', Ext w w' → (badW gen at_ l.length ∨ ∃ n ∈ l, ¬ mayN n) → (Value.tuple #[.int .i64 0, .int .i64 210] = .tuple #[.int .i64 (appendW D gen at_ l).2.1, .int .i64 (((appendW D gen at_ l).2.2 : Nat) : Int)] ∧ RDevAt w' B b (appendW D gen at_ l).1 ∧ Tm w w' B rty) := fun w' hx q => by
    rw [app_bad q]
    exact ⟨rfl, h.ext hx, Tm.of_ext hx _ _⟩
  refine Ret.enter Try.func24 rfl Try.ntmps24 (by kernel_rfl) rfl ?_
  refine KW.seq (KW.region ?_)
  refine OW.val rfl rfl (EX.assign rfl) ?_
  refine OW.val rfl rfl (EX.assign rfl) ?_
  refine OW.nil ?_
  refine KW.seq (KW.seq (KW.region ?_))
  refine OW.val rfl rfl (EX.move rfl) ?_
  refine OW.val rfl rfl (by first | exact EX.eqlP1 Try.underlying36 rfl rfl | exact EX.eqlP0 Try.underlying36 rfl rfl) ?_
  refine OW.nil ?_
  refine KW.condF rfl (KW.skip (KW.seq (KW.seq ?_)))
  refine KW.region ?_
  refine OW.val rfl rfl (EX.move rfl) ?_
  refine OW.val rfl rfl (by first | exact EX.lssN (b := 0) rfl rfl | exact EX.lssZ rfl rfl) ?_
  refine OW.val rfl rfl (EX.move rfl) ?_
  refine OW.splitD 25 rfl (fun b0 => ?_) (fun b0 => ?_)
  · refine OW.pass rfl rfl ?_
    refine OW.pass rfl rfl ?_
    refine OW.val rfl rfl (EX.pickT rfl rfl) ?_
    refine OW.val rfl rfl (EX.move rfl) ?_
    refine OW.pass rfl rfl ?_
    refine OW.pass rfl rfl ?_
    refine OW.val rfl rfl (EX.pickT rfl rfl) ?_
    refine OW.val rfl rfl (EX.move rfl) ?_
    refine OW.pass rfl rfl ?_
    refine OW.pass rfl rfl ?_
    refine OW.val rfl rfl (EX.pickT rfl rfl) ?_
    refine OW.val rfl rfl (EX.move rfl) ?_
    refine OW.pass rfl rfl ?_
    refine OW.pass rfl rfl ?_
    refine OW.pass rfl rfl ?_
    refine OW.val rfl rfl (EX.pickT rfl rfl) ?_
    refine OW.val rfl rfl (EX.move rfl) ?_
    refine OW.pass rfl rfl ?_
    refine OW.pass rfl rfl ?_
    refine OW.pass rfl rfl ?_
    refine OW.pass rfl rfl ?_
    refine OW.pass rfl rfl ?_
    refine OW.val rfl rfl (EX.pickT rfl rfl) ?_
    refine OW.nil ?_
    refine KW.condT rfl (KW.seq (KW.region ?_))
    refine OW.val rfl rfl (EX.assign rfl) ?_
    refine OW.val rfl rfl (EX.assign rfl) ?_
    refine OW.nil ?_
    refine KW.ret (ret2 rfl rfl rfl ?_)
    exact bye _ (Ext.refl _) (.inl (by unfold badW; omega))
  · refine OW.val rfl rfl (EX.move rfl) ?_
    refine OW.val rfl rfl (by first | exact EX.gtrN (b := 4611686018427387904) rfl rfl | exact EX.gtrZ rfl rfl) ?_
    refine OW.val rfl rfl (EX.pickF rfl rfl) ?_
    refine OW.val rfl rfl (EX.move rfl) ?_
    refine OW.splitD 29 rfl (fun b00 => ?_) (fun b00 => ?_)
    · refine OW.pass rfl rfl ?_
      refine OW.pass rfl rfl ?_
      refine OW.val rfl rfl (EX.pickT rfl rfl) ?_
      refine OW.val rfl rfl (EX.move rfl) ?_
      refine OW.pass rfl rfl ?_
      refine OW.pass rfl rfl ?_
      refine OW.val rfl rfl (EX.pickT rfl rfl) ?_
      refine OW.val rfl rfl (EX.move rfl) ?_
      refine OW.pass rfl rfl ?_
      refine OW.pass rfl rfl ?_
      refine OW.pass rfl rfl ?_
      refine OW.val rfl rfl (EX.pickT rfl rfl) ?_
      refine OW.val rfl rfl (EX.move rfl) ?_
      refine OW.pass rfl rfl ?_
      refine OW.pass rfl rfl ?_
      refine OW.pass rfl rfl ?_
      refine OW.pass rfl rfl ?_
      refine OW.pass rfl rfl ?_
      refine OW.val rfl rfl (EX.pickT rfl rfl) ?_
      refine OW.nil ?_
      refine KW.condT rfl (KW.seq (KW.region ?_))
      refine OW.val rfl rfl (EX.assign rfl) ?_
      refine OW.val rfl rfl (EX.assign rfl) ?_
      refine OW.nil ?_
      refine KW.ret (ret2 rfl rfl rfl ?_)
      exact bye _ (Ext.refl _) (.inl (by unfold badW; omega))
    · refine OW.val rfl rfl (EX.move rfl) ?_
      refine OW.val rfl rfl (by first | exact EX.lssN (b := 0) rfl rfl | exact EX.lssZ rfl rfl) ?_
      refine OW.val rfl rfl (EX.pickF rfl rfl) ?_
      refine OW.val rfl rfl (EX.move rfl) ?_
      refine OW.splitD 33 rfl (fun b1 => ?_) (fun b1 => ?_)
      · refine OW.pass rfl rfl ?_
        refine OW.pass rfl rfl ?_
        refine OW.val rfl rfl (EX.pickT rfl rfl) ?_
        refine OW.val rfl rfl (EX.move rfl) ?_
        refine OW.pass rfl rfl ?_
        refine OW.pass rfl rfl ?_
        refine OW.pass rfl rfl ?_
        refine OW.val rfl rfl (EX.pickT rfl rfl) ?_
        refine OW.val rfl rfl (EX.move rfl) ?_
        refine OW.pass rfl rfl ?_
        refine OW.pass rfl rfl ?_
        refine OW.pass rfl rfl ?_
        refine OW.pass rfl rfl ?_
        refine OW.pass rfl rfl ?_
        refine OW.val rfl rfl (EX.pickT rfl rfl) ?_
        refine OW.nil ?_
        refine KW.condT rfl (KW.seq (KW.region ?_))
        refine OW.val rfl rfl (EX.assign rfl) ?_
        refine OW.val rfl rfl (EX.assign rfl) ?_
        refine OW.nil ?_
        refine KW.ret (ret2 rfl rfl rfl ?_)
        exact bye _ (Ext.refl _) (.inl (by unfold badW; omega))
      · refine OW.val rfl rfl (EX.move rfl) ?_
        refine OW.val rfl rfl (by first | exact EX.gtrN (b := 20) rfl rfl | exact EX.gtrZ rfl rfl) ?_
        refine OW.val rfl rfl (EX.pickF rfl rfl) ?_
        refine OW.val rfl rfl (EX.move rfl) ?_
        refine OW.splitD 37 rfl (fun b2 => ?_) (fun b2 => ?_)
        · refine OW.pass rfl rfl ?_
          refine OW.pass rfl rfl ?_
          refine OW.pass rfl rfl ?_
          refine OW.val rfl rfl (EX.pickT rfl rfl) ?_
          refine OW.val rfl rfl (EX.move rfl) ?_
          refine OW.pass rfl rfl ?_
          refine OW.pass rfl rfl ?_
          refine OW.pass rfl rfl ?_
          refine OW.pass rfl rfl ?_
          refine OW.pass rfl rfl ?_
          refine OW.val rfl rfl (EX.pickT rfl rfl) ?_
          refine OW.nil ?_
          refine KW.condT rfl (KW.seq (KW.region ?_))
          refine OW.val rfl rfl (EX.assign rfl) ?_
          refine OW.val rfl rfl (EX.assign rfl) ?_
          refine OW.nil ?_
          refine KW.ret (ret2 rfl rfl rfl ?_)
          exact bye _ (Ext.refl _) (.inl (by unfold badW; omega))
        · refine OW.val rfl rfl (EX.move rfl) ?_
          refine OW.val rfl rfl (EX.lenA Try.underlying48 rfl) ?_
          refine OW.val rfl rfl (by first | exact EX.lssN (b := 1) rfl rfl | exact EX.lssZ rfl rfl) ?_
          refine OW.val rfl rfl (EX.pickF rfl rfl) ?_
          refine OW.val rfl rfl (EX.move rfl) ?_
          refine OW.splitD 42 rfl (fun b3 => ?_) (fun b3 => ?_)
          · refine OW.pass rfl rfl ?_
            refine OW.pass rfl rfl ?_
            refine OW.pass rfl rfl ?_
            refine OW.pass rfl rfl ?_
            refine OW.pass rfl rfl ?_
            refine OW.val rfl rfl (EX.pickT rfl rfl) ?_
            refine OW.nil ?_
            refine KW.condT rfl (KW.seq (KW.region ?_))
            refine OW.val rfl rfl (EX.assign rfl) ?_
            refine OW.val rfl rfl (EX.assign rfl) ?_
            refine OW.nil ?_
            refine KW.ret (ret2 rfl rfl rfl ?_)
            exact bye _ (Ext.refl _) (.inl (by unfold badW; omega))
          · refine OW.val rfl rfl (EX.move rfl) ?_
            refine OW.val rfl rfl (EX.lenA Try.underlying48 rfl) ?_
            refine OW.val rfl rfl (EX.move rfl) ?_
            refine OW.val rfl rfl (by first | exact EX.subN (a := 19) (m := 9223372036854775807) rfl rfl rfl (by omega) | exact EX.subZ (m := 9223372036854775807) rfl rfl rfl rfl (by omega)) ?_
            refine OW.val rfl rfl (by first | exact EX.gtrN rfl rfl | exact EX.gtrZ rfl rfl) ?_
            refine OW.val rfl rfl (EX.pickF rfl rfl) ?_
            refine OW.nil ?_
            refine KW.condD rfl (fun b4 => ?_) (fun b4 => ?_)
            · refine KW.seq (KW.region ?_)
              refine OW.val rfl rfl (EX.assign rfl) ?_
              refine OW.val rfl rfl (EX.assign rfl) ?_
              refine OW.nil ?_
              refine KW.ret (ret2 rfl rfl rfl ?_)
              exact bye _ (Ext.refl _) (.inl (by unfold badW; omega))
            · obtain ⟨a, rfl⟩ := Int.eq_ofNat_of_zero_le (show 0 ≤ at_ by omega)
              obtain ⟨g, rfl⟩ := Int.eq_ofNat_of_zero_le (show 0 ≤ gen by omega)
              have nb : ¬ badW (g : Int) (a : Int) l.length := by unfold badW; omega
              refine KW.skip (KW.seq (KW.region ?_))
              refine OW.val rfl rfl (EX.assign rfl) ?_
              refine OW.nil ?_
              refine KW.seq (KW.seq (KW.region ?_))
              refine OW.val rfl rfl (EX.assign rfl) ?_
              refine OW.nil ?_
              refine KW.cut2 (fun (v : Value) (wr : World) => (∀ n ∈ l, mayN n) ∧ Own wr w.heap.size 9 1 v l.length ((recs g a l).map str) ∧ Ext w wr) (fun (v : Value) (wr : World) => [(0, .pointer (some ⟨b, 0, none⟩)), (1, .int .i64 ((g : Nat) : Int)), (2, .int .i64 ((a : Nat) : Int)), (3, .slice A l.length c), (10, v)]) (fun (v : Value) (wr : World) => wr) ?_ ?_
              · refine KW.block ?_
                refine KW.loop3 (fun (i : Nat) (v : Value) (wr : World) => i ≤ l.length ∧ (∀ n ∈ l.take i, mayN n) ∧ Own wr w.heap.size 9 1 v i ((recs g a (l.take i)).map str) ∧ Ext w wr) (fun (i : Nat) (v : Value) (wr : World) => [(0, .pointer (some ⟨b, 0, none⟩)), (1, .int .i64 ((g : Nat) : Int)), (2, .int .i64 ((a : Nat) : Int)), (3, .slice A l.length c), (10, v), (11, .int .i64 ((i : Nat) : Int))]) (fun (i : Nat) (v : Value) (wr : World) => wr) (fun (i : Nat) (v : Value) (wr : World) => l.length - i) (0) (.slice none 0 0) (w) ⟨rfl, rfl, rfl, rfl, rfl, rfl, trivial⟩ rfl ?_ ?_
                · exact ⟨by omega, by simp, Own.nil _ _ _ _, Ext.refl _⟩
                · rintro i v wr ⟨hi, hall, hown, hx⟩
                  refine KW.seq (KW.seq (KW.region ?_))
                  refine OW.val rfl rfl (EX.move rfl) ?_
                  refine OW.val rfl rfl (EX.move rfl) ?_
                  refine OW.val rfl rfl (EX.lenA Try.underlying48 rfl) ?_
                  refine OW.val rfl rfl (by first | exact EX.lssN rfl rfl | exact EX.lssZ rfl rfl) ?_
                  refine OW.nil ?_
                  refine KW.condD rfl (fun hlt => ?_) (fun hlt => ?_)
                  · obtain ⟨bb, o, rfl, _, hcell⟩ := (hs.ext hx).flat (c := 6) (fun _ => rfl) (by decide) hlt
                    have hsn : l.take (i + 1) = l.take i ++ [l[i]] := (List.take_append_getElem hlt).symm
                    have hni := hok l[i] (List.getElem_mem hlt)
                    have hin : l[i] ∈ l := List.getElem_mem hlt
                    have hlt' : (l.take i).length = i := by rw [List.length_take]; omega
                    have hrec : recs g a (l.take (i + 1)) = recs g a (l.take i) ++ [text (l[i]).kind.toNat g (a + i) (noteB l[i])] := by rw [hsn, recs_snoc, hlt']
                    have hcW : ∀ wq, Ext wr wq → ∀ j u, (l[i]).cells[j]? = some u → wq.cell? ⟨bb, o + i * 6 + j, none⟩ = some u := by
                      intro wq hxq
                      obtain ⟨b9, o9, e9, _, hc⟩ := ((hs.ext hx).ext hxq).flat (c := 6) (fun _ => rfl) (by decide) hlt
                      cases e9
                      exact hc
                    generalize l[i] = n at hni hin hcell hsn hrec hcW
                    refine KW.skip (KW.seq (KW.block (KW.seq (KW.region ?_))))
                    refine OW.val rfl rfl (EX.move rfl) ?_
                    refine OW.val rfl rfl (EX.move rfl) ?_
                    refine OW.val rfl rfl (EX.indexAddrS Try.underlying48 ti69 rfl rfl (by omega)) ?_
                    refine OW.val rfl rfl (EX.loadA (l := n.cells) Try.underlying69 rfl ti69 rfl rfl hcell) ?_
                    refine OW.call rfl rfl rfl (rmay_s n hni wr) ?_
                    rintro _ w3 ⟨⟨s, rfl, hsb⟩, hx3⟩
                    refine OW.val rfl rfl (EX.move rfl) ?_
                    refine OW.val rfl rfl (EX.extract rfl rfl) ?_
                    refine OW.val rfl rfl (EX.extract rfl rfl) ?_
                    refine OW.val rfl rfl (EX.assign rfl) ?_
                    refine OW.val rfl rfl (EX.assign rfl) ?_
                    refine OW.nil ?_
                    refine KW.seq (KW.seq (KW.region ?_))
                    refine OW.val rfl rfl (EX.move rfl) ?_
                    refine OW.val rfl rfl (by first | exact EX.notD rfl | exact EX.notB rfl) ?_
                    refine OW.nil ?_
                    refine KW.condD rfl (fun hmay => ?_) (fun hmay => ?_)
                    · refine KW.seq (KW.region ?_)
                      refine OW.val rfl rfl (EX.assign rfl) ?_
                      refine OW.val rfl rfl (EX.assign rfl) ?_
                      refine OW.nil ?_
                      refine KW.ret (ret2 rfl rfl rfl ?_)
                      exact bye _ (hx.trans hx3) (.inr ⟨n, hin, hmay⟩)
                    · have hmay : mayN n := Classical.not_not.1 hmay
                      obtain rfl := hsb hmay
                      have hkd := noteGood hmay
                      have hsl := (noteB_len hmay).1
                      have hown3 := hown.ext hx3
                      have hc3 := hcW w3 hx3
                      obtain ⟨kd, hkd1⟩ := Int.eq_ofNat_of_zero_le (show 0 ≤ n.kind by omega)
                      have hkb : 1 ≤ kd ∧ kd ≤ 255 := by omega
                      have hc0 := hc3 0 (.int .i64 (kd : Int)) (by rw [← hkd1]; rfl)
                      have e1 : encodeR kd (g : Int) ((a + i : Nat) : Int) (noteB n) = (text n.kind.toNat g (a + i) (noteB n), 0) := by
                        unfold encodeR
                        rw [if_neg (by unfold bad; omega), hkd1]
                        rfl
                      have ce := rencode_s kd (by omega) (g : Int) ((a + i : Nat) : Int) (noteB n) (by omega) w3
                      rw [e1] at ce
                      refine KW.skip (KW.seq (KW.region ?_))
                      refine OW.val rfl rfl (EX.move rfl) ?_
                      refine OW.val rfl rfl (EX.move rfl) ?_
                      refine OW.val rfl rfl (EX.indexAddrS Try.underlying48 ti69 rfl rfl (by omega)) ?_
                      refine OW.val rfl rfl (EX.fieldAddr (off := 0) Try.underlying69 rfl rfl ti3 rfl rfl) ?_
                      refine OW.val rfl rfl (EX.load Try.underlying3 rfl rfl (hc0)) ?_
                      refine OW.val rfl rfl (by first | exact EX.convN (m := 255) Try.underlying3 Try.underlying5 rfl rfl (by omega) | exact EX.convW (m := 256) Try.underlying3 Try.underlying5 rfl rfl (by decide) | exact EX.convZ Try.underlying3 Try.underlying5 rfl) ?_
                      refine OW.val rfl rfl (EX.move rfl) ?_
                      refine OW.val rfl rfl (EX.move rfl) ?_
                      refine OW.val rfl rfl (EX.move rfl) ?_
                      refine OW.val rfl rfl (by first | exact EX.addN (m := 9223372036854775807) rfl rfl rfl (by omega) | exact EX.addZ (m := 9223372036854775807) rfl rfl rfl rfl (by omega)) ?_
                      refine OW.val rfl rfl (EX.move rfl) ?_
                      refine OW.call rfl rfl rfl (ce) ?_
                      rintro _ w4 ⟨rfl, hx4⟩
                      refine OW.val rfl rfl (EX.move rfl) ?_
                      refine OW.val rfl rfl (EX.extract rfl rfl) ?_
                      refine OW.val rfl rfl (EX.extract rfl rfl) ?_
                      refine OW.val rfl rfl (EX.assign rfl) ?_
                      refine OW.val rfl rfl (EX.assign rfl) ?_
                      refine OW.nil ?_
                      refine KW.region ?_
                      refine OW.val rfl rfl (EX.move rfl) ?_
                      refine OW.val rfl rfl (EX.move rfl) ?_
                      refine OW.push rfl rfl (fun _ => rfl) rfl Try.underlying61 ti9 rfl rfl (fun _ => rfl) rfl (((hx.trans hx3).trans hx4)) ((hown3.ext hx4)) (by simp only [maxLen]; omega) (by omega) ?_
                      rintro _ v5 w5 hown5 hx5 _ _
                      refine OW.val rfl rfl (EX.assign rfl) ?_
                      refine OW.nil ?_
                      refine KW.leave (KW.region ?_)
                      refine OW.val rfl rfl (EX.move rfl) ?_
                      refine OW.val rfl rfl (by first | exact EX.addN (b := 1) (m := 9223372036854775807) rfl rfl rfl (by omega) | exact EX.addZ (m := 9223372036854775807) rfl rfl rfl rfl (by omega)) ?_
                      refine OW.val rfl rfl (EX.assign rfl) ?_
                      refine OW.nil ?_
                      refine KW.back3 (i + 1) (v5) (w5) ⟨rfl, rfl, rfl, rfl, rfl, rfl, trivial⟩ rfl ?_ (by omega)
                      refine ⟨by omega, ?_, by rw [hrec, List.map_append]; exact hown5, hx5⟩
                      rw [hsn]
                      intro n' hn'
                      rcases List.mem_append.1 hn' with q | q
                      · exact hall n' q
                      · rw [List.mem_singleton.1 q]; exact hmay
                  · obtain rfl : i = l.length := by omega
                    rw [List.take_length] at hall hown
                    refine KW.exit rfl ?_
                    refine KW.meet2 (v) (wr) ⟨rfl, rfl, rfl, rfl, rfl, trivial⟩ rfl ?_
                    exact ⟨hall, hown, hx⟩
              · rintro v wr ⟨hall, hown, hx⟩
                have hl19 : l.length ≤ 19 := by omega
                have hgb : g ≤ 4611686018427387904 := by omega
                have ec : encodeR 3 (g : Int) ((a + l.length : Nat) : Int) [UInt8.ofNat l.length] = (text 3 g (a + l.length) [UInt8.ofNat l.length], 0) := by
                  unfold encodeR
                  rw [if_neg (by unfold bad; simp; omega)]
                  rfl
                have el : appendW D (g : Int) (a : Int) l = (let r := writes D (10 + a) (txs g a l); if r.2 = 0 then (if r.1.sync.2 = 0 then (r.1.sync.1, (a : Int) + l.length + 1, 0) else (r.1.sync.1, 0, r.1.sync.2)) else (r.1, 0, r.2)) := app_go nb hall
                have hlen := txs_len (g := g) (i := a) hall
                have hnt := txs_length g a l
                have het : recs g a l ++ [text 3 g (a + l.length) [UInt8.ofNat l.length]] = txs g a l := rfl
                generalize txs g a l = T at el hlen hnt het
                refine KW.seq (KW.region ?_)
                refine OW.val rfl rfl (EX.move rfl) ?_
                refine OW.val rfl rfl (EX.move rfl) ?_
                refine OW.val rfl rfl (EX.move rfl) ?_
                refine OW.val rfl rfl (EX.lenA Try.underlying48 rfl) ?_
                refine OW.val rfl rfl (by first | exact EX.addN (m := 9223372036854775807) rfl rfl rfl (by omega) | exact EX.addZ (m := 9223372036854775807) rfl rfl rfl rfl (by omega)) ?_
                refine OW.val rfl rfl (EX.move rfl) ?_
                refine OW.val rfl rfl (EX.lenA Try.underlying48 rfl) ?_
                refine OW.val rfl rfl (by first | exact EX.convN (m := 255) Try.underlying3 Try.underlying5 rfl rfl (by omega) | exact EX.convW (m := 256) Try.underlying3 Try.underlying5 rfl rfl (by decide) | exact EX.convZ Try.underlying3 Try.underlying5 rfl) ?_
                refine OW.buildB 1 rfl rfl Try.underlying80 ti5 rfl rfl rfl rfl (by first | rfl | (simp only [List.all_cons, List.all_nil, Bool.and_true, Bool.and_eq_true]; assumption)) (by decide) ?_
                rintro sb w1 hge1 hb1 hx1
                refine OW.val rfl rfl (EX.strOf Try.underlying80 Try.underlying5 Try.underlying9 rfl (oneB hb1 (by omega)) (rfl)) ?_
                have ce := rencode_s 3 (by omega) (g : Int) ((a + l.length : Nat) : Int) [UInt8.ofNat l.length] (by simp) w1
                rw [ec] at ce
                refine OW.call rfl rfl rfl (ce) ?_
                rintro _ w2 ⟨rfl, hx2⟩
                refine OW.val rfl rfl (EX.move rfl) ?_
                refine OW.val rfl rfl (EX.extract rfl rfl) ?_
                refine OW.val rfl rfl (EX.extract rfl rfl) ?_
                refine OW.val rfl rfl (EX.assign rfl) ?_
                refine OW.val rfl rfl (EX.assign rfl) ?_
                refine OW.nil ?_
                refine KW.seq (KW.region ?_)
                refine OW.val rfl rfl (EX.move rfl) ?_
                refine OW.val rfl rfl (EX.move rfl) ?_
                have x2 := (hx.trans hx1).trans hx2
                have es : (recs g a l).map str ++ [str (text 3 g (a + l.length) [UInt8.ofNat l.length])] = T.map str := by rw [← het, List.map_append]; rfl
                refine OW.push rfl rfl (fun _ => rfl) rfl Try.underlying61 ti9 rfl rfl (fun _ => rfl) rfl (x2) (((hown.ext hx1).ext hx2)) (by simp only [maxLen]; omega) (by omega) ?_
                rintro _ v3 w3 hown3 hx3 _ _
                replace hown3 : Own w3 w.heap.size 9 1 v3 (l.length + 1) ((recs g a l).map str ++ [str (text 3 g (a + l.length) [UInt8.ofNat l.length])]) := hown3
                rw [es] at hown3
                obtain ⟨A3, c3, rfl, hc3, _⟩ := hown3.slice
                refine OW.val rfl rfl (EX.assign rfl) ?_
                refine OW.nil ?_
                refine KW.seq (KW.seq (KW.region ?_))
                refine OW.val rfl rfl (EX.assign rfl) ?_
                refine OW.nil ?_
                refine KW.block ?_
                refine KW.loop3 (fun (i : Nat) (E : Dv) (wr : World) => i ≤ l.length + 1 ∧ E.Ok ∧ Sm E (k + i) ∧ writes E (10 + a + i) (T.drop i) = writes D (10 + a) T ∧ RDevAt wr B b E ∧ Tm w wr B rty ∧ Own wr w.heap.size 9 1 (.slice A3 (l.length + 1) c3) (l.length + 1) (T.map str)) (fun (i : Nat) (E : Dv) (wr : World) => [(0, .pointer (some ⟨b, 0, none⟩)), (2, .int .i64 ((a : Nat) : Int)), (10, .slice A3 (l.length + 1) c3), (18, .int .i64 ((i : Nat) : Int))]) (fun (i : Nat) (E : Dv) (wr : World) => wr) (fun (i : Nat) (E : Dv) (wr : World) => l.length + 1 - i) (0) (D) (w3) ⟨rfl, rfl, rfl, rfl, trivial⟩ rfl ?_ ?_
                · exact ⟨by omega, hD, hsm, rfl, h.ext hx3, Tm.of_ext hx3 _ _, hown3⟩
                · rintro i E wr ⟨hi, hE, hsE, hw, hdev, htm, hownr⟩
                  refine KW.seq (KW.seq (KW.region ?_))
                  refine OW.val rfl rfl (EX.move rfl) ?_
                  refine OW.val rfl rfl (EX.move rfl) ?_
                  refine OW.val rfl rfl (EX.lenA Try.underlying61 rfl) ?_
                  refine OW.val rfl rfl (by first | exact EX.lssN rfl rfl | exact EX.lssZ rfl rfl) ?_
                  refine OW.nil ?_
                  refine KW.condD rfl (fun hlt => ?_) (fun hlt => ?_)
                  · have hltT : i < T.length := by omega
                    have hdr : T.drop i = T[i] :: T.drop (i + 1) := List.drop_eq_getElem_cons hltT
                    have hT5 := hlen T[i] (List.getElem_mem hltT)
                    have hTi : (T.map str)[i]? = some (str T[i]) := by rw [List.getElem?_map, List.getElem?_eq_getElem hltT]; rfl
                    rw [hdr, writes_cons] at hw
                    generalize T[i] = s at hw hT5 hTi
                    obtain ⟨A4, c4, e4, _, hsl4⟩ := hownr.slice
                    cases e4
                    obtain ⟨bb, o, rfl, _, hcell⟩ := hsl4.at_ (by rw [List.length_map]; omega)
                    refine KW.skip (KW.seq (KW.block (KW.seq (KW.region ?_))))
                    refine OW.val rfl rfl (EX.move rfl) ?_
                    refine OW.val rfl rfl (EX.move rfl) ?_
                    refine OW.val rfl rfl (by first | exact EX.addN (a := 10) (m := 9223372036854775807) rfl rfl rfl (by omega) | exact EX.addZ (m := 9223372036854775807) rfl rfl rfl rfl (by omega)) ?_
                    refine OW.val rfl rfl (EX.move rfl) ?_
                    refine OW.val rfl rfl (by first | exact EX.addN (m := 9223372036854775807) rfl rfl rfl (by omega) | exact EX.addZ (m := 9223372036854775807) rfl rfl rfl rfl (by omega)) ?_
                    refine OW.val rfl rfl (EX.move rfl) ?_
                    refine OW.val rfl rfl (EX.move rfl) ?_
                    refine OW.val rfl rfl (by first | exact EX.indexAddrS0 Try.underlying61 ti9 rfl rfl (by omega) | exact EX.indexAddrS1 Try.underlying61 ti9 rfl rfl (by omega)) ?_
                    refine OW.val rfl rfl (EX.load Try.underlying9 rfl rfl (hcell i _ hTi)) ?_
                    have cw := rwrite_d hdev hE (hsE.small (by omega)) (by have := hsE.pend; omega) ((10 + a + i : Nat) : Int) (by omega) (by omega) s (by omega)
                    refine OW.call rfl rfl rfl (cw) ?_
                    rintro _ w5 ⟨rfl, hdev5, htm5⟩
                    refine OW.val rfl rfl (EX.assign rfl) ?_
                    refine OW.nil ?_
                    refine KW.seq (KW.region ?_)
                    refine OW.val rfl rfl (EX.move rfl) ?_
                    refine OW.val rfl rfl (by first | exact EX.neqN (b := 0) rfl rfl | exact EX.neqZ rfl rfl) ?_
                    refine OW.nil ?_
                    refine KW.condD rfl (fun he => ?_) (fun he => ?_)
                    · rw [if_neg (by omega)] at hw
                      refine KW.seq (KW.region ?_)
                      refine OW.val rfl rfl (EX.move rfl) ?_
                      refine OW.val rfl rfl (EX.assign rfl) ?_
                      refine OW.val rfl rfl (EX.assign rfl) ?_
                      refine OW.nil ?_
                      refine KW.ret (ret2 rfl rfl rfl ?_)
                      rw [el, ← hw]
                      simp only
                      rw [if_neg (by omega)]
                      exact ⟨rfl, hdev5, htm.trans htm5⟩
                    · rw [if_pos (by omega)] at hw
                      refine KW.skip (KW.leave (KW.region ?_))
                      refine OW.val rfl rfl (EX.move rfl) ?_
                      refine OW.val rfl rfl (by first | exact EX.addN (b := 1) (m := 9223372036854775807) rfl rfl rfl (by omega) | exact EX.addZ (m := 9223372036854775807) rfl rfl rfl rfl (by omega)) ?_
                      refine OW.val rfl rfl (EX.assign rfl) ?_
                      refine OW.nil ?_
                      refine KW.back3 (i + 1) ((E.write ((10 + a + i : Nat) : Int) s).1) (w5) ⟨rfl, rfl, rfl, rfl, trivial⟩ rfl ?_ (by omega)
                      exact ⟨by omega, write_ok hE _ _, write_sm hsE _ _, hw, hdev5, htm.trans htm5, htm5.own hownr (by decide)⟩
                  · obtain rfl : i = l.length + 1 := by omega
                    rw [List.drop_eq_nil_of_le (by omega)] at hw
                    have hw' : writes D (10 + a) T = (E, 0) := hw.symm
                    rw [hw'] at el
                    simp only [if_true] at el
                    refine KW.exit rfl (KW.seq (KW.region ?_))
                    refine OW.val rfl rfl (EX.move rfl) ?_
                    refine OW.call rfl rfl rfl (rsync_d hdev hE (hsE.small (by omega))) ?_
                    rintro _ w5 ⟨rfl, hdev5, htm5⟩
                    refine OW.val rfl rfl (EX.assign rfl) ?_
                    refine OW.nil ?_
                    refine KW.seq (KW.seq (KW.region ?_))
                    refine OW.val rfl rfl (EX.move rfl) ?_
                    refine OW.val rfl rfl (by first | exact EX.neqN (b := 0) rfl rfl | exact EX.neqZ rfl rfl) ?_
                    refine OW.nil ?_
                    refine KW.condD rfl (fun he => ?_) (fun he => ?_)
                    · rw [if_neg (by omega)] at el
                      refine KW.seq (KW.region ?_)
                      refine OW.val rfl rfl (EX.move rfl) ?_
                      refine OW.val rfl rfl (EX.assign rfl) ?_
                      refine OW.val rfl rfl (EX.assign rfl) ?_
                      refine OW.nil ?_
                      refine KW.ret (ret2 rfl rfl rfl ?_)
                      rw [el]
                      exact ⟨rfl, hdev5, htm.trans htm5⟩
                    · rw [if_pos (by omega)] at el
                      refine KW.skip (KW.seq (KW.region ?_))
                      refine OW.val rfl rfl (EX.move rfl) ?_
                      refine OW.val rfl rfl (EX.move rfl) ?_
                      refine OW.val rfl rfl (EX.lenA Try.underlying61 rfl) ?_
                      refine OW.val rfl rfl (by first | exact EX.addN (m := 9223372036854775807) rfl rfl rfl (by omega) | exact EX.addZ (m := 9223372036854775807) rfl rfl rfl rfl (by omega)) ?_
                      refine OW.val rfl rfl (EX.assign rfl) ?_
                      refine OW.val rfl rfl (EX.assign rfl) ?_
                      refine OW.nil ?_
                      refine KW.ret (ret2 rfl rfl rfl ?_)
                      rw [el]
                      refine ⟨?_, hdev5, htm.trans htm5⟩
                      simp only
                      congr 3
end Go.Proofs.Ytlpnoogcdnfllaa
/- From a walk to a law's row: the call returned true, and all that was there is as it was. No program is spoken of. -/
namespace Go.Proofs.Ytlpnoogcdnfllaa
set_option linter.unnecessarySimpa false
set_option linter.unusedVariables false
set_option linter.unusedSimpArgs false
open Go.ChangeShapes Go.WideShapes Go.ChangeAt Go.RowKit
section
variable {H : Type} {enc : TypeId × Value → H} {P : Program}
theorem trodAll_stays (hl : laidOutB P = true) {W W' : World} (hx : Ext W W') : ∀ {ts : List TypeId} {vs : List Value} {ds : List (DataW H)} {ps : List MemPlace},
    (∀ t ∈ ts, P.readableRec t = true ∧ t < P.types.size) → DataW.TrodAll enc P W 0 (fun _ => true) true ts vs ds ps → (∀ p ∈ ps, p.block < W.heap.size) →
    DataW.TrodAll enc P W' 0 (fun b => decide (b < W.heap.size)) true ts vs ds ps
  | [], vs, ds, ps, _, h, _ => by
    obtain ⟨rfl, rfl, rfl⟩ := trodAll_nil h
    exact trodAll_mk0
  | t :: ts, vs, ds, ps, hr, h, hlt => by
    obtain ⟨v, vs', d, ds', p, q, rfl, rfl, rfl, h1, h2⟩ := trodAll_cons h
    refine trodAll_cons_mk (WideElems.Trod_stays hl (hr t (by simp)).1 (hr t (by simp)).2 h1 (fun x hx' => hx.same (hlt x (by simp [hx']))) (fun x hx' => by simpa using hlt x (by simp [hx']))) ?_
    exact trodAll_stays hl hx (fun u hu => hr u (by simp [hu])) h2 (fun x hx' => hlt x (by simp [hx']))
theorem law_post {f : Func} {s : ChangeSpec} {W W' : World} {args : Array Value} {ds gs : List (DataW H)} {before : List MemPlace} {T : TypeId}
    (hW : DataW.Whole enc P f.params.toList s.vars false W args.toList ds gs before) (hv : s.vars = []) (hspec : s.fn H (ds ++ gs) = { results := [.lit (.bool true)], args := ds }) (hrt : f.resultTypes = #[T]) (hu : P.underlying T = some .bool)
    (hl : laidOutB P = true) (hr : ∀ t ∈ f.params.toList, P.readableRec t = true ∧ t < P.types.size) (hx : Ext W W') : s.post enc P f false true false false W args (.bool true) W' := by
  have hlt : ∀ p ∈ before, p.block < W.heap.size := fun p hp => hW.lt p hp
  have hW0 := hW
  obtain ⟨p, q, hA, hV, rfl, _, _⟩ := hW
  rw [hv] at hV
  refine ⟨ds, gs, _, [], p, [], hW0, ?_, ?_, ?_, hx.frame _, fun h => by cases h⟩
  · rw [hspec, hrt]
    exact trodAll_cons_mk (p := []) (p' := []) (shut_bool hu _) trodAll_mk0
  · rw [hspec]
    exact trodAll_stays hl hx hr hA (fun x hx' => hlt x (by simp [hx']))
  · rw [hspec, hv]
    exact rfl
end
end Go.Proofs.Ytlpnoogcdnfllaa
/- A law's arguments, as the walks take them. No program is spoken of. -/
namespace Go.Proofs.Ytlpnoogcdnfllaa
set_option linter.unnecessarySimpa false
open Go.ChangeShapes Go.WideShapes Go.ChangeAt Go.RowKit
set_option linter.unusedSimpArgs false
set_option linter.unusedVariables false
/-- a listed variable's cells, as its initialiser lays them -/
def layCells (cs : List Value) : Obj → Obj
  | .cells _ t frozen => .cells cs.toArray t frozen
  | o => o
section
variable {H : Type} {enc : TypeId × Value → H} {P : Program} {W : World} {base : Nat} {t e : TypeId} {v : Value} {d : DataW H} {p : List MemPlace} {r : Reach} {b0 : Nat}
theorem wf_nat {k : IntKind} {n : Int} (hs : k.signed = false) (h : (Lit.int k n).wf = true) : ∃ m : Nat, n = m ∧ m ≤ maxN k := by
  cases k <;> simp [IntKind.signed] at hs <;> (simp [Lit.wf, IntKind.min, IntKind.max, IntKind.signed, IntKind.bits] at h; exact ⟨n.toNat, by omega, by simp [maxN]; omega⟩)
theorem wf_int {n : Int} (h : (Lit.int .i64 n).wf = true) : -9223372036854775808 ≤ n ∧ n ≤ 9223372036854775807 := by
  simp [Lit.wf, IntKind.min, IntKind.max, IntKind.signed, IntKind.bits] at h
  omega
theorem open_nat {k : IntKind} (ht : P.underlying t = some (.int k)) (hs : k.signed = false) (hval : Value.okWide P W r b0 t v) (hd : DataW.Trod enc P W base (fun _ => true) true t v d p) : ∃ m : Nat, v = .int k (m : Int) ∧ m ≤ maxN k := by
  obtain ⟨n, rfl, _, _, hw⟩ := open_int ht hval hd
  obtain ⟨m, rfl, hm⟩ := wf_nat hs hw
  exact ⟨m, rfl, hm⟩
theorem open_i64 (ht : P.underlying t = some (.int .i64)) (hval : Value.okWide P W r b0 t v) (hd : DataW.Trod enc P W base (fun _ => true) true t v d p) : ∃ n : Int, v = .int .i64 n ∧ -9223372036854775808 ≤ n ∧ n ≤ 9223372036854775807 := by
  obtain ⟨n, rfl, _, _, hw⟩ := open_int ht hval hd
  exact ⟨n, rfl, wf_int hw⟩
theorem open_str (ht : P.underlying t = some .string) (hval : Value.okWide P W r b0 t v) (hd : DataW.Trod enc P W base (fun _ => true) true t v d p) : ∃ s : List UInt8, v = str s ∧ d = .lit (.string s) := by
  obtain ⟨s, rfl, rfl, _, hs⟩ := ChangeMaps.open_string ht hval hd
  exact ⟨s.data.toList, rfl, rfl⟩
theorem reach_str {ts : List TypeId} {ds : List (DataW H)} (h : (DataW.weightsEach P ts ds).all (· ≤ reachBytes) = true) {j : Nat} {s : List UInt8} (ht : ts[j]? = some t) (hd : ds[j]? = some (.lit (.string s))) : s.length ≤ 140737488351232 :=
  Nat.le_trans (sized_string h ht hd) (by decide)
/-- a slice's cells, wherever they start -/
theorem sl_of_cells {a : Addr} {xs : List Value} (h : ∀ j u, xs[j]? = some u → W.cell? (a.add j) = some u) : Sl W W.heap.size (some a) xs := by
  by_cases hx : xs = []
  · exact .inl hx
  · have h0 : 0 < xs.length := List.length_pos_iff.2 hx
    have hc := h 0 xs[0] (List.getElem?_eq_getElem h0)
    have ha : a.add 0 = a := by unfold Addr.add; simp
    rw [ha] at hc
    obtain ⟨b, o, sp⟩ := a
    have hsp : sp = none := by
      unfold World.cell? at hc
      split at hc
      · cases sp with
        | none => rfl
        | some _ => simp at hc
      · simp at hc
    subst hsp
    refine .inr ⟨b, o, rfl, World.block_lt_of_cell? W _ hc, fun j u hu => ?_⟩
    have := h j u hu
    have hadd : (⟨b, o, none⟩ : Addr).add j = ⟨b, o + j, none⟩ := by unfold Addr.add; split <;> simp_all
    rwa [hadd] at this
theorem nats_of {k : IntKind} (hs : k.signed = false) : ∀ (zs : List Int), (∀ n ∈ zs, (Lit.int k n).wf = true) → ∃ ms : List Nat, zs = ms.map (fun (m : Nat) => (m : Int)) ∧ ∀ m ∈ ms, m ≤ maxN k
  | [], _ => ⟨[], rfl, by simp⟩
  | z :: zs, h => by
    obtain ⟨m, rfl, hm⟩ := wf_nat hs (h z (by simp))
    obtain ⟨ms, rfl, hms⟩ := nats_of hs zs (fun n hn => h n (by simp [hn]))
    exact ⟨m :: ms, rfl, by simpa using ⟨hm, hms⟩⟩
/-- a slice of unsigned numbers -/
theorem open_slN {k : IntKind} (ht : P.underlying t = some (.slice e)) (he : P.underlying e = some (.int k)) (hs : k.signed = false) (hc : P.cellsOf e = 1) (hval : Value.okWide P W r b0 t v) (hd : DataW.Trod enc P W base (fun _ => true) true t v d p) :
    ∃ (l : List Nat) (A : Option Addr) (c : Nat), v = .slice A l.length c ∧ (∀ x ∈ l, x ≤ maxN k) ∧ l.length ≤ 9223372036854775807 ∧ Sl W W.heap.size A (ints k l) := by
  obtain ⟨A, len, cap, rfl⟩ := okWide_slice ht hval
  obtain ⟨fuel, hf⟩ := hd
  rcases open_ints ht he hc hf with ⟨hcs, _⟩ | ⟨a, len', cap', zs, hcs, _, hl, hm, hz, _, hcell, hwz⟩
  · simp [Value.cells] at hcs
    obtain ⟨rfl, rfl, rfl⟩ := hcs
    exact ⟨[], none, 0, rfl, by simp, by simp, .inl rfl⟩
  · simp [Value.cells] at hcs
    obtain ⟨rfl, rfl, rfl⟩ := hcs
    simp only [if_true] at hz
    obtain ⟨ms, hms, hle⟩ := nats_of hs zs hwz
    have hmz : ms.length = zs.length := by rw [hms]; simp
    refine ⟨ms.take len, some a, cap, ?_, fun x hx => hle x (List.mem_of_mem_take hx), ?_, sl_of_cells fun j u hu => ?_⟩
    · rw [List.length_take, Nat.min_eq_left (by omega)]
    · rw [List.length_take]; simp only [maxLen] at hm; omega
    · have hjl : j < (ints k (ms.take len)).length := (List.getElem?_eq_some_iff.1 hu).1
      rw [ints_length, List.length_take] at hjl
      have hj : j < ms.length := by omega
      rw [hcell j (by omega), ← hu, hms]
      simp [ints, List.getElem?_take, show j < len by omega, hj, List.getD]
def strsV (l : List (List UInt8)) : List Value := l.map fun s => str s
theorem strsV_get {l : List (List UInt8)} {i : Nat} (h : i < l.length) : (strsV l)[i]? = some (str l[i]) := by simp [strsV, h]
theorem strsV_length (l : List (List UInt8)) : (strsV l).length = l.length := by simp [strsV]
theorem strsV_append (l m : List (List UInt8)) : strsV (l ++ m) = strsV l ++ strsV m := by simp [strsV]
theorem strsV_one {l : List (List UInt8)} : ∀ u ∈ strsV l, u.oneCell' = true := by
  intro u hu
  obtain ⟨_, _, rfl⟩ := List.mem_map.1 hu
  rfl
theorem weightsAll_mem : ∀ {l : List (DataW H)} {x : DataW H}, x ∈ l → ∀ n ∈ x.weights P e, n ∈ DataW.weightsAll P e l
  | y :: l, x, hx, n, hn => by
    simp only [DataW.weightsAll, List.mem_append]
    rcases List.mem_cons.1 hx with rfl | hx
    · exact .inl hn
    · exact .inr (weightsAll_mem hx n hn)
  | [], _, hx, _, _ => by simp at hx
/-- a slice of texts -/
theorem open_slS (ht : P.underlying t = some (.slice e)) (he : P.underlying e = some .string) (hc : P.cellsOf e = 1) (hval : Value.okWide P W r b0 t v) (hd : DataW.Trod enc P W base (fun _ => true) true t v d p)
    {ts : List TypeId} {ds : List (DataW H)} (hsz : (DataW.weightsEach P ts ds).all (· ≤ reachBytes) = true) {j : Nat} (hj : ts[j]? = some t) (hdj : ds[j]? = some d) :
    ∃ (l : List (List UInt8)) (A : Option Addr) (c : Nat), v = .slice A l.length c ∧ (∀ s ∈ l, s.length ≤ 140737488351232) ∧ l.length ≤ 9223372036854775807 ∧ Sl W W.heap.size A (strsV l) := by
  obtain ⟨A, len, cap, rfl⟩ := okWide_slice ht hval
  obtain ⟨fuel, hf⟩ := hd
  rcases open_strings ht he hc hf with ⟨hcs, _⟩ | ⟨a, len', cap', ss, hcs, _, hl, hm, hz, hx, hcell, hws⟩
  · simp [Value.cells] at hcs
    obtain ⟨rfl, rfl, rfl⟩ := hcs
    exact ⟨[], none, 0, rfl, by simp, by simp, .inl rfl⟩
  · simp [Value.cells] at hcs
    obtain ⟨rfl, rfl, rfl⟩ := hcs
    simp only [if_true] at hz
    simp only [Prod.mk.injEq] at hx
    obtain ⟨rfl, rfl⟩ := hx
    have hlen : (ss.take len).length = len := by rw [List.length_take]; omega
    refine ⟨(ss.take len).map fun s => s.data.toList, some a, cap, by simp [hlen]; omega, ?_, ?_, sl_of_cells fun i u hu => ?_⟩
    · intro s hs
      obtain ⟨s', hs', rfl⟩ := List.mem_map.1 hs
      have hmem : (DataW.lit (.string s'.data.toList) : DataW H) ∈ strs (ss.take len) := List.mem_map.2 ⟨s', hs', rfl⟩
      have h1 : s'.data.toList.length ∈ (DataW.slice (strs (ss.take len)) (strs (ss.drop len)) : DataW H).weights P t := by
        simp only [DataW.weights, ht, List.mem_cons, List.mem_append]
        exact .inr (.inl (weightsAll_mem hmem _ (by simp [DataW.weights])))
      have := List.all_eq_true.1 hsz _ (DataW.weights_mem_each hj hdj _ h1)
      simp only [decide_eq_true_eq] at this
      exact Nat.le_trans this (by decide)
    · rw [List.length_map, hlen]; simp only [maxLen] at hm; omega
    · have hjl : i < (strsV ((ss.take len).map fun s => s.data.toList)).length := (List.getElem?_eq_some_iff.1 hu).1
      rw [strsV_length, List.length_map, hlen] at hjl
      rw [hcell i (by omega), ← hu]
      simp [strsV, List.getElem?_take, hjl, show i < ss.length by omega, List.getD]
end
end Go.Proofs.Ytlpnoogcdnfllaa
/- A law's arguments that are slices of structs or of bools, as the walks take them. No program is spoken of. -/
namespace Go.Proofs.Ytlpnoogcdnfllaa
set_option linter.unnecessarySimpa false
open Go.ChangeShapes Go.WideShapes Go.ChangeAt Go.RowKit Go.Deep
set_option linter.unusedSimpArgs false
set_option linter.unusedVariables false
theorem flatMap_at {α : Type} {cells : α → List Value} {c : Nat} (hc : ∀ a, (cells a).length = c) : ∀ (l : List α) (j : Nat) (u : Value), (l.flatMap cells)[j]? = some u → ∃ i r, ∃ hi : i < l.length, r < c ∧ j = i * c + r ∧ (cells l[i])[r]? = some u
  | [], j, u, h => by simp at h
  | a :: l, j, u, h => by
    rw [List.flatMap_cons] at h
    by_cases hj : j < c
    · rw [List.getElem?_append_left (by rw [hc]; exact hj)] at h
      exact ⟨0, j, by simp, hj, by omega, h⟩
    · rw [List.getElem?_append_right (by rw [hc]; omega), hc] at h
      obtain ⟨i, r, hi, hr, he, hu⟩ := flatMap_at hc l _ u h
      exact ⟨i + 1, r, by simpa using hi, hr, by rw [Nat.succ_mul]; omega, by simpa using hu⟩
section
variable {H : Type} {enc : TypeId × Value → H} {P : Program} {W : World} {base : Nat} {t e : TypeId} {v : Value} {d : DataW H} {p : List MemPlace} {r : Reach} {b0 : Nat}
/-- a slice whose elements are some cells each -/
theorem open_slG {α : Type} [Inhabited α] (cells : α → List Value) (ok : α → Prop) {c : Nat} (hcl : ∀ a, (cells a).length = c) (ht : P.underlying t = some (.slice e)) (hc : P.cellsOf e = c)
    (step : ∀ n cs x, DataW.trod enc P W base (fun _ => true) true n e cs = some x → (∀ m ∈ x.1.weights P e, m ≤ reachBytes) → (∃ es sp, d = .slice es sp ∧ x.1 ∈ es) → ∃ a, cs = cells a ∧ ok a)
    (hval : Value.okWide P W r b0 t v) (hd : DataW.Trod enc P W base (fun _ => true) true t v d p)
    {ts : List TypeId} {ds : List (DataW H)} (hsz : (DataW.weightsEach P ts ds).all (· ≤ reachBytes) = true) {j : Nat} (hj : ts[j]? = some t) (hdj : ds[j]? = some d) :
    ∃ (l : List α) (A : Option Addr) (cap : Nat), v = .slice A l.length cap ∧ (∀ a ∈ l, ok a) ∧ (A = none → l = []) ∧ l.length * P.bytesOf e ≤ reachBytes ∧ l.length ≤ cap ∧ Sl W W.heap.size A (l.flatMap cells) := by
  obtain ⟨A, len, cap, rfl⟩ := okWide_slice ht hval
  obtain ⟨fuel, hf⟩ := hd
  rcases open_slice ht hf with ⟨hcs, _⟩ | ⟨a, len', cap', m, n, D, Pl, hcs, _, hl, hm, hmm, hx, hel⟩
  · simp [Value.cells] at hcs
    obtain ⟨rfl, rfl, rfl⟩ := hcs
    exact ⟨[], none, 0, rfl, by simp, fun _ => rfl, by simp, by simp, .inl rfl⟩
  · simp [Value.cells] at hcs
    obtain ⟨rfl, rfl, rfl⟩ := hcs
    simp only [if_true] at hmm
    subst hmm
    simp only [Prod.mk.injEq] at hx
    obtain ⟨rfl, rfl⟩ := hx
    obtain ⟨B, hB⟩ := choose_lt (α := α) (p := fun i b => W.cells? base (a.add (i * c)) c = some (cells b) ∧ ok b) (n := len) (fun i hi => by
      obtain ⟨cs', h1, h2⟩ := hel i (by omega)
      have hw : ∀ k ∈ (D i).weights P e, k ≤ reachBytes := fun k hk => by
        have hmem : D i ∈ (List.range len).map D := List.mem_map.2 ⟨i, List.mem_range.2 hi, rfl⟩
        have h1 : k ∈ (DataW.slice ((List.range len).map D) ((List.range (m - len)).map fun j => D (len + j)) : DataW H).weights P t := by
          simp only [DataW.weights, ht, List.mem_cons, List.mem_append]
          exact .inr (.inl (weightsAll_mem hmem _ hk))
        have := List.all_eq_true.1 hsz _ (DataW.weights_mem_each hj hdj _ h1)
        simpa using this
      obtain ⟨b, rfl, hb⟩ := step n cs' _ h2 hw ⟨_, _, rfl, List.mem_map.2 ⟨i, List.mem_range.2 hi, rfl⟩⟩
      rw [hc] at h1
      exact ⟨b, h1, hb⟩)
    have hln : ((List.range len).map B).length = len := by simp
    refine ⟨(List.range len).map B, some a, m, by rw [hln], ?_, fun q => (by cases q), ?_, by rw [hln]; exact hl, sl_of_cells fun i u hu => ?_⟩
    · intro b hb
      obtain ⟨i, hi, rfl⟩ := List.mem_map.1 hb
      exact (hB i (List.mem_range.1 hi)).2
    · rw [hln]
      have := sized_slice hsz hj hdj ht
      simp only [List.length_map, List.length_range] at this
      exact Nat.le_trans (Nat.mul_le_mul_right _ (by omega)) this
    · obtain ⟨q, s, hq, hs, rfl, hu'⟩ := flatMap_at hcl _ _ _ hu
      have hq' : q < len := by simpa using hq
      have hg : ((List.range len).map B)[q] = B q := by simp
      rw [hg] at hu'
      rw [← add_add, (World.cells?_some (hB q hq').1).2.2 s hs]
      exact hu'
/-- a slice of bools -/
theorem open_slB (ht : P.underlying t = some (.slice e)) (he : P.underlying e = some .bool) (hc : P.cellsOf e = 1) (hb1 : P.bytesOf e = 1) (hval : Value.okWide P W r b0 t v) (hd : DataW.Trod enc P W base (fun _ => true) true t v d p)
    {ts : List TypeId} {ds : List (DataW H)} (hsz : (DataW.weightsEach P ts ds).all (· ≤ reachBytes) = true) {j : Nat} (hj : ts[j]? = some t) (hdj : ds[j]? = some d) :
    ∃ (l : List Bool) (A : Option Addr) (cap : Nat), v = .slice A l.length cap ∧ (A = none → l = []) ∧ l.length ≤ 140737488351232 ∧ Sl W W.heap.size A (l.map fun b => .bool b) := by
  obtain ⟨l, A, cap, h1, _, h2, h3, _, h4⟩ := open_slG (fun b : Bool => [Value.bool b]) (fun _ => True) (c := 1) (fun _ => rfl) ht hc (fun n cs x hx _ _ => by
    obtain ⟨b, rfl, _⟩ := DataW.trod_bool he hx
    exact ⟨b, rfl, trivial⟩) hval hd hsz hj hdj
  refine ⟨l, A, cap, h1, h2, ?_, ?_⟩
  · rw [hb1, Nat.mul_one] at h3
    exact Nat.le_trans h3 (by decide)
  · have e : ∀ l : List Bool, (l.flatMap fun b => [Value.bool b]) = l.map fun b => .bool b := fun l => by
      induction l with
      | nil => rfl
      | cons b l ih => simp only [List.flatMap_cons, List.map_cons, ih]; rfl
    rwa [e] at h4
/-- two numbers with a sign -/
theorem open_arr2 (ht : P.underlying t = some (.array 2 e)) (he : P.underlying e = some (.int .i64)) (hc : P.cellsOf e = 1) (hC : P.cellsOf t = 2) (hval : Value.okWide P W r b0 t v) (hd : DataW.Trod enc P W base (fun _ => true) true t v d p) :
    ∃ a b : Int, v = .agg [.int .i64 a, .int .i64 b].toArray := by
  obtain ⟨cs, rfl, hs⟩ : ∃ cs, v = .agg cs ∧ cs.size = P.cellsOf t := by
    simp only [Value.okWide, ht] at hval
    obtain ⟨cs, h1, h2, _⟩ := hval
    exact ⟨cs, h1, h2⟩
  obtain ⟨fuel, hf⟩ := hd
  obtain ⟨xs, m, rfl, _, hl, hlen, hx⟩ := DataW.trod_array ht hf
  obtain ⟨l⟩ := cs
  have hs' : l.length = 2 := by simpa [hC] using hs
  match l, hs' with
  | [u0, u1], _ =>
    have g : ∀ i, i < 2 → ∃ y, xs[i]? = some y := fun i hi => ⟨_, List.getElem?_eq_getElem (by rw [hlen]; exact hi)⟩
    obtain ⟨y0, e0⟩ := g 0 (by omega)
    obtain ⟨y1, e1⟩ := g 1 (by omega)
    have f0 := (hx 0 (by omega)).trans e0
    have f1 := (hx 1 (by omega)).trans e1
    rw [hc] at f0 f1
    simp only [Value.cells, Nat.zero_mul, Nat.one_mul, List.drop_zero, List.drop_succ_cons, List.take_succ_cons, List.take_zero] at f0 f1
    obtain ⟨n0, h0, _⟩ := DataW.trod_int he f0
    obtain ⟨n1, h1, _⟩ := DataW.trod_int he f1
    simp only [List.cons.injEq, and_true] at h0 h1
    subst h0 h1
    exact ⟨n0, n1, rfl⟩
/-- a struct by value -/
theorem open_stG {α : Type} (cells : α → List Value) (ok : α → Prop) {fs : Array Field} (ht : P.underlying t = some (.struct fs))
    (step : ∀ n cs x, DataW.trod enc P W base (fun _ => true) true n t cs = some x → (∀ m ∈ x.1.weights P t, m ≤ reachBytes) → ∃ a, cs = cells a ∧ ok a)
    (hval : Value.okWide P W r b0 t v) (hd : DataW.Trod enc P W base (fun _ => true) true t v d p)
    {ts : List TypeId} {ds : List (DataW H)} (hsz : (DataW.weightsEach P ts ds).all (· ≤ reachBytes) = true) {j : Nat} (hj : ts[j]? = some t) (hdj : ds[j]? = some d) :
    ∃ a : α, v = .agg (cells a).toArray ∧ ok a := by
  obtain ⟨⟨l⟩, rfl, hs⟩ := okWide_struct ht hval
  obtain ⟨fuel, hf⟩ := hd
  obtain ⟨a, h1, h2⟩ := step fuel _ _ hf (fun m hm => by
    have := List.all_eq_true.1 hsz _ (DataW.weights_mem_each hj hdj _ hm)
    simpa using this)
  simp only [Value.cells] at h1
  exact ⟨a, by rw [← h1], h2⟩
end
end Go.Proofs.Ytlpnoogcdnfllaa
/- Slices that stand within a law's arguments, as the walks take them. No program is spoken of. -/
namespace Go.Proofs.Ytlpnoogcdnfllaa
set_option linter.unnecessarySimpa false
open Go.ChangeShapes Go.WideShapes Go.ChangeAt Go.RowKit Go.Deep
set_option linter.unusedSimpArgs false
set_option linter.unusedVariables false
section
variable {H : Type} {enc : TypeId × Value → H} {P : Program} {W : World} {base : Nat} {t e : TypeId}
theorem nest_slG {α : Type} [Inhabited α] (cells : α → List Value) (ok : α → Prop) {c : Nat} (hcl : ∀ a, (cells a).length = c) (ht : P.underlying t = some (.slice e)) (hc : P.cellsOf e = c)
    (step : ∀ n cs x, DataW.trod enc P W base (fun _ => true) true n e cs = some x → (∀ m ∈ x.1.weights P e, m ≤ reachBytes) → ∃ a, cs = cells a ∧ ok a)
    {n0 : Nat} {cs0 : List Value} {x0 : DataW H × List MemPlace} (hf : DataW.trod enc P W base (fun _ => true) true n0 t cs0 = some x0) (hsz : ∀ m ∈ x0.1.weights P t, m ≤ reachBytes) :
    ∃ (l : List α) (A : Option Addr) (cap : Nat), cs0 = [.slice A l.length cap] ∧ (∀ a ∈ l, ok a) ∧ (A = none → l = []) ∧ l.length * P.bytesOf e ≤ reachBytes ∧ l.length ≤ cap ∧ Sl W W.heap.size A (l.flatMap cells) := by
  rcases open_slice ht hf with ⟨hcs, _⟩ | ⟨a, len, cap, m, n, D, Pl, rfl, _, hl, hm, hmm, hx, hel⟩
  · exact ⟨[], none, 0, hcs, by simp, fun _ => rfl, by simp, by simp, .inl rfl⟩
  · simp only [if_true] at hmm
    subst hmm
    subst hx
    obtain ⟨B, hB⟩ := choose_lt (α := α) (p := fun i b => W.cells? base (a.add (i * c)) c = some (cells b) ∧ ok b) (n := len) (fun i hi => by
      obtain ⟨cs', h1, h2⟩ := hel i (by omega)
      have hw : ∀ k ∈ (D i).weights P e, k ≤ reachBytes := fun k hk => by
        have hmem : D i ∈ (List.range len).map D := List.mem_map.2 ⟨i, List.mem_range.2 hi, rfl⟩
        refine hsz k ?_
        simp only [DataW.weights, ht, List.mem_cons, List.mem_append]
        exact .inr (.inl (weightsAll_mem hmem _ hk))
      obtain ⟨b, rfl, hb⟩ := step n cs' _ h2 hw
      rw [hc] at h1
      exact ⟨b, h1, hb⟩)
    have hln : ((List.range len).map B).length = len := by simp
    refine ⟨(List.range len).map B, some a, m, by rw [hln], ?_, fun q => (by cases q), ?_, by rw [hln]; exact hl, sl_of_cells fun i u hu => ?_⟩
    · intro b hb
      obtain ⟨i, hi, rfl⟩ := List.mem_map.1 hb
      exact (hB i (List.mem_range.1 hi)).2
    · rw [hln]
      have := hsz ((((List.range len).map D).length + ((List.range (m - len)).map fun j => D (len + j)).length) * P.bytesOf e) (by simp [DataW.weights, ht])
      simp only [List.length_map, List.length_range] at this
      exact Nat.le_trans (Nat.mul_le_mul_right _ (by omega)) this
    · obtain ⟨q, s, hq, hs, rfl, hu'⟩ := flatMap_at hcl _ _ _ hu
      have hq' : q < len := by simpa using hq
      have hg : ((List.range len).map B)[q] = B q := by simp
      rw [hg] at hu'
      rw [← add_add, (World.cells?_some (hB q hq').1).2.2 s hs]
      exact hu'
/-- the same, with what a step knows of the whole -/
theorem nest_slM {α : Type} [Inhabited α] (cells : α → List Value) (ok : α → Prop) {c : Nat} (hcl : ∀ a, (cells a).length = c) (ht : P.underlying t = some (.slice e)) (hc : P.cellsOf e = c)
    {n0 : Nat} {cs0 : List Value} {x0 : DataW H × List MemPlace} (step : ∀ n cs x, DataW.trod enc P W base (fun _ => true) true n e cs = some x → (∀ m ∈ x.1.weights P e, m ≤ reachBytes) → (∃ es sp, x0.1 = .slice es sp ∧ x.1 ∈ es) → ∃ a, cs = cells a ∧ ok a)
    (hf : DataW.trod enc P W base (fun _ => true) true n0 t cs0 = some x0) (hsz : ∀ m ∈ x0.1.weights P t, m ≤ reachBytes) :
    ∃ (l : List α) (A : Option Addr) (cap : Nat), cs0 = [.slice A l.length cap] ∧ (∀ a ∈ l, ok a) ∧ (A = none → l = []) ∧ l.length * P.bytesOf e ≤ reachBytes ∧ l.length ≤ cap ∧ Sl W W.heap.size A (l.flatMap cells) := by
  rcases open_slice ht hf with ⟨hcs, _⟩ | ⟨a, len, cap, m, n, D, Pl, rfl, _, hl, hm, hmm, hx, hel⟩
  · exact ⟨[], none, 0, hcs, by simp, fun _ => rfl, by simp, by simp, .inl rfl⟩
  · simp only [if_true] at hmm
    subst hmm
    subst hx
    obtain ⟨B, hB⟩ := choose_lt (α := α) (p := fun i b => W.cells? base (a.add (i * c)) c = some (cells b) ∧ ok b) (n := len) (fun i hi => by
      obtain ⟨cs', h1, h2⟩ := hel i (by omega)
      have hw : ∀ k ∈ (D i).weights P e, k ≤ reachBytes := fun k hk => by
        have hmem : D i ∈ (List.range len).map D := List.mem_map.2 ⟨i, List.mem_range.2 hi, rfl⟩
        refine hsz k ?_
        simp only [DataW.weights, ht, List.mem_cons, List.mem_append]
        exact .inr (.inl (weightsAll_mem hmem _ hk))
      obtain ⟨b, rfl, hb⟩ := step n cs' _ h2 hw ⟨_, _, rfl, List.mem_map.2 ⟨i, List.mem_range.2 hi, rfl⟩⟩
      rw [hc] at h1
      exact ⟨b, h1, hb⟩)
    have hln : ((List.range len).map B).length = len := by simp
    refine ⟨(List.range len).map B, some a, m, by rw [hln], ?_, fun q => (by cases q), ?_, by rw [hln]; exact hl, sl_of_cells fun i u hu => ?_⟩
    · intro b hb
      obtain ⟨i, hi, rfl⟩ := List.mem_map.1 hb
      exact (hB i (List.mem_range.1 hi)).2
    · rw [hln]
      have := hsz ((((List.range len).map D).length + ((List.range (m - len)).map fun j => D (len + j)).length) * P.bytesOf e) (by simp [DataW.weights, ht])
      simp only [List.length_map, List.length_range] at this
      exact Nat.le_trans (Nat.mul_le_mul_right _ (by omega)) this
    · obtain ⟨q, s, hq, hs, rfl, hu'⟩ := flatMap_at hcl _ _ _ hu
      have hq' : q < len := by simpa using hq
      have hg : ((List.range len).map B)[q] = B q := by simp
      rw [hg] at hu'
      rw [← add_add, (World.cells?_some (hB q hq').1).2.2 s hs]
      exact hu'
/-- a slice of bools within -/
theorem nest_slB (ht : P.underlying t = some (.slice e)) (he : P.underlying e = some .bool) (hc : P.cellsOf e = 1) (hb1 : P.bytesOf e = 1)
    {n0 : Nat} {cs0 : List Value} {x0 : DataW H × List MemPlace} (hf : DataW.trod enc P W base (fun _ => true) true n0 t cs0 = some x0) (hsz : ∀ m ∈ x0.1.weights P t, m ≤ reachBytes) :
    ∃ (l : List Bool) (A : Option Addr) (cap : Nat), cs0 = [.slice A l.length cap] ∧ (A = none → l = []) ∧ l.length ≤ 140737488351232 ∧ Sl W W.heap.size A (l.map fun b => .bool b) := by
  obtain ⟨l, A, cap, h1, _, h2, h3, _, h4⟩ := nest_slG (fun b : Bool => [Value.bool b]) (fun _ => True) (c := 1) (fun _ => rfl) ht hc (fun n cs x hx _ => by
    obtain ⟨b, rfl, _⟩ := DataW.trod_bool he hx
    exact ⟨b, rfl, trivial⟩) hf hsz
  refine ⟨l, A, cap, h1, h2, ?_, ?_⟩
  · rw [hb1, Nat.mul_one] at h3
    exact Nat.le_trans h3 (by decide)
  · have e : ∀ l : List Bool, (l.flatMap fun b => [Value.bool b]) = l.map fun b => .bool b := fun l => by
      induction l with
      | nil => rfl
      | cons b l ih => simp only [List.flatMap_cons, List.map_cons, ih]; rfl
    rwa [e] at h4
/-- an array of two within -/
theorem nest_arr2 (ht : P.underlying t = some (.array 2 e)) (hc : P.cellsOf e = 1) {n0 : Nat} {c0 c1 : Value} {x0 : DataW H × List MemPlace} (hf : DataW.trod enc P W base (fun _ => true) true n0 t [c0, c1] = some x0) (hsz : ∀ m ∈ x0.1.weights P t, m ≤ reachBytes) :
    ∃ (y0 y1 : DataW H × List MemPlace) (m : Nat), DataW.trod enc P W base (fun _ => true) true m e [c0] = some y0 ∧ DataW.trod enc P W base (fun _ => true) true m e [c1] = some y1 ∧ (∀ k ∈ y0.1.weights P e, k ≤ reachBytes) ∧ ∀ k ∈ y1.1.weights P e, k ≤ reachBytes := by
  obtain ⟨xs, m, rfl, rfl, hl, hlen, hx⟩ := DataW.trod_array ht hf
  have g : ∀ i, i < 2 → ∃ y, xs[i]? = some y := fun i hi => ⟨_, List.getElem?_eq_getElem (by rw [hlen]; exact hi)⟩
  obtain ⟨y0, e0⟩ := g 0 (by omega)
  obtain ⟨y1, e1⟩ := g 1 (by omega)
  have f0 := (hx 0 (by omega)).trans e0
  have f1 := (hx 1 (by omega)).trans e1
  rw [hc] at f0 f1
  simp only [Nat.zero_mul, Nat.one_mul, List.drop_zero, List.drop_succ_cons, List.take_succ_cons, List.take_zero] at f0 f1
  have hw : ∀ y, y ∈ xs → ∀ k ∈ y.1.weights P e, k ≤ reachBytes := fun y hy k hk => hsz k (by
    simp only [DataW.weights, ht]
    exact weightsAll_mem (List.mem_map_of_mem hy) _ hk)
  exact ⟨y0, y1, m, f0, f1, hw y0 (List.mem_of_getElem? e0), hw y1 (List.mem_of_getElem? e1)⟩
end
end Go.Proofs.Ytlpnoogcdnfllaa
/- A fall of the power among a law's arguments. -/
namespace Go.Proofs.Ytlpnoogcdnfllaa
set_option linter.unnecessarySimpa false
set_option linter.unusedSimpArgs false
open Go.ChangeShapes Go.WideShapes Go.ChangeAt Go.RowKit Go.Deep Dsk
set_option linter.unusedVariables false
structure Fl where
  at_ : Int
  ks : List Bool
  A : Option Addr
  k : Nat
def Fl.cells (f : Fl) : List Value := [.int .i64 f.at_, .slice f.A f.ks.length f.k]
structure Fl.Ok (f : Fl) (w : World) (C : Nat) : Prop where
  at_ : -9223372036854775808 ≤ f.at_ ∧ f.at_ ≤ 9223372036854775807
  nil : f.A = none → boolsV f.ks = []
  len : f.ks.length ≤ 140737488351232
  sl : Sl w C f.A (boolsV f.ks)
section
variable {H : Type} {enc : TypeId × Value → H} {W : World} {base : Nat} {v : Value} {d : DataW H} {p : List MemPlace} {r : Reach} {b0 : Nat}
theorem two {l : List Value} (h : l.length = 2) : ∃ a b, l = [a, b] := by
  match l, h with
  | [a, b], _ => exact ⟨a, b, rfl⟩
set_option maxRecDepth 20000 in
theorem fall_step (n : Nat) (cs : List Value) (x : DataW H × List MemPlace) (h : DataW.trod enc Try.prog W base (fun _ => true) true n 45 cs = some x) (hw : ∀ m ∈ x.1.weights Try.prog 45, m ≤ reachBytes) : ∃ a : Fl, cs = a.cells ∧ a.Ok W W.heap.size := by
  obtain ⟨xs, m, rfl, rfl, hl, hlen, hf⟩ := DataW.trod_struct Try.underlying45 h
  obtain ⟨c0, c1, rfl⟩ := two (hl.trans (by kernel_rfl))
  have g : ∀ i (hi : i < 2), ∃ y, xs[i]? = some y := fun i hi => ⟨_, List.getElem?_eq_getElem (by rw [hlen]; exact hi)⟩
  obtain ⟨y0, e0⟩ := g 0 (by omega)
  obtain ⟨y1, e1⟩ := g 1 (by omega)
  have f0 : DataW.trod enc Try.prog W base (fun _ => true) true m 3 ((([c0, c1] : List Value).drop 0).take (Try.prog.cellsOf 3)) = some y0 := (hf 0 _ rfl).trans e0
  have f1 : DataW.trod enc Try.prog W base (fun _ => true) true m 43 ((([c0, c1] : List Value).drop 1).take (Try.prog.cellsOf 43)) = some y1 := (hf 1 _ rfl).trans e1
  rw [show Try.prog.cellsOf 3 = 1 by kernel_rfl] at f0
  rw [show Try.prog.cellsOf 43 = 1 by kernel_rfl] at f1
  simp only [List.drop_zero, List.drop_succ_cons, List.take_succ_cons, List.take_zero] at f0 f1
  obtain ⟨n0, h0, _, w0⟩ := DataW.trod_int Try.underlying3 f0
  have hd1 : (xs.map (·.1))[1]? = some y1.1 := by rw [List.getElem?_map, e1]; rfl
  have hwe : ∀ k ∈ DataW.weightsEach Try.prog [3, 43] (xs.map (·.1)), k ≤ reachBytes := fun k hk => hw k (by
    simp only [DataW.weights, Try.underlying45]
    exact hk)
  obtain ⟨l, A, cap, h1, hA, hn, hs⟩ := nest_slB Try.underlying43 Try.underlying4 (by kernel_rfl) (by kernel_rfl) f1 (fun k hk => hwe k (DataW.weights_mem_each (j := 1) rfl hd1 _ hk))
  simp only [List.cons.injEq, and_true] at h0 h1
  subst h0 h1
  exact ⟨⟨n0, l, A, cap⟩, rfl, ⟨wf_int w0, fun h => by rw [hA h]; rfl, hn, hs⟩⟩
set_option maxRecDepth 20000 in
theorem open_Fall (hval : Value.okWide Try.prog W r b0 45 v) (hd : DataW.Trod enc Try.prog W base (fun _ => true) true 45 v d p)
    {ts : List TypeId} {ds : List (DataW H)} (hsz : (DataW.weightsEach Try.prog ts ds).all (· ≤ reachBytes) = true) {j : Nat} (hj : ts[j]? = some 45) (hdj : ds[j]? = some d) :
    ∃ a : Fl, v = .agg a.cells.toArray ∧ a.Ok W W.heap.size :=
  open_stG Fl.cells (fun a => a.Ok W W.heap.size) Try.underlying45 (fun n cs x hx hw => fall_step n cs x hx hw) hval hd hsz hj hdj
end
end Go.Proofs.Ytlpnoogcdnfllaa
/- wal: transactions on any device, through falls of the power. -/
namespace Go.Proofs.Ytlpnoogcdnfllaa
set_option linter.unnecessarySimpa false
open Go.RowKit Rec Pth Dsk Wal
set_option linter.unusedVariables false
set_option linter.unusedSimpArgs false

structure Wa where
  gen : Int
  at_ : Int
  next : Bool
  l : List Nt
  nA : Option Addr
  nk : Nat
  fa : Int
  ks : List Bool
  kA : Option Addr
  kk : Nat
def Wa.cells (a : Wa) : List Value := [.int .i64 a.gen, .int .i64 a.at_, .bool a.next, .slice a.nA a.l.length a.nk, .int .i64 a.fa, .slice a.kA a.ks.length a.kk]
structure Wa.Ok (a : Wa) : Prop where
  gen : -9223372036854775808 ≤ a.gen ∧ a.gen ≤ 9223372036854775807
  at_ : -9223372036854775808 ≤ a.at_ ∧ a.at_ ≤ 9223372036854775807
  len : a.l.length ≤ 140737488355328
  ok : ∀ n ∈ a.l, n.mem.Ok
  fa : -9223372036854775808 ≤ a.fa ∧ a.fa ≤ 9223372036854775807
  nil : a.kA = none → boolsV a.ks = []
  klen : a.ks.length ≤ 140737488351232
structure Wa.At (a : Wa) (w : World) (C : Nat) : Prop where
  notes : Sl w C a.nA (ntsV a.l)
  keep : Sl w C a.kA (boolsV a.ks)
def WasAt (w : World) (C : Nat) (A : Option Addr) (acts : List Wa) : Prop := C ≤ w.heap.size ∧ Sl w C A (acts.flatMap Wa.cells) ∧ ∀ a ∈ acts, a.At w C
theorem mod40 (c : Int) : ∃ n : Nat, 10 ≤ n ∧ n ≤ 49 ∧ 10 + (Int.tmod (Int.tmod c 40 + 40) 40) = (n : Int) := by
  have h1 : -40 < Int.tmod c 40 := Int.lt_tmod_of_pos c (by decide)
  have h3 : Int.tmod (Int.tmod c 40 + 40) 40 < 40 := Int.tmod_lt_of_pos _ (by decide)
  have h4 : 0 ≤ Int.tmod (Int.tmod c 40 + 40) 40 := Int.tmod_nonneg _ (by omega)
  obtain ⟨o, ho⟩ := Int.eq_ofNat_of_zero_le h4
  exact ⟨10 + o, by omega, by omega, by omega⟩
theorem mayNil {n : Nat} (h : 1 ≤ n ∧ n ≤ 4096) : Dsk.may (n : Int) [] := by refine ⟨by omega, by omega, by decide, ?_⟩; show ((0 : Nat) : Int) ≤ _; omega
theorem newN (n : Nat) (h : 1 ≤ n ∧ n ≤ 4096) (w : World) : Ret Try.prog 20 [.int .i64 (n : Int)] w fun v w' => Ext w w' ∧ ∃ b, v = .tuple #[.pointer (some ⟨b, 0, none⟩), .int .i64 0] ∧ DevAt w' w.heap.size b (fresh n []) :=
  (new_s (n : Int) (by omega) (by omega) w).mono fun v w' ⟨p, e, h1, h2, h3⟩ => ⟨h2, by
    rcases h3 with ⟨q, _⟩ | ⟨_, b, h4, h5, h6⟩
    · exact absurd (mayNil h) q
    · exact ⟨b, by rw [h1, h4, h5]; rfl, h6⟩⟩
theorem rnewN (n : Nat) (h : 1 ≤ n ∧ n ≤ 4096) (w : World) : Ret Try.prog 21 [.int .i64 (n : Int)] w fun v w' => Ext w w' ∧ ∃ b, v = .tuple #[.pointer (some ⟨b, 0, none⟩), .int .i64 0] ∧ RDevAt w' w.heap.size b (fresh n []) :=
  (rnew_s (n : Int) (by omega) (by omega) w).mono fun v w' ⟨p, e, h1, h2, h3⟩ => ⟨h2, by
    rcases h3 with ⟨q, _⟩ | ⟨_, b, h4, h5, h6⟩
    · exact absurd (mayNil h) q
    · exact ⟨b, by rw [h1, h4, h5]; rfl, h6⟩⟩
theorem capacity_n (w : World) : Ret Try.prog 30 [.pointer none] w fun v w' => v = .int .i64 ((0 : Nat) : Int) ∧ w = w' := by
  refine Ret.enter Try.func30 rfl Try.ntmps30 (by kernel_rfl) rfl ?_
  refine KW.seq (KW.region ?_)
  refine OW.val rfl rfl (EX.assign rfl) ?_
  refine OW.nil ?_
  refine KW.seq (KW.seq (KW.region ?_))
  refine OW.val rfl rfl (EX.move rfl) ?_
  refine OW.call rfl rfl rfl (none_n w) ?_
  rintro _ _ ⟨rfl, rfl⟩
  refine OW.nil ?_
  refine KW.condT rfl (KW.seq (KW.region ?_))
  refine OW.val rfl rfl (EX.assign rfl) ?_
  refine OW.nil ?_
  refine KW.ret (ret1 rfl rfl ?_)
  exact ⟨rfl, rfl⟩
theorem append_n (v : Value) (w : World) : Ret Try.prog 16 [.pointer none, .int .i64 0, .int .i64 0, v] w fun r w' => r = .tuple #[.int .i64 0, .int .i64 1] ∧ w = w' := by
  refine Ret.enter Try.func16 rfl Try.ntmps16 (by kernel_rfl) rfl ?_
  refine KW.seq (KW.region ?_)
  refine OW.val rfl rfl (EX.assign rfl) ?_
  refine OW.val rfl rfl (EX.assign rfl) ?_
  refine OW.nil ?_
  refine KW.seq (KW.seq (KW.region ?_))
  refine OW.val rfl rfl (EX.move rfl) ?_
  refine OW.call rfl rfl rfl (capacity_n w) ?_
  rintro _ _ ⟨rfl, rfl⟩
  refine OW.val rfl rfl (by first | exact EX.eqlN (b := 0) rfl rfl | exact EX.eqlZ rfl rfl) ?_
  refine OW.nil ?_
  refine KW.condD rfl (fun h => ?_) (fun h => ?_)
  · refine KW.seq (KW.region ?_)
    refine OW.val rfl rfl (EX.assign rfl) ?_
    refine OW.val rfl rfl (EX.assign rfl) ?_
    refine OW.nil ?_
    refine KW.ret (ret2 rfl rfl rfl ?_)
    exact ⟨rfl, rfl⟩
  · exact absurd rfl h
theorem replay_n (w : World) : Ret Try.prog 10 [.pointer none, .int .i64 0] w fun r w' => r = .tuple #[.slice none 0 0, .int .i64 0, .int .i64 1] ∧ w = w' := by
  refine Ret.enter Try.func10 rfl Try.ntmps10 (by kernel_rfl) rfl ?_
  refine KW.seq (KW.region ?_)
  refine OW.val rfl rfl (EX.assign rfl) ?_
  refine OW.val rfl rfl (EX.assign rfl) ?_
  refine OW.val rfl rfl (EX.assign rfl) ?_
  refine OW.nil ?_
  refine KW.scope (KW.seq (KW.seq (KW.region ?_)))
  refine OW.val rfl rfl (EX.move rfl) ?_
  refine OW.call rfl rfl rfl (capacity_n w) ?_
  rintro _ _ ⟨rfl, rfl⟩
  refine OW.val rfl rfl (by first | exact EX.eqlN (b := 0) rfl rfl | exact EX.eqlZ rfl rfl) ?_
  refine OW.nil ?_
  refine KW.condD rfl (fun h => ?_) (fun h => ?_)
  · refine KW.seq (KW.region ?_)
    refine OW.val rfl rfl (EX.assign rfl) ?_
    refine OW.val rfl rfl (EX.assign rfl) ?_
    refine OW.val rfl rfl (EX.assign rfl) ?_
    refine OW.nil ?_
    refine KW.ret (ret3 rfl rfl rfl rfl ?_)
    exact ⟨rfl, rfl⟩
  · exact absurd rfl h
theorem appendW_next (D : Dv) (gen at_ : Int) (l : List Nt) : 0 ≤ (appendW D gen at_ l).2.1 ∧ (appendW D gen at_ l).2.1 ≤ 100 := by
  unfold appendW
  split
  · exact ⟨Int.le_refl _, by show (0 : Int) ≤ 100; decide⟩
  · rename_i hb
    have hn : ¬ badW gen at_ l.length := fun q => hb (.inl q)
    unfold badW at hn
    simp only
    split
    · split
      · exact ⟨by show 0 ≤ at_ + l.length + 1; omega, by show at_ + l.length + 1 ≤ 100; omega⟩
      · exact ⟨Int.le_refl _, by show (0 : Int) ≤ 100; decide⟩
    · exact ⟨Int.le_refl _, by show (0 : Int) ≤ 100; decide⟩
theorem plan_sm {D : Dv} {k : Nat} (h : Sm D k) {a : Int} (ha : a ≤ 9223372036854775807) {ks : List Bool} (hk : ks.length ≤ 140737488355328) : Sm (D.plan a ks).1 k := by
  unfold Dv.plan
  split
  · exact h
  · split
    · exact h
    · exact ⟨h.calls, h.pend, by show a.toNat ≤ _; omega, hk⟩
set_option maxRecDepth 20000 in
theorem walPlays_s (cap : Int) (c0 : -9223372036854775808 ≤ cap) (c1 : cap ≤ 9223372036854775807) (acts : List Wa) (hok : ∀ a ∈ acts, a.Ok) (A : Option Addr) (k : Nat) (gen : Int) (g0 : -9223372036854775808 ≤ gen) (g1 : gen ≤ 9223372036854775807) (w : World) (C : Nat) (hat : WasAt w C A acts) :
    Ret Try.prog 6 [.int .i64 cap, .slice A acts.length k, .int .i64 gen] w fun v w' => v = .bool true ∧ Ext w w' := by
  obtain ⟨hC, hsl, hpa⟩ := hat
  have bye : ∀ w', Ext w w' → Ret Try.prog 7 [] w' fun v w'' => v = .bool true ∧ Ext w w'' := fun w' hx => (awake_s w').mono fun _ _ h => ⟨h.1, Ext.trans hx h.2⟩
  refine Ret.enter Try.func6 rfl Try.ntmps6 (by kernel_rfl) rfl ?_
  refine KW.seq (KW.region ?_)
  refine OW.val rfl rfl (EX.assign rfl) ?_
  refine OW.nil ?_
  refine KW.seq (KW.seq (KW.region ?_))
  refine OW.val rfl rfl (EX.move rfl) ?_
  refine OW.val rfl rfl (EX.lenA Try.underlying52 rfl) ?_
  refine OW.val rfl rfl (by first | exact EX.gtrN (b := 30) rfl rfl | exact EX.gtrZ rfl rfl) ?_
  refine OW.nil ?_
  refine KW.condD rfl (fun q0 => ?_) (fun q0 => ?_)
  · refine KW.seq (KW.region ?_)
    refine OW.call rfl rfl rfl (bye w (Ext.refl _)) ?_
    rintro _ w1 ⟨rfl, hx1⟩
    refine OW.val rfl rfl (EX.assign rfl) ?_
    refine OW.nil ?_
    refine KW.ret (ret1 rfl rfl ?_)
    exact ⟨rfl, hx1⟩
  · obtain ⟨n, n1, n2, hn⟩ := mod40 cap
    have m1 : -40 < Int.tmod cap 40 := Int.lt_tmod_of_pos cap (by decide)
    have m2 : Int.tmod cap 40 < 40 := Int.tmod_lt_of_pos cap (by decide)
    have m3 : Int.tmod (Int.tmod cap 40 + 40) 40 < 40 := Int.tmod_lt_of_pos _ (by decide)
    have m4 : 0 ≤ Int.tmod (Int.tmod cap 40 + 40) 40 := Int.tmod_nonneg _ (by omega)
    refine KW.skip (KW.seq (KW.region ?_))
    refine OW.val rfl rfl (EX.move rfl) ?_
    refine OW.val rfl rfl (by first | exact EX.remN (b := 40) rfl rfl (by omega) | exact EX.remZ rfl rfl (by decide)) ?_
    refine OW.val rfl rfl (by first | exact EX.addN (b := 40) (m := 9223372036854775807) rfl rfl rfl (by omega) | exact EX.addZ (m := 9223372036854775807) rfl rfl rfl rfl (by omega)) ?_
    refine OW.val rfl rfl (by first | exact EX.remN (b := 40) rfl rfl (by omega) | exact EX.remZ rfl rfl (by decide)) ?_
    refine OW.val rfl rfl (by first | exact EX.addN (a := 10) (m := 9223372036854775807) rfl rfl rfl (by omega) | exact EX.addZ (m := 9223372036854775807) rfl rfl rfl rfl (by omega)) ?_
    refine OW.val rfl rfl (EX.assign rfl) ?_
    refine OW.nil ?_
    refine KW.seq (KW.region ?_)
    refine OW.val rfl rfl (EX.move rfl) ?_
    refine OW.as 46 (.int .i64 ((n : Nat) : Int)) rfl (congrArg (Value.int .i64) hn) ?_
    refine OW.as 7 (.int .i64 ((n : Nat) : Int)) rfl (congrArg (Value.int .i64) hn) ?_
    refine OW.call rfl rfl rfl (newN n (by omega) w) ?_
    rintro _ w1 ⟨hx1, b, rfl, hdev1⟩
    refine OW.val rfl rfl (EX.move rfl) ?_
    refine OW.val rfl rfl (EX.extract rfl rfl) ?_
    refine OW.val rfl rfl (EX.extract rfl rfl) ?_
    refine OW.val rfl rfl (EX.assign rfl) ?_
    refine OW.val rfl rfl (EX.assign rfl) ?_
    refine OW.nil ?_
    refine KW.seq (KW.region ?_)
    refine OW.val rfl rfl (EX.move rfl) ?_
    refine OW.call rfl rfl rfl (rnewN n (by omega) w1) ?_
    rintro _ w2 ⟨hx2, rb, rfl, hrd2⟩
    refine OW.val rfl rfl (EX.move rfl) ?_
    refine OW.val rfl rfl (EX.extract rfl rfl) ?_
    refine OW.val rfl rfl (EX.extract rfl rfl) ?_
    refine OW.val rfl rfl (EX.assign rfl) ?_
    refine OW.val rfl rfl (EX.assign rfl) ?_
    refine OW.nil ?_
    refine KW.seq (KW.seq (KW.region ?_))
    refine OW.val rfl rfl (EX.move rfl) ?_
    refine OW.val rfl rfl (by first | exact EX.eqlP1 Try.underlying26 rfl rfl | exact EX.eqlP0 Try.underlying26 rfl rfl) ?_
    refine OW.nil ?_
    have x2 := hx1.trans hx2
    have hz1 := hx1.size
    refine KW.condF rfl (KW.skip (KW.seq (KW.region ?_)))
    refine OW.val rfl rfl (EX.assign rfl) ?_
    refine OW.nil ?_
    refine KW.seq (KW.seq (KW.region ?_))
    refine OW.val rfl rfl (EX.assign rfl) ?_
    refine OW.nil ?_
    refine KW.block ?_
    refine KW.loop4 (fun (i : Nat) (nx : Int) (D : Dv) (wr : World) => i ≤ acts.length ∧ 0 ≤ nx ∧ nx ≤ 100 ∧ D.Ok ∧ Sm D (100 * i) ∧ DevAt wr w.heap.size b D ∧ RDevAt wr w1.heap.size rb D ∧ Ext w wr) (fun (i : Nat) (nx : Int) (D : Dv) (wr : World) => [(1, .slice A acts.length k), (2, .int .i64 (gen : Int)), (8, .pointer (some ⟨b, 0, none⟩)), (10, .pointer (some ⟨rb, 0, none⟩)), (12, .int .i64 (nx : Int)), (13, .int .i64 ((i : Nat) : Int))]) (fun (i : Nat) (nx : Int) (D : Dv) (wr : World) => wr) (fun (i : Nat) (nx : Int) (D : Dv) (wr : World) => acts.length - i) (0) (0) (fresh n []) (w2) ⟨rfl, rfl, rfl, rfl, rfl, rfl, trivial⟩ rfl ?_ ?_
    · exact ⟨by omega, by omega, by omega, fresh_ok (by omega) (by decide) (by show 0 / 512 ≤ n; omega), ⟨Nat.le_refl _, Nat.le_refl _, Nat.zero_le _, Nat.zero_le _⟩, hdev1.ext hx2, hrd2, x2⟩
    · rintro i nx D wr ⟨hi, hn0, hn1, hD, hS, hdev, hrd, hx⟩
      refine KW.seq (KW.seq (KW.region ?_))
      refine OW.val rfl rfl (EX.move rfl) ?_
      refine OW.val rfl rfl (EX.move rfl) ?_
      refine OW.val rfl rfl (EX.lenA Try.underlying52 rfl) ?_
      refine OW.val rfl rfl (by first | exact EX.lssN rfl rfl | exact EX.lssZ rfl rfl) ?_
      refine OW.nil ?_
      refine KW.condD rfl (fun hlt => ?_) (fun hlt => ?_)
      · obtain ⟨bb, o, rfl, _, hcell⟩ := (hsl.ext hx).flat (c := 6) (fun _ => rfl) (by decide) hlt
        have hao := hok acts[i] (List.getElem_mem hlt)
        have hap := hpa acts[i] (List.getElem_mem hlt)
        generalize acts[i] = a at hao hap hcell
        refine KW.skip (KW.seq (KW.block (KW.seq (KW.region ?_))))
        refine OW.val rfl rfl (EX.move rfl) ?_
        refine OW.val rfl rfl (EX.move rfl) ?_
        refine OW.val rfl rfl (EX.indexAddrS Try.underlying52 ti56 rfl rfl (by omega)) ?_
        refine OW.val rfl rfl (EX.loadA (l := a.cells) Try.underlying56 rfl ti56 rfl rfl hcell) ?_
        refine OW.allocB (l := [.int .i64 0, .int .i64 0, .bool false, .slice none 0 0, .int .i64 0, .slice none 0 0]) rfl rfl ti56 rfl ?_
        rintro ab w3 hge3 ha3 hx3
        refine OW.storeS rfl ti56 rfl rfl rfl (by first | rfl | (simp only [List.all_cons, List.all_nil, Bool.and_true, Bool.true_and, Bool.and_eq_true, Value.oneCell']; repeat (first | assumption | exact Own.one (by assumption) | constructor))) (ha3) (Nat.le_refl _) ?_
        rintro w4 ha4 hm4
        refine OW.nil ?_
        refine KW.seq (KW.region ?_)
        refine OW.val rfl rfl (EX.move rfl) ?_
        replace ha4 : Bk w4 ab 56 a.cells := ha4
        have y4 : Ext wr w4 := below_mo hx3 hm4 hx3.size (fun k hk => by simp at hk; omega)
        have x4 := Ext.trans hx y4
        refine OW.call rfl rfl rfl (up_d (hdev.ext y4) hD) ?_
        rintro _ w5 ⟨rfl, hdev5, tm5⟩
        refine OW.nil ?_
        refine KW.seq (KW.region ?_)
        refine OW.val rfl rfl (EX.move rfl) ?_
        have x5 : Ext w w5 := Tm.below x4 tm5 x4.size (Nat.le_refl _)
        refine OW.call rfl rfl rfl (rup_d ((hrd.ext y4).dty tm5) hD) ?_
        rintro _ w6 ⟨rfl, hrd6, tm6⟩
        refine OW.nil ?_
        refine KW.seq (KW.region ?_)
        refine OW.val rfl rfl (EX.move rfl) ?_
        refine OW.val rfl rfl (EX.fieldAddr (off := 4) Try.underlying56 rfl rfl ti45 rfl rfl) ?_
        have x6 : Ext w w6 := Tm.below x5 tm6 x5.size hz1
        have hdev6 := hdev5.rty tm6
        have ha6 := tm6.bk (tm5.bk ha4 (by decide)) (by decide)
        have hDu : Dv.Ok { D with dead := false } := up_ok hD
        have hSu : Sm { D with dead := false } (100 * i) := ⟨hS.calls, hS.pend, hS.at_, hS.keep⟩
        generalize ({ D with dead := false } : Dv) = Du at hdev6 hrd6 hDu hSu
        have hsub6 := ha6.part (o := 4) (l2 := [.int .i64 a.fa, .slice a.kA a.ks.length a.kk]) rfl
        refine OW.val rfl rfl (EX.loadA (l := [.int .i64 a.fa, .slice a.kA a.ks.length a.kk]) Try.underlying45 rfl ti45 rfl rfl hsub6) ?_
        refine OW.call rfl rfl rfl (plan_d hdev6 hDu a.fa hao.fa.1 hao.fa.2 a.kA a.kk C a.ks (Sl.ext hap.keep x6) hao.nil hao.klen) ?_
        rintro _ w7 ⟨rfl, hdev7, tm7⟩
        refine OW.nil ?_
        refine KW.seq (KW.region ?_)
        refine OW.val rfl rfl (EX.move rfl) ?_
        refine OW.val rfl rfl (EX.fieldAddr (off := 4) Try.underlying56 rfl rfl ti45 rfl rfl) ?_
        have x7 : Ext w w7 := Tm.below x6 tm7 x6.size (Nat.le_refl _)
        have hrd7 := hrd6.dty tm7
        have ha7 := tm7.bk ha6 (by decide)
        have hsub7 := ha7.part (o := 4) (l2 := [.int .i64 a.fa, .slice a.kA a.ks.length a.kk]) rfl
        refine OW.val rfl rfl (EX.loadA (l := [.int .i64 a.fa, .slice a.kA a.ks.length a.kk]) Try.underlying45 rfl ti45 rfl rfl hsub7) ?_
        refine OW.call rfl rfl rfl (rplan_d hrd7 hDu a.fa hao.fa.1 hao.fa.2 a.kA a.kk C a.ks (Sl.ext hap.keep x7) (by omega) hao.klen) ?_
        rintro _ w8 ⟨rfl, hrd8, tm8⟩
        refine OW.nil ?_
        refine KW.seq (KW.seq ?_)
        have x8 : Ext w w8 := Tm.below x7 tm8 x7.size hz1
        have hdev8 := hdev7.rty tm8
        have ha8 := tm8.bk ha7 (by decide)
        have hDp := plan_ok hDu a.fa a.ks
        have hSp := plan_sm hSu hao.fa.2 (show a.ks.length ≤ 140737488355328 by have := hao.klen; omega)
        generalize (Du.plan a.fa a.ks).1 = Dp at hdev8 hrd8 hDp hSp
        refine KW.cutd2 (fun (q : Int) (wq : World) => (-9223372036854775808 ≤ q ∧ q ≤ 9223372036854775807) ∧ Bk wq ab 56 [.int .i64 a.gen, .int .i64 q, .bool a.next, .slice a.nA a.l.length a.nk, .int .i64 a.fa, .slice a.kA a.ks.length a.kk] ∧ DevAt wq w.heap.size b Dp ∧ RDevAt wq w1.heap.size rb Dp ∧ Ext w wq) (fun (q : Int) (wq : World) => [(1, .slice (some ⟨bb, o, none⟩) acts.length k), (2, .int .i64 (gen : Int)), (8, .pointer (some ⟨b, 0, none⟩)), (10, .pointer (some ⟨rb, 0, none⟩)), (13, .int .i64 ((i : Nat) : Int)), (14, .pointer (some ⟨ab, 0, none⟩))]) (fun (q : Int) (wq : World) => wq) ?_ ?_
        · refine KW.region ?_
          refine OW.val rfl rfl (EX.fieldAddr (off := 2) Try.underlying56 rfl rfl ti4 rfl rfl) ?_
          refine OW.val rfl rfl (EX.load Try.underlying4 rfl rfl (ha8.cell_of rfl)) ?_
          refine OW.nil ?_
          refine KW.cond rfl (fun hnx => ?_) (fun hnx => ?_)
          · refine KW.region ?_
            refine OW.val rfl rfl (EX.move rfl) ?_
            refine OW.val rfl rfl (EX.fieldAddr (off := 1) Try.underlying56 rfl rfl ti3 rfl rfl) ?_
            refine OW.storeB rfl ti3 rfl rfl (by first | rfl | assumption | exact Own.one (by assumption)) (ha8) (by show (1 : Nat) < 6; decide) ?_
            rintro w9 ha9 hm9
            refine OW.nil ?_
            have t9 : Tm w8 w9 w.heap.size (fun U => U == 56) := Tm.set ha8 hm9 (by have := hx.size; omega)
            refine KW.meet2 (nx) (w9) ⟨rfl, rfl, rfl, rfl, rfl, rfl, trivial⟩ rfl ?_
            exact ⟨⟨by omega, by omega⟩, ha9, hdev8.tm t9 (by decide) (by decide) (by decide) (by decide) (by decide) (by decide), hrd8.tm t9 (by decide) (by decide) (by decide) (by decide), Tm.below x8 t9 x8.size (Nat.le_refl _)⟩
          · refine KW.skip ?_
            refine KW.meet2 (a.at_) (w8) ⟨rfl, rfl, rfl, rfl, rfl, rfl, trivial⟩ rfl ?_
            exact ⟨hao.at_, ha8, hdev8, hrd8, x8⟩
        · rintro q wq ⟨⟨q1, q2⟩, haq, hdevq, hrdq, xq⟩
          refine KW.seq (KW.region ?_)
          refine OW.val rfl rfl (EX.move rfl) ?_
          refine OW.val rfl rfl (EX.fieldAddr (off := 0) Try.underlying56 rfl rfl ti3 rfl rfl) ?_
          refine OW.val rfl rfl (EX.load Try.underlying3 rfl rfl (haq.cell_of rfl)) ?_
          refine OW.val rfl rfl (EX.fieldAddr (off := 1) Try.underlying56 rfl rfl ti3 rfl rfl) ?_
          refine OW.val rfl rfl (EX.load Try.underlying3 rfl rfl (haq.cell_of rfl)) ?_
          refine OW.val rfl rfl (EX.fieldAddr (off := 3) Try.underlying56 rfl rfl ti48 rfl rfl) ?_
          refine OW.val rfl rfl (EX.load Try.underlying48 rfl rfl (haq.cell_of rfl)) ?_
          refine OW.call rfl rfl rfl (append_s hDp hSp (by omega) w.heap.size b a.gen q hao.gen.1 hao.gen.2 q1 q2 a.l hao.len hao.ok a.nA a.nk C wq hdevq (Sl.ext hap.notes xq)) ?_
          rintro _ w9 ⟨rfl, hdev9, tm9⟩
          refine OW.val rfl rfl (EX.move rfl) ?_
          refine OW.val rfl rfl (EX.extract rfl rfl) ?_
          refine OW.val rfl rfl (EX.extract rfl rfl) ?_
          refine OW.val rfl rfl (EX.assign rfl) ?_
          refine OW.val rfl rfl (EX.assign rfl) ?_
          refine OW.nil ?_
          refine KW.seq (KW.region ?_)
          refine OW.val rfl rfl (EX.move rfl) ?_
          refine OW.val rfl rfl (EX.fieldAddr (off := 0) Try.underlying56 rfl rfl ti3 rfl rfl) ?_
          have x9 : Ext w w9 := Tm.below xq tm9 xq.size (Nat.le_refl _)
          have ha9 := tm9.bk haq (by decide)
          have hrd9 := hrdq.dty tm9
          refine OW.val rfl rfl (EX.load Try.underlying3 rfl rfl (ha9.cell_of rfl)) ?_
          refine OW.val rfl rfl (EX.fieldAddr (off := 1) Try.underlying56 rfl rfl ti3 rfl rfl) ?_
          refine OW.val rfl rfl (EX.load Try.underlying3 rfl rfl (ha9.cell_of rfl)) ?_
          refine OW.val rfl rfl (EX.fieldAddr (off := 3) Try.underlying56 rfl rfl ti48 rfl rfl) ?_
          refine OW.val rfl rfl (EX.load Try.underlying48 rfl rfl (ha9.cell_of rfl)) ?_
          refine OW.call rfl rfl rfl (rappend_s hDp hSp (by omega) w1.heap.size rb a.gen q hao.gen.1 hao.gen.2 q1 q2 a.l hao.len hao.ok a.nA a.nk C w9 hrd9 (Sl.ext hap.notes x9)) ?_
          rintro _ w10 ⟨rfl, hrd10, tm10⟩
          refine OW.val rfl rfl (EX.move rfl) ?_
          refine OW.val rfl rfl (EX.extract rfl rfl) ?_
          refine OW.val rfl rfl (EX.extract rfl rfl) ?_
          refine OW.val rfl rfl (EX.assign rfl) ?_
          refine OW.val rfl rfl (EX.assign rfl) ?_
          refine OW.nil ?_
          refine KW.seq (KW.seq ?_)
          have x10 : Ext w w10 := Tm.below x9 tm10 x9.size hz1
          have hdev10 := hdev9.rty tm10
          have ha10 := tm10.bk ha9 (by decide)
          have hDa := append_ok hDp a.gen q a.l
          have hSa := append_sm hSp a.gen q a.l
          have hnxt := appendW_next Dp a.gen q a.l
          generalize appendW Dp a.gen q a.l = res at hdev10 hrd10 hDa hSa hnxt
          obtain ⟨E, y, e⟩ := res
          dsimp only at hdev10 hrd10 hDa hSa hnxt
          refine KW.region ?_
          refine OW.val rfl rfl (EX.move rfl) ?_
          refine OW.val rfl rfl (EX.move rfl) ?_
          refine OW.val rfl rfl (by first | exact EX.neqN rfl rfl | exact EX.neqZ rfl rfl) ?_
          refine OW.val rfl rfl (EX.move rfl) ?_
          refine OW.as 108 (.bool false) rfl (congrArg Value.bool (decide_eq_false (fun z => z rfl))) ?_
          refine OW.val rfl rfl (EX.move rfl) ?_
          refine OW.val rfl rfl (EX.move rfl) ?_
          refine OW.val rfl rfl (by first | exact EX.neqN rfl rfl | exact EX.neqZ rfl rfl) ?_
          refine OW.val rfl rfl (EX.pickF rfl rfl) ?_
          refine OW.val rfl rfl (EX.move rfl) ?_
          refine OW.as 113 (.bool false) rfl (congrArg Value.bool (decide_eq_false (fun z => z rfl))) ?_
          refine OW.val rfl rfl (EX.move rfl) ?_
          refine OW.call rfl rfl rfl (image_d hdev10 hDa) ?_
          rintro _ _ ⟨rfl, rfl⟩
          refine OW.val rfl rfl (EX.move rfl) ?_
          refine OW.call rfl rfl rfl (rimage_d hrd10 hDa) ?_
          rintro _ _ ⟨rfl, rfl⟩
          refine OW.val rfl rfl (EX.neqS rfl rfl) ?_
          refine OW.val rfl rfl (EX.pickF rfl rfl) ?_
          refine OW.nil ?_
          refine KW.condD rfl (fun him => ?_) (fun him => ?_)
          · exact absurd rfl him
          · refine KW.skip (KW.seq (KW.region ?_))
            refine OW.val rfl rfl (EX.move rfl) ?_
            refine OW.val rfl rfl (EX.assign rfl) ?_
            refine OW.nil ?_
            refine KW.seq (KW.region ?_)
            refine OW.val rfl rfl (EX.move rfl) ?_
            refine OW.val rfl rfl (EX.fieldAddr (off := 0) Try.underlying56 rfl rfl ti3 rfl rfl) ?_
            refine OW.val rfl rfl (EX.load Try.underlying3 rfl rfl (ha10.cell_of rfl)) ?_
            refine OW.call rfl rfl rfl (replay_s hDa hSa (by omega) w.heap.size b a.gen w10 hdev10) ?_
            rintro _ w11 ⟨⟨vl, vsl, rfl, ownl, txl⟩, hdev11, tm11⟩
            obtain ⟨Al, cl, rfl, _, _⟩ := ownl.slice
            refine OW.val rfl rfl (EX.move rfl) ?_
            refine OW.val rfl rfl (EX.extract rfl rfl) ?_
            refine OW.val rfl rfl (EX.extract rfl rfl) ?_
            refine OW.val rfl rfl (EX.extract rfl rfl) ?_
            refine OW.val rfl rfl (EX.assign rfl) ?_
            refine OW.val rfl rfl (EX.assign rfl) ?_
            refine OW.val rfl rfl (EX.assign rfl) ?_
            refine OW.nil ?_
            refine KW.seq (KW.region ?_)
            refine OW.val rfl rfl (EX.move rfl) ?_
            refine OW.val rfl rfl (EX.fieldAddr (off := 0) Try.underlying56 rfl rfl ti3 rfl rfl) ?_
            have x11 : Ext w w11 := Tm.below x10 tm11 x10.size (Nat.le_refl _)
            have ha11 := tm11.bk ha10 (by decide)
            refine OW.val rfl rfl (EX.load Try.underlying3 rfl rfl (ha11.cell_of rfl)) ?_
            refine OW.call rfl rfl rfl (rreplay_s hDa hSa.calls (by omega) w1.heap.size rb a.gen w11 (hrd10.dty tm11)) ?_
            rintro _ w12 ⟨⟨vm, vsm, rfl, ownm, txm⟩, hrd12, tm12⟩
            obtain ⟨Am, cm, rfl, _, _⟩ := ownm.slice
            refine OW.val rfl rfl (EX.move rfl) ?_
            refine OW.val rfl rfl (EX.extract rfl rfl) ?_
            refine OW.val rfl rfl (EX.extract rfl rfl) ?_
            refine OW.val rfl rfl (EX.extract rfl rfl) ?_
            refine OW.val rfl rfl (EX.assign rfl) ?_
            refine OW.val rfl rfl (EX.assign rfl) ?_
            refine OW.val rfl rfl (EX.assign rfl) ?_
            refine OW.nil ?_
            refine KW.seq (KW.region ?_)
            refine OW.val rfl rfl (EX.move rfl) ?_
            refine OW.val rfl rfl (EX.move rfl) ?_
            have x12 : Ext w w12 := Tm.below x11 tm12 x11.size hz1
            have hdev12 := hdev11.rty tm12
            have hDr := replayed_ok hDa a.gen
            have hSr := replayed_sm hSa a.gen
            have hl1 := replayD_len E a.gen
            generalize replayD E a.gen = r1 at ownl txl ownm txm hl1
            generalize replayed E a.gen = E2 at hdev12 hrd12 hDr hSr
            refine OW.call rfl rfl rfl (replay_s hDr hSr (by omega) w.heap.size b gen w12 hdev12) ?_
            rintro _ w13 ⟨⟨vk, vsk, rfl, ownk, txk⟩, hdev13, tm13⟩
            obtain ⟨Ak, ck, rfl, _, _⟩ := ownk.slice
            refine OW.val rfl rfl (EX.move rfl) ?_
            refine OW.val rfl rfl (EX.extract rfl rfl) ?_
            refine OW.val rfl rfl (EX.extract rfl rfl) ?_
            refine OW.val rfl rfl (EX.extract rfl rfl) ?_
            refine OW.val rfl rfl (EX.assign rfl) ?_
            refine OW.val rfl rfl (EX.assign rfl) ?_
            refine OW.val rfl rfl (EX.assign rfl) ?_
            refine OW.nil ?_
            refine KW.seq (KW.region ?_)
            refine OW.val rfl rfl (EX.move rfl) ?_
            refine OW.val rfl rfl (EX.move rfl) ?_
            have x13 : Ext w w13 := Tm.below x12 tm13 x12.size (Nat.le_refl _)
            refine OW.call rfl rfl rfl (rreplay_s hDr hSr.calls (by omega) w1.heap.size rb gen w13 (hrd12.dty tm13)) ?_
            rintro _ w14 ⟨⟨vo, vso, rfl, owno, txo⟩, hrd14, tm14⟩
            obtain ⟨Ao, co, rfl, _, _⟩ := owno.slice
            refine OW.val rfl rfl (EX.move rfl) ?_
            refine OW.val rfl rfl (EX.extract rfl rfl) ?_
            refine OW.val rfl rfl (EX.extract rfl rfl) ?_
            refine OW.val rfl rfl (EX.extract rfl rfl) ?_
            refine OW.val rfl rfl (EX.assign rfl) ?_
            refine OW.val rfl rfl (EX.assign rfl) ?_
            refine OW.val rfl rfl (EX.assign rfl) ?_
            refine OW.nil ?_
            refine KW.seq ?_
            have x14 : Ext w w14 := Tm.below x13 tm14 x13.size hz1
            have hdev14 := hdev13.rty tm14
            have hDs := replayed_ok hDr gen
            have hSs := replayed_sm hSr gen
            have hl2 := replayD_len E2 gen
            generalize replayD E2 gen = r2 at ownk txk owno txo hl2
            generalize replayed E2 gen = E3 at hdev14 hrd14 hDs hSs
            have ownl4 := tm14.own (tm13.own (tm12.own ownl (by decide)) (by decide)) (by decide)
            have txl4 := ((txl.tm tm12 (by decide)).tm tm13 (by decide)).tm tm14 (by decide)
            have ownm4 := tm14.own (tm13.own ownm (by decide)) (by decide)
            have txm4 := (txm.tm tm13 (by decide)).tm tm14 (by decide)
            have ownk4 := tm14.own ownk (by decide)
            have txk4 := txk.tm tm14 (by decide)
            obtain ⟨_, _, e1, _, sll⟩ := ownl4.slice
            cases e1
            obtain ⟨_, _, e1, _, slm⟩ := ownm4.slice
            cases e1
            obtain ⟨_, _, e1, _, slk⟩ := ownk4.slice
            cases e1
            obtain ⟨_, _, e1, _, slo⟩ := owno.slice
            cases e1
            obtain ⟨vS, vN, vP, vK, hv⟩ := id hrd14
            have hxd := Ext.drew w14
            refine KW.regionG (N := 39) (fun w' => Bk w' rb 64 [.int .i64 (E3.cap : Int), vS, vN, vP, .int .i64 (E3.at_ : Int), vK, .bool E3.dead, .int .i64 (E3.calls : Int)]) (by kernel_rfl) rfl ?_
            have hS := (hv.ext hxd).cells
            refine GW.val 0 rfl (by kernel_rfl) (by kernel_rfl) (by kernel_rfl) rfl rfl hS (fun w' hS' => EX.move rfl) ?_
            refine GW.val 1 rfl (by kernel_rfl) (by kernel_rfl) (by kernel_rfl) rfl rfl hS (fun w' hS' => EX.move rfl) ?_
            refine GW.call 2 rfl (by kernel_rfl) rfl rfl rfl (same_s r1.1.1 r1.1.1 vsl vsm Al Am cl cm w14.drew _ _ _ _ (sll.ext hxd) (slm.ext hxd) (txl4.txs.ext hxd) (txm4.txs.ext hxd) (by omega) (fun l hl => by have := hl1.2 l hl; omega)) ?_
            rintro _ w15 ⟨rfl, hx15⟩
            refine ⟨hS.ext hx15, fun hS => ?_⟩
            refine GW.val 3 rfl (by kernel_rfl) (by kernel_rfl) (by kernel_rfl) rfl rfl hS (fun w' hS' => by first | exact EX.notD rfl | exact EX.notB rfl) ?_
            refine GW.val 4 rfl (by kernel_rfl) (by kernel_rfl) (by kernel_rfl) rfl rfl hS (fun w' hS' => EX.move rfl) ?_
            have hxd15 := Ext.trans hxd hx15
            refine GW.as 155 (.bool false) rfl (congrArg Value.bool (decide_eq_false (by simp))) ?_
            refine GW.val 5 rfl (by kernel_rfl) (by kernel_rfl) (by kernel_rfl) rfl rfl hS (fun w' hS' => EX.move rfl) ?_
            refine GW.val 6 rfl (by kernel_rfl) (by kernel_rfl) (by kernel_rfl) rfl rfl hS (fun w' hS' => EX.move rfl) ?_
            refine GW.val 7 rfl (by kernel_rfl) (by kernel_rfl) (by kernel_rfl) rfl rfl hS (fun w' hS' => by first | exact EX.neqN rfl rfl | exact EX.neqZ rfl rfl) ?_
            refine GW.val 8 rfl (by kernel_rfl) (by kernel_rfl) (by kernel_rfl) rfl rfl hS (fun w' hS' => EX.pickF rfl rfl) ?_
            refine GW.val 9 rfl (by kernel_rfl) (by kernel_rfl) (by kernel_rfl) rfl rfl hS (fun w' hS' => EX.move rfl) ?_
            refine GW.as 160 (.bool false) rfl (congrArg Value.bool (decide_eq_false (fun z => z rfl))) ?_
            refine GW.val 10 rfl (by kernel_rfl) (by kernel_rfl) (by kernel_rfl) rfl rfl hS (fun w' hS' => EX.move rfl) ?_
            refine GW.val 11 rfl (by kernel_rfl) (by kernel_rfl) (by kernel_rfl) rfl rfl hS (fun w' hS' => EX.move rfl) ?_
            refine GW.val 12 rfl (by kernel_rfl) (by kernel_rfl) (by kernel_rfl) rfl rfl hS (fun w' hS' => by first | exact EX.neqN rfl rfl | exact EX.neqZ rfl rfl) ?_
            refine GW.val 13 rfl (by kernel_rfl) (by kernel_rfl) (by kernel_rfl) rfl rfl hS (fun w' hS' => EX.pickF rfl rfl) ?_
            refine GW.val 14 rfl (by kernel_rfl) (by kernel_rfl) (by kernel_rfl) rfl rfl hS (fun w' hS' => EX.move rfl) ?_
            refine GW.as 165 (.bool false) rfl (congrArg Value.bool (decide_eq_false (fun z => z rfl))) ?_
            refine GW.val 15 rfl (by kernel_rfl) (by kernel_rfl) (by kernel_rfl) rfl rfl hS (fun w' hS' => EX.move rfl) ?_
            refine GW.val 16 rfl (by kernel_rfl) (by kernel_rfl) (by kernel_rfl) rfl rfl hS (fun w' hS' => EX.move rfl) ?_
            refine GW.call 17 rfl (by kernel_rfl) rfl rfl rfl (same_s r2.1.1 r2.1.1 vsk vso Ak Ao ck co w15 _ _ _ _ (slk.ext hxd15) (slo.ext hxd15) (txk4.txs.ext hxd15) (txo.txs.ext hxd15) (by omega) (fun l hl => by have := hl2.2 l hl; omega)) ?_
            rintro _ w16 ⟨rfl, hx16⟩
            refine ⟨hS.ext hx16, fun hS => ?_⟩
            refine GW.val 18 rfl (by kernel_rfl) (by kernel_rfl) (by kernel_rfl) rfl rfl hS (fun w' hS' => by first | exact EX.notD rfl | exact EX.notB rfl) ?_
            refine GW.val 19 rfl (by kernel_rfl) (by kernel_rfl) (by kernel_rfl) rfl rfl hS (fun w' hS' => EX.pickF rfl rfl) ?_
            refine GW.val 20 rfl (by kernel_rfl) (by kernel_rfl) (by kernel_rfl) rfl rfl hS (fun w' hS' => EX.move rfl) ?_
            have hxd16 := Ext.trans hxd15 hx16
            refine GW.as 171 (.bool false) rfl (congrArg Value.bool (decide_eq_false (by simp))) ?_
            refine GW.val 21 rfl (by kernel_rfl) (by kernel_rfl) (by kernel_rfl) rfl rfl hS (fun w' hS' => EX.move rfl) ?_
            refine GW.val 22 rfl (by kernel_rfl) (by kernel_rfl) (by kernel_rfl) rfl rfl hS (fun w' hS' => EX.move rfl) ?_
            refine GW.val 23 rfl (by kernel_rfl) (by kernel_rfl) (by kernel_rfl) rfl rfl hS (fun w' hS' => by first | exact EX.neqN rfl rfl | exact EX.neqZ rfl rfl) ?_
            refine GW.val 24 rfl (by kernel_rfl) (by kernel_rfl) (by kernel_rfl) rfl rfl hS (fun w' hS' => EX.pickF rfl rfl) ?_
            refine GW.val 25 rfl (by kernel_rfl) (by kernel_rfl) (by kernel_rfl) rfl rfl hS (fun w' hS' => EX.move rfl) ?_
            refine GW.as 176 (.bool false) rfl (congrArg Value.bool (decide_eq_false (fun z => z rfl))) ?_
            refine GW.val 26 rfl (by kernel_rfl) (by kernel_rfl) (by kernel_rfl) rfl rfl hS (fun w' hS' => EX.move rfl) ?_
            refine GW.val 27 rfl (by kernel_rfl) (by kernel_rfl) (by kernel_rfl) rfl rfl hS (fun w' hS' => EX.move rfl) ?_
            refine GW.val 28 rfl (by kernel_rfl) (by kernel_rfl) (by kernel_rfl) rfl rfl hS (fun w' hS' => by first | exact EX.neqN rfl rfl | exact EX.neqZ rfl rfl) ?_
            refine GW.val 29 rfl (by kernel_rfl) (by kernel_rfl) (by kernel_rfl) rfl rfl hS (fun w' hS' => EX.pickF rfl rfl) ?_
            refine GW.val 30 rfl (by kernel_rfl) (by kernel_rfl) (by kernel_rfl) rfl rfl hS (fun w' hS' => EX.move rfl) ?_
            refine GW.as 181 (.bool false) rfl (congrArg Value.bool (decide_eq_false (fun z => z rfl))) ?_
            refine GW.val 31 rfl (by kernel_rfl) (by kernel_rfl) (by kernel_rfl) rfl rfl hS (fun w' hS' => EX.move rfl) ?_
            refine GW.val 33 rfl (by kernel_rfl) (by kernel_rfl) (by kernel_rfl) rfl rfl hS (fun w' hS' => EX.move rfl) ?_
            refine GW.val 34 rfl (by kernel_rfl) (by kernel_rfl) (by kernel_rfl) rfl rfl hS (fun w' hS' => EX.nilCheck rfl) ?_
            refine GW.val 35 rfl (by kernel_rfl) (by kernel_rfl) (by kernel_rfl) rfl rfl hS (fun w' hS' => EX.fieldAddr (off := 7) Try.underlying64 rfl rfl ti3 rfl rfl) ?_
            refine GW.val 36 rfl (by kernel_rfl) (by kernel_rfl) (by kernel_rfl) rfl rfl hS (fun w' hS' => EX.load Try.underlying3 rfl rfl (hS'.cell_of rfl)) ?_
            refine GW.call 32 rfl (by kernel_rfl) rfl rfl rfl (calls_d (hdev14.ext hxd16) hDs) ?_
            rintro _ _ ⟨rfl, rfl⟩
            refine ⟨hS, fun hS => ?_⟩
            refine GW.val 37 rfl (by kernel_rfl) (by kernel_rfl) (by kernel_rfl) rfl rfl hS (fun w' hS' => by first | exact EX.neqN rfl rfl | exact EX.neqZ rfl rfl) ?_
            refine GW.val 38 rfl (by kernel_rfl) (by kernel_rfl) (by kernel_rfl) rfl rfl hS (fun w' hS' => EX.pickF rfl rfl) ?_
            refine GW.done (by kernel_rfl) ?_
            refine KW.condD rfl (fun hcc => ?_) (fun hcc => ?_)
            · exact absurd rfl hcc
            · refine KW.skip (KW.leave (KW.region ?_))
              refine OW.val rfl rfl (EX.move rfl) ?_
              refine OW.val rfl rfl (by first | exact EX.addN (b := 1) (m := 9223372036854775807) rfl rfl rfl (by omega) | exact EX.addZ (m := 9223372036854775807) rfl rfl rfl rfl (by omega)) ?_
              refine OW.val rfl rfl (EX.assign rfl) ?_
              refine OW.nil ?_
              refine KW.back4 (i + 1) (y) (E3) (w16) ⟨rfl, rfl, rfl, rfl, rfl, rfl, trivial⟩ rfl ?_ (by omega)
              exact ⟨by omega, hnxt.1, hnxt.2, hDs, hSs.more (by omega), hdev14.ext hxd16, hrd14.ext hxd16, Ext.trans x14 hxd16⟩
      · refine KW.exit rfl (KW.seq (KW.region ?_))
        refine OW.call rfl rfl rfl (put_s wr) ?_
        rintro _ w3 ⟨rfl, hx3⟩
        refine OW.buildG 1 ([aN.cells]) rfl rfl Try.underlying48 ti69 rfl (by decide) rfl rfl rfl (by repeat' (first | exact List.forall_mem_nil _ | refine List.forall_mem_cons.2 ⟨by first | rfl | assumption, ?_⟩)) (by decide) ?_
        rintro sb w4 hge4 hs4 hx4
        refine OW.call rfl rfl rfl (append_n _ w4) ?_
        rintro _ _ ⟨rfl, rfl⟩
        refine OW.val rfl rfl (EX.move rfl) ?_
        refine OW.val rfl rfl (EX.extract rfl rfl) ?_
        refine OW.val rfl rfl (EX.extract rfl rfl) ?_
        refine OW.val rfl rfl (EX.assign rfl) ?_
        refine OW.val rfl rfl (EX.assign rfl) ?_
        refine OW.nil ?_
        refine KW.seq (KW.region ?_)
        refine OW.call rfl rfl rfl (replay_n w4) ?_
        rintro _ _ ⟨rfl, rfl⟩
        refine OW.val rfl rfl (EX.move rfl) ?_
        refine OW.val rfl rfl (EX.extract rfl rfl) ?_
        refine OW.val rfl rfl (EX.extract rfl rfl) ?_
        refine OW.val rfl rfl (EX.extract rfl rfl) ?_
        refine OW.val rfl rfl (EX.assign rfl) ?_
        refine OW.val rfl rfl (EX.assign rfl) ?_
        refine OW.val rfl rfl (EX.assign rfl) ?_
        refine OW.nil ?_
        refine KW.seq ?_
        refine KW.region ?_
        refine OW.val rfl rfl (EX.move rfl) ?_
        refine OW.val rfl rfl (by first | exact EX.eqlN (b := 1) rfl rfl | exact EX.eqlZ rfl rfl) ?_
        refine OW.val rfl rfl (EX.move rfl) ?_
        refine OW.as 203 (.bool true) rfl (congrArg Value.bool (decide_eq_true (rfl))) ?_
        refine OW.val rfl rfl (EX.move rfl) ?_
        refine OW.val rfl rfl (by first | exact EX.eqlN (b := 1) rfl rfl | exact EX.eqlZ rfl rfl) ?_
        refine OW.val rfl rfl (EX.pickT rfl rfl) ?_
        refine OW.val rfl rfl (EX.move rfl) ?_
        refine OW.as 207 (.bool true) rfl (congrArg Value.bool (decide_eq_true (rfl))) ?_
        refine OW.call rfl rfl rfl (bye w4 (Ext.trans hx (Ext.trans hx3 hx4))) ?_
        rintro _ w5 ⟨rfl, hx5⟩
        refine OW.val rfl rfl (EX.pickT rfl rfl) ?_
        refine OW.val rfl rfl (EX.assign rfl) ?_
        refine OW.nil ?_
        refine KW.ret (ret1 rfl rfl ?_)
        exact ⟨rfl, hx5⟩
end Go.Proofs.Ytlpnoogcdnfllaa
/- wal: transactions that may be, and devices that hold them. -/
namespace Go.Proofs.Ytlpnoogcdnfllaa
set_option linter.unnecessarySimpa false
open Go.RowKit Rec Pth Dsk Wal
set_option linter.unusedVariables false
set_option linter.unusedSimpArgs false

theorem pick_yes {r : List (List Nt) × Nat} {l : List Nt} (h : okT r.2 l) : Wal.pick r l = (r.1 ++ [l], r.2 + l.length + 1) := by unfold Wal.pick; rw [if_pos h]
theorem pick_no {r : List (List Nt) × Nat} {l : List Nt} (h : ¬ okT r.2 l) : Wal.pick r l = r := by unfold Wal.pick; rw [if_neg h]
set_option maxRecDepth 20000 in
theorem may_s (ls : List (List Nt)) (hl : ls.length ≤ 100) (hb : ∀ l ∈ ls, l.length ≤ 140737488355328) (hok : ∀ l ∈ ls, ∀ n ∈ l, n.mem.Ok) (vs : List Value) (A : Option Addr) (c B C : Nat) (w : World) (hs : Sl w B A vs) (ht : TxS w C vs ls) :
    Ret Try.prog 8 [.slice A ls.length c] w fun v w' => (∃ vo vs', v = .tuple #[vo, .int .i64 (((mayT ls).2 : Nat) : Int)] ∧ Own w' w.heap.size 48 1 vo (mayT ls).1.length vs' ∧ TxS w' C vs' (mayT ls).1) ∧ Ext w w' := by
  have el := ht.len
  refine Ret.enter Try.func8 rfl Try.ntmps8 (by kernel_rfl) rfl ?_
  refine KW.seq (KW.region ?_)
  refine OW.val rfl rfl (EX.assign rfl) ?_
  refine OW.val rfl rfl (EX.assign rfl) ?_
  refine OW.nil ?_
  refine KW.seq (KW.region ?_)
  refine OW.val rfl rfl (EX.assign rfl) ?_
  refine OW.nil ?_
  refine KW.seq (KW.region ?_)
  refine OW.val rfl rfl (EX.assign rfl) ?_
  refine OW.nil ?_
  refine KW.seq (KW.seq (KW.region ?_))
  refine OW.val rfl rfl (EX.assign rfl) ?_
  refine OW.nil ?_
  refine KW.block ?_
  refine KW.loop3 (fun (i : Nat) (vo : Value) (wr : World) => i ≤ ls.length ∧ (mayT (ls.take i)).1.length ≤ i ∧ Ext w wr ∧ ∃ vs', Own wr w.heap.size 48 1 vo (mayT (ls.take i)).1.length vs' ∧ TxS w C vs' (mayT (ls.take i)).1) (fun (i : Nat) (vo : Value) (wr : World) => [(0, .slice A ls.length c), (4, vo), (5, .int .i64 (((mayT (ls.take i)).2 : Nat) : Int)), (6, .int .i64 ((i : Nat) : Int))]) (fun (i : Nat) (vo : Value) (wr : World) => wr) (fun (i : Nat) (vo : Value) (wr : World) => ls.length - i) (0) (.slice none 0 0) (w) ⟨rfl, rfl, rfl, rfl, trivial⟩ rfl ?_ ?_
  · exact ⟨by omega, Nat.le_refl _, Ext.refl _, [], Own.nil _ _ _ _, trivial⟩
  · rintro i vo wr ⟨hi, hml, hx, vs', hown, htx⟩
    refine KW.seq (KW.seq (KW.region ?_))
    refine OW.val rfl rfl (EX.move rfl) ?_
    refine OW.val rfl rfl (EX.move rfl) ?_
    refine OW.val rfl rfl (EX.lenA Try.underlying22 rfl) ?_
    refine OW.val rfl rfl (by first | exact EX.lssN rfl rfl | exact EX.lssZ rfl rfl) ?_
    refine OW.nil ?_
    refine KW.condD rfl (fun hlt => ?_) (fun hlt => ?_)
    · have hsn : ls.take (i + 1) = ls.take i ++ [ls[i]] := (List.take_append_getElem hlt).symm
      obtain ⟨a1, c1, g1, s0⟩ := ht.at_ i hlt
      have s1 := s0.ext hx
      have hli := hb ls[i] (List.getElem_mem hlt)
      have hoi := hok ls[i] (List.getElem_mem hlt)
      have hma := (mayT_fine (ls.take i)).2.1
      rw [← (mayT_fine (ls.take i)).1] at hma
      have hms := mayT_snoc (ls.take i) ls[i]
      rw [← hsn] at hms
      generalize ls[i] = l at g1 s0 s1 hli hoi hms
      generalize hr : mayT (ls.take i) = r at hml hown htx hma hms
      obtain ⟨b0, o0, rfl, _, hc0⟩ := (hs.ext hx).at_ (by omega)
      have hcW : ∀ wq, Ext wr wq → ∀ j u, vs[j]? = some u → wq.cell? ⟨b0, o0 + j, none⟩ = some u := by
        intro wq hxq
        obtain ⟨b1', o1', e', _, hc⟩ := ((hs.ext hx).ext hxq).at_ (by omega)
        cases e'
        exact hc
      refine KW.skip (KW.seq (KW.block (KW.seq ?_)))
      refine KW.cut1 (fun (_u : Unit) => True) (fun (_u : Unit) => [(0, .slice (some ⟨b0, o0, none⟩) ls.length c), (4, vo), (5, .int .i64 ((r.2 : Nat) : Int)), (6, .int .i64 ((i : Nat) : Int)), (7, .bool (decide ((0 < l.length ∧ l.length + r.2 < 20))))]) (fun (_u : Unit) => wr) ?_ ?_
      · refine KW.region ?_
        refine OW.val rfl rfl (EX.move rfl) ?_
        refine OW.val rfl rfl (EX.move rfl) ?_
        refine OW.val rfl rfl (by first | exact EX.indexAddrS0 Try.underlying22 ti48 rfl rfl (by omega) | exact EX.indexAddrS1 Try.underlying22 ti48 rfl rfl (by omega)) ?_
        refine OW.val rfl rfl (EX.load Try.underlying48 rfl rfl (hc0 i _ g1)) ?_
        refine OW.val rfl rfl (EX.lenA Try.underlying48 rfl) ?_
        refine OW.val rfl rfl (by first | exact EX.gtrN (b := 0) rfl rfl | exact EX.gtrZ rfl rfl) ?_
        refine OW.val rfl rfl (EX.move rfl) ?_
        refine OW.splitD 21 rfl (fun p1 => ?_) (fun p1 => ?_)
        · refine OW.val rfl rfl (EX.move rfl) ?_
          refine OW.val rfl rfl (EX.move rfl) ?_
          refine OW.val rfl rfl (by first | exact EX.indexAddrS0 Try.underlying22 ti48 rfl rfl (by omega) | exact EX.indexAddrS1 Try.underlying22 ti48 rfl rfl (by omega)) ?_
          refine OW.val rfl rfl (EX.load Try.underlying48 rfl rfl (hc0 i _ g1)) ?_
          refine OW.val rfl rfl (EX.lenA Try.underlying48 rfl) ?_
          refine OW.val rfl rfl (EX.move rfl) ?_
          refine OW.val rfl rfl (by first | exact EX.subN (a := 20) (m := 9223372036854775807) rfl rfl rfl (by omega) | exact EX.subZ (m := 9223372036854775807) rfl rfl rfl rfl (by omega)) ?_
          refine OW.val rfl rfl (by first | exact EX.lssN rfl rfl | exact EX.lssZ rfl rfl) ?_
          refine OW.val rfl rfl (EX.pickT rfl rfl) ?_
          refine OW.val rfl rfl (EX.assign rfl) ?_
          refine OW.nil ?_
          refine KW.as 7 (.bool (decide ((0 < l.length ∧ l.length + r.2 < 20)))) rfl (congrArg Value.bool (decide_eq_decide.2 (by omega))) ?_
          refine KW.meet1 (()) ⟨rfl, rfl, rfl, rfl, rfl, trivial⟩ rfl ?_
          trivial
        · refine OW.pass rfl rfl ?_
          refine OW.pass rfl rfl ?_
          refine OW.pass rfl rfl ?_
          refine OW.pass rfl rfl ?_
          refine OW.pass rfl rfl ?_
          refine OW.pass rfl rfl ?_
          refine OW.pass rfl rfl ?_
          refine OW.pass rfl rfl ?_
          refine OW.val rfl rfl (EX.pickF rfl rfl) ?_
          refine OW.val rfl rfl (EX.assign rfl) ?_
          refine OW.nil ?_
          refine KW.as 7 (.bool (decide ((0 < l.length ∧ l.length + r.2 < 20)))) rfl (congrArg Value.bool (decide_eq_false (by omega)).symm) ?_
          refine KW.meet1 (()) ⟨rfl, rfl, rfl, rfl, rfl, trivial⟩ rfl ?_
          trivial
      · rintro _ _
        refine KW.seq (KW.seq (KW.region ?_))
        refine OW.val rfl rfl (EX.assign rfl) ?_
        refine OW.nil ?_
        refine KW.cut1 (fun (wq : World) => Ext wr wq) (fun (wq : World) => [(0, .slice (some ⟨b0, o0, none⟩) ls.length c), (4, vo), (5, .int .i64 ((r.2 : Nat) : Int)), (6, .int .i64 ((i : Nat) : Int)), (7, .bool (decide (okT r.2 l)))]) (fun (wq : World) => wq) ?_ ?_
        · refine KW.block ?_
          refine KW.loop3 (fun (k : Nat) (q : Bool) (wq : World) => k ≤ l.length ∧ (q = true ↔ (0 < l.length ∧ l.length + r.2 < 20 ∧ ∀ n ∈ l.take k, n.kind = 1 ∧ mayM n.mem)) ∧ Ext wr wq) (fun (k : Nat) (q : Bool) (wq : World) => [(0, .slice (some ⟨b0, o0, none⟩) ls.length c), (4, vo), (5, .int .i64 ((r.2 : Nat) : Int)), (6, .int .i64 ((i : Nat) : Int)), (7, .bool q), (8, .int .i64 ((k : Nat) : Int))]) (fun (k : Nat) (q : Bool) (wq : World) => wq) (fun (k : Nat) (q : Bool) (wq : World) => l.length - k) (0) (decide (0 < l.length ∧ l.length + r.2 < 20)) (wr) ⟨rfl, rfl, rfl, rfl, rfl, rfl, trivial⟩ rfl ?_ ?_
          · exact ⟨by omega, by simp, Ext.refl _⟩
          · rintro k q wq ⟨hk, hq, hxq⟩
            have hc1 := hcW wq hxq
            refine KW.seq (KW.seq ?_)
            refine KW.region ?_
            refine OW.val rfl rfl (EX.move rfl) ?_
            refine OW.val rfl rfl (EX.move rfl) ?_
            refine OW.val rfl rfl (EX.move rfl) ?_
            refine OW.val rfl rfl (by first | exact EX.indexAddrS0 Try.underlying22 ti48 rfl rfl (by omega) | exact EX.indexAddrS1 Try.underlying22 ti48 rfl rfl (by omega)) ?_
            refine OW.val rfl rfl (EX.load Try.underlying48 rfl rfl (hc1 i _ g1)) ?_
            refine OW.val rfl rfl (EX.lenA Try.underlying48 rfl) ?_
            refine OW.val rfl rfl (by first | exact EX.lssN rfl rfl | exact EX.lssZ rfl rfl) ?_
            refine OW.val rfl rfl (EX.move rfl) ?_
            refine OW.splitD 38 rfl (fun p2 => ?_) (fun p2 => ?_)
            · refine OW.val rfl rfl (EX.move rfl) ?_
              refine OW.val rfl rfl (EX.pickT rfl rfl) ?_
              refine OW.nil ?_
              refine KW.cond rfl (fun p3 => ?_) (fun p3 => ?_)
              · obtain ⟨b3, o3, rfl, _, hd1⟩ := (s1.ext hxq).flat (c := 6) (fun _ => rfl) (by decide) p2
                have hkt : l.take (k + 1) = l.take k ++ [l[k]] := (List.take_append_getElem p2).symm
                have hnk := hoi l[k] (List.getElem_mem p2)
                generalize l[k] = n at hd1 hkt hnk
                refine KW.skip (KW.seq (KW.block ?_))
                refine KW.region ?_
                refine OW.val rfl rfl (EX.move rfl) ?_
                refine OW.val rfl rfl (EX.move rfl) ?_
                refine OW.val rfl rfl (by first | exact EX.indexAddrS0 Try.underlying22 ti48 rfl rfl (by omega) | exact EX.indexAddrS1 Try.underlying22 ti48 rfl rfl (by omega)) ?_
                refine OW.val rfl rfl (EX.load Try.underlying48 rfl rfl (hc1 i _ g1)) ?_
                refine OW.val rfl rfl (EX.move rfl) ?_
                refine OW.val rfl rfl (EX.indexAddrS Try.underlying48 ti69 rfl rfl (by omega)) ?_
                refine OW.val rfl rfl (EX.fieldAddr (off := 0) Try.underlying69 rfl rfl ti3 rfl rfl) ?_
                refine OW.val rfl rfl (EX.load Try.underlying3 rfl rfl (hd1 0 _ rfl)) ?_
                refine OW.val rfl rfl (by first | exact EX.eqlN (b := 1) rfl rfl | exact EX.eqlZ rfl rfl) ?_
                refine OW.val rfl rfl (EX.move rfl) ?_
                refine OW.splitD 52 rfl (fun p4 => ?_) (fun p4 => ?_)
                · have p4' : n.kind = 1 := p4
                  refine OW.val rfl rfl (EX.move rfl) ?_
                  refine OW.val rfl rfl (EX.move rfl) ?_
                  refine OW.val rfl rfl (by first | exact EX.indexAddrS0 Try.underlying22 ti48 rfl rfl (by omega) | exact EX.indexAddrS1 Try.underlying22 ti48 rfl rfl (by omega)) ?_
                  refine OW.val rfl rfl (EX.load Try.underlying48 rfl rfl (hc1 i _ g1)) ?_
                  refine OW.val rfl rfl (EX.move rfl) ?_
                  refine OW.val rfl rfl (EX.indexAddrS Try.underlying48 ti69 rfl rfl (by omega)) ?_
                  refine OW.val rfl rfl (EX.fieldAddr (off := 1) Try.underlying69 rfl rfl ti67 rfl rfl) ?_
                  refine OW.val rfl rfl (EX.loadA (l := n.mem.cells) Try.underlying67 rfl ti67 rfl rfl (fun j u hj => by rw [Nat.add_assoc, Nat.add_comm 1 j]; exact hd1 (j + 1) u hj)) ?_
                  refine OW.call rfl rfl rfl (checkM_s n.mem hnk wq) ?_
                  rintro _ w2 ⟨rfl, hx2⟩
                  refine OW.val rfl rfl (by first | exact EX.eqlN (b := 0) rfl rfl | exact EX.eqlZ rfl rfl) ?_
                  refine OW.val rfl rfl (EX.pickT rfl rfl) ?_
                  refine OW.val rfl rfl (EX.assign rfl) ?_
                  refine OW.nil ?_
                  refine KW.leave (KW.region ?_)
                  refine OW.val rfl rfl (EX.move rfl) ?_
                  refine OW.val rfl rfl (by first | exact EX.addN (b := 1) (m := 9223372036854775807) rfl rfl rfl (by omega) | exact EX.addZ (m := 9223372036854775807) rfl rfl rfl rfl (by omega)) ?_
                  refine OW.val rfl rfl (EX.assign rfl) ?_
                  refine OW.nil ?_
                  refine KW.back3 (k + 1) (decide (checkM n.mem = 0)) (w2) ⟨rfl, rfl, rfl, rfl, rfl, rfl, trivial⟩ rfl ?_ (by omega)
                  refine ⟨by omega, ?_, hxq.trans hx2⟩
                  rw [hkt]
                  have hcm : checkM n.mem = 0 ↔ mayM n.mem := by unfold checkM; split <;> simp [*]
                  have hq2 := hq.1 p3
                  rw [decide_eq_true_eq]
                  constructor
                  · intro z
                    refine ⟨hq2.1, hq2.2.1, fun x hx' => ?_⟩
                    rcases List.mem_append.1 hx' with z1 | z1
                    · exact hq2.2.2 x z1
                    · rw [List.mem_singleton.1 z1]; exact ⟨p4', hcm.1 (by omega)⟩
                  · intro z
                    have := hcm.2 (z.2.2 n (by simp)).2
                    omega
                · have p4' : ¬ n.kind = 1 := p4
                  refine OW.pass rfl rfl ?_
                  refine OW.pass rfl rfl ?_
                  refine OW.pass rfl rfl ?_
                  refine OW.pass rfl rfl ?_
                  refine OW.pass rfl rfl ?_
                  refine OW.pass rfl rfl ?_
                  refine OW.pass rfl rfl ?_
                  refine OW.pass rfl rfl ?_
                  refine OW.pass rfl rfl ?_
                  refine OW.pass rfl rfl ?_
                  refine OW.val rfl rfl (EX.pickF rfl rfl) ?_
                  refine OW.val rfl rfl (EX.assign rfl) ?_
                  refine OW.nil ?_
                  refine KW.leave (KW.region ?_)
                  refine OW.val rfl rfl (EX.move rfl) ?_
                  refine OW.val rfl rfl (by first | exact EX.addN (b := 1) (m := 9223372036854775807) rfl rfl rfl (by omega) | exact EX.addZ (m := 9223372036854775807) rfl rfl rfl rfl (by omega)) ?_
                  refine OW.val rfl rfl (EX.assign rfl) ?_
                  refine OW.nil ?_
                  refine KW.back3 (k + 1) (false) (wq) ⟨rfl, rfl, rfl, rfl, rfl, rfl, trivial⟩ rfl ?_ (by omega)
                  refine ⟨by omega, ⟨fun z => (by cases z), fun z => absurd (z.2.2 n (by rw [hkt]; simp)).1 p4'⟩, hxq⟩
              · have hno : ¬ okT r.2 l := fun z => by
                  have := hq.2 ⟨z.1, z.2.1, fun n hn => z.2.2 n (List.mem_of_mem_take hn)⟩
                  rw [this] at p3
                  cases p3
                refine KW.exit rfl ?_
                refine KW.as 7 (.bool (decide (okT r.2 l))) rfl (congrArg Value.bool (by rw [p3, decide_eq_false hno])) ?_
                refine KW.meet1 (wq) ⟨rfl, rfl, rfl, rfl, rfl, trivial⟩ rfl ?_
                exact hxq
            · obtain rfl : k = l.length := by omega
              rw [List.take_length] at hq
              refine OW.pass rfl rfl ?_
              refine OW.val rfl rfl (EX.pickF rfl rfl) ?_
              refine OW.nil ?_
              refine KW.condF rfl (KW.exit rfl ?_)
              refine KW.as 7 (.bool (decide (okT r.2 l))) rfl (congrArg Value.bool (by rw [Bool.eq_iff_iff, hq, decide_eq_true_eq]; rfl)) ?_
              refine KW.meet1 (wq) ⟨rfl, rfl, rfl, rfl, rfl, trivial⟩ rfl ?_
              exact hxq
        · rintro wq hxq
          have hc1 := hcW wq hxq
          have xq := hx.trans hxq
          refine KW.seq (KW.region ?_)
          refine OW.val rfl rfl (EX.move rfl) ?_
          refine OW.nil ?_
          refine KW.condD rfl (fun hokt => ?_) (fun hokt => ?_)
          · have hp := pick_yes hokt
            rw [hp] at hms
            refine KW.seq (KW.region ?_)
            refine OW.val rfl rfl (EX.move rfl) ?_
            refine OW.val rfl rfl (EX.move rfl) ?_
            refine OW.val rfl rfl (EX.move rfl) ?_
            refine OW.val rfl rfl (by first | exact EX.indexAddrS0 Try.underlying22 ti48 rfl rfl (by omega) | exact EX.indexAddrS1 Try.underlying22 ti48 rfl rfl (by omega)) ?_
            refine OW.val rfl rfl (EX.load Try.underlying48 rfl rfl (hc1 i _ g1)) ?_
            refine OW.push rfl rfl (fun _ => rfl) rfl Try.underlying22 ti48 rfl rfl (fun _ => rfl) rfl (xq) ((hown.ext hxq)) (by simp only [maxLen]; omega) (by omega) ?_
            rintro _ v3 w3 hown3 hx3 hg3 hb3
            refine OW.val rfl rfl (EX.assign rfl) ?_
            refine OW.nil ?_
            refine KW.region ?_
            refine OW.val rfl rfl (EX.move rfl) ?_
            refine OW.val rfl rfl (EX.move rfl) ?_
            refine OW.val rfl rfl (EX.move rfl) ?_
            refine OW.val rfl rfl (by first | exact EX.indexAddrS0 Try.underlying22 ti48 rfl rfl (by omega) | exact EX.indexAddrS1 Try.underlying22 ti48 rfl rfl (by omega)) ?_
            have hc3 : ∀ j u, vs[j]? = some u → w3.cell? ⟨b0, o0 + j, none⟩ = some u := by
              obtain ⟨b1', o1', e', _, hc⟩ := (hs.ext hx3).at_ (by omega)
              cases e'
              exact hc
            refine OW.val rfl rfl (EX.load Try.underlying48 rfl rfl (hc3 i _ g1)) ?_
            refine OW.val rfl rfl (EX.lenA Try.underlying48 rfl) ?_
            refine OW.val rfl rfl (by first | exact EX.addN (b := 1) (m := 9223372036854775807) rfl rfl rfl (by omega) | exact EX.addZ (m := 9223372036854775807) rfl rfl rfl rfl (by omega)) ?_
            refine OW.val rfl rfl (by first | exact EX.addN (m := 9223372036854775807) rfl rfl rfl (by omega) | exact EX.addZ (m := 9223372036854775807) rfl rfl rfl rfl (by omega)) ?_
            refine OW.val rfl rfl (EX.assign rfl) ?_
            refine OW.nil ?_
            refine KW.leave (KW.region ?_)
            refine OW.val rfl rfl (EX.move rfl) ?_
            refine OW.val rfl rfl (by first | exact EX.addN (b := 1) (m := 9223372036854775807) rfl rfl rfl (by omega) | exact EX.addZ (m := 9223372036854775807) rfl rfl rfl rfl (by omega)) ?_
            refine OW.val rfl rfl (EX.assign rfl) ?_
            refine OW.nil ?_
            refine KW.as 5 (.int .i64 (((mayT (ls.take (i + 1))).2 : Nat) : Int)) rfl (congrArg (Value.int .i64) (by rw [hms]; simp only; omega)) ?_
            refine KW.back3 (i + 1) (v3) (w3) ⟨rfl, rfl, rfl, rfl, trivial⟩ rfl ?_ (by omega)
            rw [hms]
            exact ⟨by omega, by simp; omega, hx3, vs' ++ [.slice a1 l.length c1], by simpa using hown3, htx.snoc s0⟩
          · have hp := pick_no hokt
            rw [hp] at hms
            refine KW.skip (KW.leave (KW.region ?_))
            refine OW.val rfl rfl (EX.move rfl) ?_
            refine OW.val rfl rfl (by first | exact EX.addN (b := 1) (m := 9223372036854775807) rfl rfl rfl (by omega) | exact EX.addZ (m := 9223372036854775807) rfl rfl rfl rfl (by omega)) ?_
            refine OW.val rfl rfl (EX.assign rfl) ?_
            refine OW.nil ?_
            refine KW.as 5 (.int .i64 (((mayT (ls.take (i + 1))).2 : Nat) : Int)) rfl (by rw [hms]) ?_
            refine KW.back3 (i + 1) (vo) (wq) ⟨rfl, rfl, rfl, rfl, trivial⟩ rfl ?_ (by omega)
            rw [hms]
            exact ⟨by omega, by omega, xq, vs', hown.ext hxq, htx⟩
    · obtain rfl : i = ls.length := by omega
      rw [List.take_length] at hown htx ⊢
      refine KW.exit rfl (KW.seq (KW.region ?_))
      refine OW.val rfl rfl (EX.move rfl) ?_
      refine OW.val rfl rfl (EX.move rfl) ?_
      refine OW.val rfl rfl (EX.assign rfl) ?_
      refine OW.val rfl rfl (EX.assign rfl) ?_
      refine OW.nil ?_
      refine KW.ret (ret2 rfl rfl rfl ?_)
      exact ⟨⟨vo, vs', rfl, hown, htx.ext hx⟩, hx⟩
end Go.Proofs.Ytlpnoogcdnfllaa
/- wal: devices that hold transactions; what is appended is found. -/
namespace Go.Proofs.Ytlpnoogcdnfllaa
set_option linter.unnecessarySimpa false
open Go.RowKit Rec Pth Dsk Wal
set_option linter.unusedVariables false
set_option linter.unusedSimpArgs false

theorem total_take (ls : List (List Nt)) (i : Nat) : total (ls.take i) ≤ total ls := by
  have h : total ls = total (ls.take i) + total (ls.drop i) := by
    conv => lhs; rw [← List.take_append_drop i ls]
    unfold total
    rw [List.map_append, List.sum_append]
  omega
theorem total_len (ls : List (List Nt)) : ls.length ≤ total ls := by
  induction ls with
  | nil => simp
  | cons l ls ih => rw [total_cons, List.length_cons]; omega
set_option maxRecDepth 20000 in
theorem appended_s (g : Nat) (hg : g ≤ 4611686018427387904) (ls : List (List Nt)) (hT : total ls ≤ 20) (hfine : ∀ l ∈ ls, l ≠ [] ∧ ∀ n ∈ l, mayN n) (hok : ∀ l ∈ ls, ∀ n ∈ l, n.mem.Ok) (vs : List Value) (A : Option Addr) (c B C : Nat) (w : World) (hs : Sl w B A vs) (ht : TxS w C vs ls) :
    Ret Try.prog 9 [.int .i64 (g : Int), .slice A ls.length c] w fun v w' => Ext w w' ∧ ∃ b, v = .tuple #[.pointer (some ⟨b, 0, none⟩), .bool true] ∧ ∃ D, Quiet D (onto g ls fun _ => []) (total ls) ∧ Sm D 500 ∧ DevAt w' w.heap.size b D := by
  have el := ht.len
  have hll := total_len ls
  refine Ret.enter Try.func9 rfl Try.ntmps9 (by kernel_rfl) rfl ?_
  refine KW.seq (KW.region ?_)
  refine OW.val rfl rfl (EX.assign rfl) ?_
  refine OW.val rfl rfl (EX.assign rfl) ?_
  refine OW.nil ?_
  refine KW.seq (KW.region ?_)
  refine OW.call rfl rfl rfl (new40 w) ?_
  rintro _ w1 ⟨hx1, b, rfl, hdev1⟩
  refine OW.val rfl rfl (EX.move rfl) ?_
  refine OW.val rfl rfl (EX.extract rfl rfl) ?_
  refine OW.val rfl rfl (EX.extract rfl rfl) ?_
  refine OW.val rfl rfl (EX.assign rfl) ?_
  refine OW.val rfl rfl (EX.assign rfl) ?_
  refine OW.nil ?_
  refine KW.seq (KW.seq ?_)
  refine KW.region ?_
  refine OW.val rfl rfl (EX.move rfl) ?_
  refine OW.val rfl rfl (by first | exact EX.neqN (b := 0) rfl rfl | exact EX.neqZ rfl rfl) ?_
  refine OW.val rfl rfl (EX.move rfl) ?_
  refine OW.as 18 (.bool false) rfl (congrArg Value.bool (decide_eq_false (by simp))) ?_
  refine OW.val rfl rfl (EX.move rfl) ?_
  refine OW.val rfl rfl (by first | exact EX.eqlP1 Try.underlying26 rfl rfl | exact EX.eqlP0 Try.underlying26 rfl rfl) ?_
  refine OW.val rfl rfl (EX.pickF rfl rfl) ?_
  refine OW.nil ?_
  refine KW.condF rfl (KW.skip (KW.seq (KW.region ?_)))
  refine OW.val rfl rfl (EX.assign rfl) ?_
  refine OW.nil ?_
  refine KW.seq (KW.seq (KW.region ?_))
  refine OW.val rfl rfl (EX.assign rfl) ?_
  refine OW.nil ?_
  refine KW.block ?_
  refine KW.loop2 (fun (i : Nat) (wr : World) => i ≤ ls.length ∧ Ext w wr ∧ ∃ D, Quiet D (onto g (ls.take i) fun _ => []) (total (ls.take i)) ∧ Sm D (21 * i) ∧ DevAt wr w.heap.size b D) (fun (i : Nat) (wr : World) => [(0, .int .i64 ((g : Nat) : Int)), (1, .slice A ls.length c), (6, .pointer (some ⟨b, 0, none⟩)), (8, .int .i64 (((total (ls.take i)) : Nat) : Int)), (9, .int .i64 ((i : Nat) : Int))]) (fun (i : Nat) (wr : World) => wr) (fun (i : Nat) (wr : World) => ls.length - i) (0) (w1) ⟨rfl, rfl, rfl, rfl, rfl, trivial⟩ rfl ?_ ?_
  · exact ⟨by omega, hx1, _, Quiet.fresh _, fresh_sm, hdev1⟩
  · rintro i wr ⟨hi, hx, D, hq, hsm, hdev⟩
    refine KW.seq (KW.seq (KW.region ?_))
    refine OW.val rfl rfl (EX.move rfl) ?_
    refine OW.val rfl rfl (EX.move rfl) ?_
    refine OW.val rfl rfl (EX.lenA Try.underlying22 rfl) ?_
    refine OW.val rfl rfl (by first | exact EX.lssN rfl rfl | exact EX.lssZ rfl rfl) ?_
    refine OW.nil ?_
    refine KW.condD rfl (fun hlt => ?_) (fun hlt => ?_)
    · have hsn : ls.take (i + 1) = ls.take i ++ [ls[i]] := (List.take_append_getElem hlt).symm
      obtain ⟨a1, c1, g1, s1⟩ := (ht.ext hx).at_ i hlt
      have hf := hfine ls[i] (List.getElem_mem hlt)
      have ho := hok ls[i] (List.getElem_mem hlt)
      have ht2 := total_take ls (i + 1)
      rw [hsn, total_snoc] at ht2
      obtain ⟨b0, o0, rfl, _, hc0⟩ := (hs.ext hx).at_ (by omega)
      have ca := append_q hq hsm (by omega) hg (Nat.le_refl _) hf.1 (by omega) hf.2 ho w.heap.size b a1 c1 _ wr hdev s1
      have et : max (total (ls.take i)) (total (ls.take i) + (ls[i]).length + 1) = total (ls.take (i + 1)) := by rw [hsn, total_snoc]; omega
      have et2 : total (ls.take (i + 1)) = total (ls.take i) + (ls[i]).length + 1 := by rw [hsn, total_snoc]
      rw [et, ← hsn] at ca
      generalize ls[i] = l at g1 s1 hf ho ht2 ca et2
      refine KW.skip (KW.seq (KW.block (KW.seq (KW.region ?_))))
      refine OW.val rfl rfl (EX.move rfl) ?_
      refine OW.val rfl rfl (EX.move rfl) ?_
      refine OW.val rfl rfl (EX.move rfl) ?_
      refine OW.val rfl rfl (EX.move rfl) ?_
      refine OW.val rfl rfl (EX.move rfl) ?_
      refine OW.val rfl rfl (by first | exact EX.indexAddrS0 Try.underlying22 ti48 rfl rfl (by omega) | exact EX.indexAddrS1 Try.underlying22 ti48 rfl rfl (by omega)) ?_
      refine OW.val rfl rfl (EX.load Try.underlying48 rfl rfl (hc0 i _ g1)) ?_
      refine OW.call rfl rfl rfl (ca) ?_
      rintro _ w2 ⟨rfl, tm2, D2, hq2, hsm2, hdev2⟩
      refine OW.val rfl rfl (EX.move rfl) ?_
      refine OW.val rfl rfl (EX.extract rfl rfl) ?_
      refine OW.val rfl rfl (EX.extract rfl rfl) ?_
      refine OW.val rfl rfl (EX.assign rfl) ?_
      refine OW.val rfl rfl (EX.assign rfl) ?_
      refine OW.nil ?_
      refine KW.seq (KW.seq ?_)
      have x2 : Ext w w2 := Tm.below hx tm2 hx.size (Nat.le_refl _)
      obtain ⟨b0', o0', e0, _, hc2⟩ := (hs.ext x2).at_ (by omega)
      cases e0
      refine KW.region ?_
      refine OW.val rfl rfl (EX.move rfl) ?_
      refine OW.val rfl rfl (by first | exact EX.neqN (b := 0) rfl rfl | exact EX.neqZ rfl rfl) ?_
      refine OW.val rfl rfl (EX.move rfl) ?_
      refine OW.as 41 (.bool false) rfl (congrArg Value.bool (decide_eq_false (fun q => q rfl))) ?_
      refine OW.val rfl rfl (EX.move rfl) ?_
      refine OW.val rfl rfl (EX.move rfl) ?_
      refine OW.val rfl rfl (EX.move rfl) ?_
      refine OW.val rfl rfl (EX.move rfl) ?_
      refine OW.val rfl rfl (by first | exact EX.indexAddrS0 Try.underlying22 ti48 rfl rfl (by omega) | exact EX.indexAddrS1 Try.underlying22 ti48 rfl rfl (by omega)) ?_
      refine OW.val rfl rfl (EX.load Try.underlying48 rfl rfl (hc2 i _ g1)) ?_
      refine OW.val rfl rfl (EX.lenA Try.underlying48 rfl) ?_
      refine OW.val rfl rfl (by first | exact EX.addN (m := 9223372036854775807) rfl rfl rfl (by omega) | exact EX.addZ (m := 9223372036854775807) rfl rfl rfl rfl (by omega)) ?_
      refine OW.val rfl rfl (by first | exact EX.addN (b := 1) (m := 9223372036854775807) rfl rfl rfl (by omega) | exact EX.addZ (m := 9223372036854775807) rfl rfl rfl rfl (by omega)) ?_
      refine OW.val rfl rfl (by first | exact EX.neqN rfl rfl | exact EX.neqZ rfl rfl) ?_
      refine OW.val rfl rfl (EX.pickF rfl rfl) ?_
      refine OW.nil ?_
      refine KW.condD rfl (fun hne => ?_) (fun hne => ?_)
      · omega
      · refine KW.skip (KW.region ?_)
        refine OW.val rfl rfl (EX.move rfl) ?_
        refine OW.val rfl rfl (EX.assign rfl) ?_
        refine OW.nil ?_
        refine KW.leave (KW.region ?_)
        refine OW.val rfl rfl (EX.move rfl) ?_
        refine OW.val rfl rfl (by first | exact EX.addN (b := 1) (m := 9223372036854775807) rfl rfl rfl (by omega) | exact EX.addZ (m := 9223372036854775807) rfl rfl rfl rfl (by omega)) ?_
        refine OW.val rfl rfl (EX.assign rfl) ?_
        refine OW.nil ?_
        refine KW.as 8 (.int .i64 (((total (ls.take (i + 1))) : Nat) : Int)) rfl (congrArg (fun q : Nat => Value.int .i64 (q : Int)) et2.symm) ?_
        refine KW.back2 (i + 1) (w2) ⟨rfl, rfl, rfl, rfl, rfl, trivial⟩ rfl ?_ (by omega)
        exact ⟨by omega, x2, D2, hq2, hsm2.more (by omega), hdev2⟩
    · obtain rfl : i = ls.length := by omega
      rw [List.take_length] at hq
      refine KW.exit rfl (KW.seq (KW.region ?_))
      refine OW.val rfl rfl (EX.move rfl) ?_
      refine OW.val rfl rfl (EX.assign rfl) ?_
      refine OW.val rfl rfl (EX.assign rfl) ?_
      refine OW.nil ?_
      refine KW.ret (ret2 rfl rfl rfl ?_)
      exact ⟨hx, b, rfl, D, hq, hsm.more (by omega), hdev⟩
end Go.Proofs.Ytlpnoogcdnfllaa
/- wal: transactions that were appended are found, none of another generation. -/
namespace Go.Proofs.Ytlpnoogcdnfllaa
set_option linter.unnecessarySimpa false
open Go.RowKit Rec Pth Dsk Wal
set_option linter.unusedVariables false
set_option linter.unusedSimpArgs false

/-- lists of transactions among a law's arguments -/
def TxsAt (w : World) (C : Nat) (A : Option Addr) (ls : List (List Nt)) : Prop := ∃ vs, Sl w C A vs ∧ TxS w C vs ls
def TxsOk (ls : List (List Nt)) : Prop := ∀ l ∈ ls, l.length ≤ 140737488355328 ∧ ∀ n ∈ l, n.mem.Ok
theorem may_goods {ls : List (List Nt)} (h : TxsOk ls) : Goods (mayT ls).1 := fun l hl => ⟨fun n hn => ⟨((mayT_fine ls).2.2 l hl).2 n hn, ((h l (mayT_mem ls l hl)).2 n hn).sum⟩, ((mayT_fine ls).2.2 l hl).1⟩
set_option maxRecDepth 20000 in
theorem walBack_s (gen : Int) (g0 : -9223372036854775808 ≤ gen) (g1 : gen ≤ 9223372036854775807) (ls : List (List Nt)) (hok : TxsOk ls) (A : Option Addr) (c : Nat) (other : Int) (o0 : -9223372036854775808 ≤ other) (o1 : other ≤ 9223372036854775807) (w : World) (C : Nat) (hls : TxsAt w C A ls) :
    Ret Try.prog 3 [.int .i64 gen, .slice A ls.length c, .int .i64 other] w fun v w' => v = .bool true ∧ Ext w w' := by
  obtain ⟨vs, hs, ht⟩ := hls
  have bye : ∀ w', Ext w w' → Ret Try.prog 7 [] w' fun v w'' => v = .bool true ∧ Ext w w'' := fun w' hx => (awake_s w').mono fun _ _ h => ⟨h.1, Ext.trans hx h.2⟩
  refine Ret.enter Try.func3 rfl Try.ntmps3 (by kernel_rfl) rfl ?_
  refine KW.seq (KW.region ?_)
  refine OW.val rfl rfl (EX.assign rfl) ?_
  refine OW.nil ?_
  refine KW.seq (KW.seq ?_)
  refine KW.region ?_
  refine OW.val rfl rfl (EX.move rfl) ?_
  refine OW.val rfl rfl (by first | exact EX.lssN (b := 0) rfl rfl | exact EX.lssZ rfl rfl) ?_
  refine OW.val rfl rfl (EX.move rfl) ?_
  refine OW.splitD 19 rfl (fun q1 => ?_) (fun q1 => ?_)
  · refine OW.pass rfl rfl ?_
    refine OW.pass rfl rfl ?_
    refine OW.val rfl rfl (EX.pickT rfl rfl) ?_
    refine OW.val rfl rfl (EX.move rfl) ?_
    refine OW.pass rfl rfl ?_
    refine OW.pass rfl rfl ?_
    refine OW.pass rfl rfl ?_
    refine OW.val rfl rfl (EX.pickT rfl rfl) ?_
    refine OW.nil ?_
    refine KW.condT rfl (KW.seq (KW.region ?_))
    refine OW.call rfl rfl rfl (bye w (Ext.refl _)) ?_
    rintro _ w1 ⟨rfl, hx1⟩
    refine OW.val rfl rfl (EX.assign rfl) ?_
    refine OW.nil ?_
    refine KW.ret (ret1 rfl rfl ?_)
    exact ⟨rfl, hx1⟩
  · refine OW.val rfl rfl (EX.move rfl) ?_
    refine OW.val rfl rfl (by first | exact EX.gtrN (b := 4611686018427387904) rfl rfl | exact EX.gtrZ rfl rfl) ?_
    refine OW.val rfl rfl (EX.pickF rfl rfl) ?_
    refine OW.val rfl rfl (EX.move rfl) ?_
    refine OW.splitD 23 rfl (fun q2 => ?_) (fun q2 => ?_)
    · refine OW.pass rfl rfl ?_
      refine OW.pass rfl rfl ?_
      refine OW.pass rfl rfl ?_
      refine OW.val rfl rfl (EX.pickT rfl rfl) ?_
      refine OW.nil ?_
      refine KW.condT rfl (KW.seq (KW.region ?_))
      refine OW.call rfl rfl rfl (bye w (Ext.refl _)) ?_
      rintro _ w1 ⟨rfl, hx1⟩
      refine OW.val rfl rfl (EX.assign rfl) ?_
      refine OW.nil ?_
      refine KW.ret (ret1 rfl rfl ?_)
      exact ⟨rfl, hx1⟩
    · refine OW.val rfl rfl (EX.move rfl) ?_
      refine OW.val rfl rfl (EX.lenA Try.underlying22 rfl) ?_
      refine OW.val rfl rfl (by first | exact EX.gtrN (b := 100) rfl rfl | exact EX.gtrZ rfl rfl) ?_
      refine OW.val rfl rfl (EX.pickF rfl rfl) ?_
      refine OW.nil ?_
      refine KW.condD rfl (fun q3 => ?_) (fun q3 => ?_)
      · refine KW.seq (KW.region ?_)
        refine OW.call rfl rfl rfl (bye w (Ext.refl _)) ?_
        rintro _ w1 ⟨rfl, hx1⟩
        refine OW.val rfl rfl (EX.assign rfl) ?_
        refine OW.nil ?_
        refine KW.ret (ret1 rfl rfl ?_)
        exact ⟨rfl, hx1⟩
      · obtain ⟨g, rfl⟩ := Int.eq_ofNat_of_zero_le (show 0 ≤ gen by omega)
        have hg : g ≤ 4611686018427387904 := by omega
        refine KW.skip (KW.seq (KW.region ?_))
        refine OW.val rfl rfl (EX.move rfl) ?_
        refine OW.call rfl rfl rfl (may_s ls (by omega) (fun l hl => (hok l hl).1) (fun l hl => (hok l hl).2) vs A c C C w hs ht) ?_
        rintro _ w1 ⟨⟨vo, vs', rfl, own1, tx1⟩, hx1⟩
        refine OW.val rfl rfl (EX.move rfl) ?_
        refine OW.val rfl rfl (EX.extract rfl rfl) ?_
        refine OW.val rfl rfl (EX.extract rfl rfl) ?_
        refine OW.val rfl rfl (EX.assign rfl) ?_
        refine OW.val rfl rfl (EX.assign rfl) ?_
        refine OW.nil ?_
        refine KW.seq (KW.region ?_)
        refine OW.val rfl rfl (EX.move rfl) ?_
        refine OW.val rfl rfl (EX.move rfl) ?_
        have hf := mayT_fine ls
        have hgd := may_goods hok
        have hmo : ∀ l ∈ (mayT ls).1, ∀ n ∈ l, n.mem.Ok := fun l hl => (hok l (mayT_mem ls l hl)).2
        have hmb : ∀ l ∈ (mayT ls).1, l.length ≤ 140737488355328 := fun l hl => (hok l (mayT_mem ls l hl)).1
        generalize (mayT ls).2 = at_ at hf
        generalize (mayT ls).1 = P at own1 tx1 hf hgd hmo hmb
        obtain ⟨hat, hT, hfine⟩ := hf
        subst hat
        have hPl := total_len P
        obtain ⟨A1, c1, rfl, _, sl1⟩ := own1.slice
        refine OW.call rfl rfl rfl (appended_s g hg P hT hfine hmo vs' A1 c1 _ C w1 sl1 tx1) ?_
        rintro _ w2 ⟨hx2, b, rfl, D2, hq2, hsm2, hdev2⟩
        refine OW.val rfl rfl (EX.move rfl) ?_
        refine OW.val rfl rfl (EX.extract rfl rfl) ?_
        refine OW.val rfl rfl (EX.extract rfl rfl) ?_
        refine OW.val rfl rfl (EX.assign rfl) ?_
        refine OW.val rfl rfl (EX.assign rfl) ?_
        refine OW.nil ?_
        refine KW.seq (KW.seq (KW.region ?_))
        refine OW.val rfl rfl (EX.move rfl) ?_
        refine OW.val rfl rfl (by first | exact EX.notD rfl | exact EX.notB rfl) ?_
        refine OW.nil ?_
        have x2 := Ext.trans hx1 hx2
        have own2 := own1.ext hx2
        have tx2 := tx1.ext hx2
        refine KW.condF rfl (KW.skip (KW.seq (KW.region ?_)))
        refine OW.val rfl rfl (EX.move rfl) ?_
        refine OW.val rfl rfl (EX.move rfl) ?_
        refine OW.call rfl rfl rfl (replay_q hq2 hsm2 (by omega) hg hgd w1.heap.size b w2 hdev2) ?_
        rintro _ w3 ⟨⟨vm, vsm, rfl, ownm, txm⟩, tm3, D3, hq3, hsm3, hdev3⟩
        refine OW.val rfl rfl (EX.move rfl) ?_
        refine OW.val rfl rfl (EX.extract rfl rfl) ?_
        refine OW.val rfl rfl (EX.extract rfl rfl) ?_
        refine OW.val rfl rfl (EX.extract rfl rfl) ?_
        refine OW.val rfl rfl (EX.assign rfl) ?_
        refine OW.val rfl rfl (EX.assign rfl) ?_
        refine OW.val rfl rfl (EX.assign rfl) ?_
        refine OW.nil ?_
        refine KW.seq (KW.seq ?_)
        have hz1 := hx1.size
        have x3 : Ext w w3 := Tm.below x2 tm3 x2.size hz1
        have x13 : Ext w1 w3 := Tm.below hx2 tm3 hx2.size (Nat.le_refl _)
        have own3 := tm3.own own2 (by decide)
        obtain ⟨A1', c1', e1, _, sl3⟩ := own3.slice
        cases e1
        have tx3 := tx1.ext x13
        obtain ⟨Am, cm, rfl, _, slm⟩ := ownm.slice
        refine KW.region ?_
        refine OW.val rfl rfl (EX.move rfl) ?_
        refine OW.val rfl rfl (by first | exact EX.neqN (b := 0) rfl rfl | exact EX.neqZ rfl rfl) ?_
        refine OW.val rfl rfl (EX.move rfl) ?_
        refine OW.as 51 (.bool false) rfl (congrArg Value.bool (decide_eq_false (fun q => q rfl))) ?_
        refine OW.val rfl rfl (EX.move rfl) ?_
        refine OW.val rfl rfl (EX.move rfl) ?_
        refine OW.val rfl rfl (by first | exact EX.neqN rfl rfl | exact EX.neqZ rfl rfl) ?_
        refine OW.val rfl rfl (EX.pickF rfl rfl) ?_
        refine OW.val rfl rfl (EX.move rfl) ?_
        refine OW.as 56 (.bool false) rfl (congrArg Value.bool (decide_eq_false (fun q => q rfl))) ?_
        refine OW.val rfl rfl (EX.move rfl) ?_
        refine OW.val rfl rfl (EX.move rfl) ?_
        refine OW.call rfl rfl rfl (same_s P P vsm vs' Am A1 cm c1 w3 _ _ _ _ slm sl3 txm.txs tx3 (by omega) hmb) ?_
        rintro _ w4 ⟨rfl, hx4⟩
        refine OW.val rfl rfl (by first | exact EX.notD rfl | exact EX.notB rfl) ?_
        refine OW.val rfl rfl (EX.pickF rfl rfl) ?_
        refine OW.nil ?_
        have x4 := x3.trans hx4
        refine KW.condD rfl (fun q5 => ?_) (fun q5 => ?_)
        · exact absurd q5 (by simp)
        · refine KW.skip (KW.seq (KW.seq ?_))
          refine KW.region ?_
          refine OW.val rfl rfl (EX.move rfl) ?_
          refine OW.val rfl rfl (EX.move rfl) ?_
          refine OW.val rfl rfl (by first | exact EX.eqlN rfl rfl | exact EX.eqlZ rfl rfl) ?_
          refine OW.val rfl rfl (EX.move rfl) ?_
          refine OW.splitD 65 rfl (fun r1 => ?_) (fun r1 => ?_)
          · refine OW.pass rfl rfl ?_
            refine OW.pass rfl rfl ?_
            refine OW.val rfl rfl (EX.pickT rfl rfl) ?_
            refine OW.val rfl rfl (EX.move rfl) ?_
            refine OW.pass rfl rfl ?_
            refine OW.pass rfl rfl ?_
            refine OW.val rfl rfl (EX.pickT rfl rfl) ?_
            refine OW.nil ?_
            refine KW.condT rfl (KW.seq (KW.region ?_))
            refine OW.call rfl rfl rfl (bye w4 x4) ?_
            rintro _ w5 ⟨rfl, hx5⟩
            refine OW.val rfl rfl (EX.assign rfl) ?_
            refine OW.nil ?_
            refine KW.ret (ret1 rfl rfl ?_)
            exact ⟨rfl, hx5⟩
          · refine OW.val rfl rfl (EX.move rfl) ?_
            refine OW.val rfl rfl (by first | exact EX.lssN (b := 0) rfl rfl | exact EX.lssZ rfl rfl) ?_
            refine OW.val rfl rfl (EX.pickF rfl rfl) ?_
            refine OW.val rfl rfl (EX.move rfl) ?_
            refine OW.splitD 69 rfl (fun r2 => ?_) (fun r2 => ?_)
            · refine OW.pass rfl rfl ?_
              refine OW.pass rfl rfl ?_
              refine OW.val rfl rfl (EX.pickT rfl rfl) ?_
              refine OW.nil ?_
              refine KW.condT rfl (KW.seq (KW.region ?_))
              refine OW.call rfl rfl rfl (bye w4 x4) ?_
              rintro _ w5 ⟨rfl, hx5⟩
              refine OW.val rfl rfl (EX.assign rfl) ?_
              refine OW.nil ?_
              refine KW.ret (ret1 rfl rfl ?_)
              exact ⟨rfl, hx5⟩
            · refine OW.val rfl rfl (EX.move rfl) ?_
              refine OW.val rfl rfl (by first | exact EX.gtrN (b := 4611686018427387904) rfl rfl | exact EX.gtrZ rfl rfl) ?_
              refine OW.val rfl rfl (EX.pickF rfl rfl) ?_
              refine OW.nil ?_
              refine KW.condD rfl (fun r3 => ?_) (fun r3 => ?_)
              · refine KW.seq (KW.region ?_)
                refine OW.call rfl rfl rfl (bye w4 x4) ?_
                rintro _ w5 ⟨rfl, hx5⟩
                refine OW.val rfl rfl (EX.assign rfl) ?_
                refine OW.nil ?_
                refine KW.ret (ret1 rfl rfl ?_)
                exact ⟨rfl, hx5⟩
              · have hbo : ¬ badG other := by unfold badG; omega
                refine KW.skip (KW.seq (KW.region ?_))
                refine OW.val rfl rfl (EX.move rfl) ?_
                refine OW.val rfl rfl (EX.move rfl) ?_
                refine OW.call rfl rfl rfl (replay_o hq3 hsm3 (by omega) hg hgd hbo r1 w1.heap.size b w4 (hdev3.ext hx4)) ?_
                rintro _ w5 ⟨⟨vk, vsk, rfl, ownk, txk⟩, tm5, D5, hq5, hsm5, hdev5⟩
                refine OW.val rfl rfl (EX.move rfl) ?_
                refine OW.val rfl rfl (EX.extract rfl rfl) ?_
                refine OW.val rfl rfl (EX.extract rfl rfl) ?_
                refine OW.val rfl rfl (EX.extract rfl rfl) ?_
                refine OW.val rfl rfl (EX.assign rfl) ?_
                refine OW.val rfl rfl (EX.assign rfl) ?_
                refine OW.val rfl rfl (EX.assign rfl) ?_
                refine OW.nil ?_
                refine KW.seq ?_
                have x5 : Ext w w5 := Tm.below x4 tm5 x4.size hz1
                obtain ⟨Ak, ck, rfl, _, slk⟩ := ownk.slice
                refine KW.region ?_
                refine OW.val rfl rfl (EX.move rfl) ?_
                refine OW.val rfl rfl (by first | exact EX.eqlN (b := 0) rfl rfl | exact EX.eqlZ rfl rfl) ?_
                refine OW.val rfl rfl (EX.move rfl) ?_
                refine OW.as 83 (.bool true) rfl (congrArg Value.bool (decide_eq_true (rfl))) ?_
                refine OW.val rfl rfl (EX.move rfl) ?_
                refine OW.val rfl rfl (by first | exact EX.eqlN (b := 0) rfl rfl | exact EX.eqlZ rfl rfl) ?_
                refine OW.val rfl rfl (EX.pickT rfl rfl) ?_
                refine OW.val rfl rfl (EX.move rfl) ?_
                refine OW.as 87 (.bool true) rfl (congrArg Value.bool (decide_eq_true (rfl))) ?_
                refine OW.val rfl rfl (EX.move rfl) ?_
                refine OW.val rfl rfl (EX.lenA Try.underlying22 rfl) ?_
                refine OW.val rfl rfl (by first | exact EX.eqlN (b := 0) rfl rfl | exact EX.eqlZ rfl rfl) ?_
                refine OW.val rfl rfl (EX.pickT rfl rfl) ?_
                refine OW.val rfl rfl (EX.move rfl) ?_
                refine OW.as 92 (.bool true) rfl (congrArg Value.bool (decide_eq_true (rfl))) ?_
                refine OW.call rfl rfl rfl (bye w5 x5) ?_
                rintro _ w6 ⟨rfl, hx6⟩
                refine OW.val rfl rfl (EX.pickT rfl rfl) ?_
                refine OW.val rfl rfl (EX.assign rfl) ?_
                refine OW.nil ?_
                refine KW.ret (ret1 rfl rfl ?_)
                exact ⟨rfl, hx6⟩
end Go.Proofs.Ytlpnoogcdnfllaa
/- record: records and members among a law's arguments. -/
namespace Go.Proofs.Ytlpnoogcdnfllaa
set_option linter.unnecessarySimpa false
set_option linter.unusedSimpArgs false
open Go.ChangeShapes Go.WideShapes Go.ChangeAt Go.RowKit Go.Deep Rec
set_option linter.unusedVariables false
structure _root_.Go.Proofs.Ytlpnoogcdnfllaa.Rec.R.Ok (x : R) : Prop where
  kind : x.kind ≤ 255
  data : x.data.length ≤ 140737488351232
structure _root_.Go.Proofs.Ytlpnoogcdnfllaa.Rec.M.Wide (m : M) : Prop where
  path : m.path.length ≤ 140737488351232
  sum : m.sum ≤ 4294967295
theorem four {l : List Value} (h : l.length = 4) : ∃ a b c d, l = [a, b, c, d] := by
  match l, h with
  | [a, b, c, d], _ => exact ⟨a, b, c, d, rfl⟩
theorem five {l : List Value} (h : l.length = 5) : ∃ a b c d e, l = [a, b, c, d, e] := by
  match l, h with
  | [a, b, c, d, e], _ => exact ⟨a, b, c, d, e, rfl⟩
section
variable {H : Type} {enc : TypeId × Value → H} {W : World} {base : Nat} {v : Value} {d : DataW H} {p : List MemPlace} {r : Reach} {b0 : Nat}
theorem weight_at {P : Program} {ts : List TypeId} {ds : List (DataW H)} {j : Nat} {t : TypeId} {s : List UInt8} (h : ∀ m ∈ DataW.weightsEach P ts ds, m ≤ reachBytes) (ht : ts[j]? = some t) (hd : ds[j]? = some (.lit (.string s))) : s.length ≤ 140737488351232 :=
  Nat.le_trans (h _ (DataW.weights_mem_each ht hd _ (by simp [DataW.weights]))) (by decide)
set_option maxRecDepth 20000 in
theorem rec_step (n : Nat) (cs : List Value) (x : DataW H × List MemPlace) (h : DataW.trod enc Try.prog W base (fun _ => true) true n 77 cs = some x) (hw : ∀ m ∈ x.1.weights Try.prog 77, m ≤ reachBytes) : ∃ a : R, cs = a.cells ∧ a.Ok := by
  obtain ⟨xs, m, rfl, rfl, hl, hlen, hf⟩ := DataW.trod_struct Try.underlying77 h
  obtain ⟨c0, c1, c2, c3, rfl⟩ := four (hl.trans (by kernel_rfl))
  have g : ∀ i (hi : i < 4), ∃ y, xs[i]? = some y := fun i hi => ⟨_, List.getElem?_eq_getElem (by rw [hlen]; exact hi)⟩
  obtain ⟨y0, e0⟩ := g 0 (by omega)
  obtain ⟨y1, e1⟩ := g 1 (by omega)
  obtain ⟨y2, e2⟩ := g 2 (by omega)
  obtain ⟨y3, e3⟩ := g 3 (by omega)
  have f0 : DataW.trod enc Try.prog W base (fun _ => true) true m 5 ((([c0, c1, c2, c3] : List Value).drop 0).take (Try.prog.cellsOf 5)) = some y0 := (hf 0 _ rfl).trans e0
  have f1 : DataW.trod enc Try.prog W base (fun _ => true) true m 3 ((([c0, c1, c2, c3] : List Value).drop 1).take (Try.prog.cellsOf 3)) = some y1 := (hf 1 _ rfl).trans e1
  have f2 : DataW.trod enc Try.prog W base (fun _ => true) true m 3 ((([c0, c1, c2, c3] : List Value).drop 2).take (Try.prog.cellsOf 3)) = some y2 := (hf 2 _ rfl).trans e2
  have f3 : DataW.trod enc Try.prog W base (fun _ => true) true m 9 ((([c0, c1, c2, c3] : List Value).drop 3).take (Try.prog.cellsOf 9)) = some y3 := (hf 3 _ rfl).trans e3
  rw [show Try.prog.cellsOf 5 = 1 by kernel_rfl] at f0
  rw [show Try.prog.cellsOf 3 = 1 by kernel_rfl] at f1 f2
  rw [show Try.prog.cellsOf 9 = 1 by kernel_rfl] at f3
  simp only [List.drop_zero, List.drop_succ_cons, List.take_succ_cons, List.take_zero] at f0 f1 f2 f3
  obtain ⟨n0, h0, _, w0⟩ := DataW.trod_int Try.underlying5 f0
  obtain ⟨n1, h1, _, w1⟩ := DataW.trod_int Try.underlying3 f1
  obtain ⟨n2, h2, _, w2⟩ := DataW.trod_int Try.underlying3 f2
  obtain ⟨s3, h3, hy3, w3⟩ := DataW.trod_string Try.underlying9 f3
  simp only [List.cons.injEq, and_true] at h0 h1 h2 h3
  obtain ⟨m0, rfl, hm0⟩ := wf_nat rfl w0
  subst h0 h1 h2 h3
  have hd3 : (xs.map (·.1))[3]? = some (.lit (.string s3.data.toList)) := by rw [List.getElem?_map, e3, hy3]; rfl
  have hwe : ∀ k ∈ DataW.weightsEach Try.prog [5, 3, 3, 9] (xs.map (·.1)), k ≤ reachBytes := fun k hk => hw k (by
    simp only [DataW.weights, Try.underlying77]
    exact hk)
  exact ⟨⟨m0, n1, n2, s3.data.toList⟩, rfl, ⟨by simpa [maxN] using hm0, weight_at (j := 3) hwe rfl hd3⟩⟩
set_option maxRecDepth 20000 in
theorem mem_step (n : Nat) (cs : List Value) (x : DataW H × List MemPlace) (h : DataW.trod enc Try.prog W base (fun _ => true) true n 67 cs = some x) (hw : ∀ m ∈ x.1.weights Try.prog 67, m ≤ reachBytes) : ∃ a : M, cs = a.cells ∧ a.Wide := by
  obtain ⟨xs, m, rfl, rfl, hl, hlen, hf⟩ := DataW.trod_struct Try.underlying67 h
  obtain ⟨c0, c1, c2, c3, c4, rfl⟩ := five (hl.trans (by kernel_rfl))
  have g : ∀ i (hi : i < 5), ∃ y, xs[i]? = some y := fun i hi => ⟨_, List.getElem?_eq_getElem (by rw [hlen]; exact hi)⟩
  obtain ⟨y0, e0⟩ := g 0 (by omega)
  obtain ⟨y1, e1⟩ := g 1 (by omega)
  obtain ⟨y2, e2⟩ := g 2 (by omega)
  obtain ⟨y3, e3⟩ := g 3 (by omega)
  obtain ⟨y4, e4⟩ := g 4 (by omega)
  have f0 : DataW.trod enc Try.prog W base (fun _ => true) true m 9 ((([c0, c1, c2, c3, c4] : List Value).drop 0).take (Try.prog.cellsOf 9)) = some y0 := (hf 0 _ rfl).trans e0
  have f1 : DataW.trod enc Try.prog W base (fun _ => true) true m 3 ((([c0, c1, c2, c3, c4] : List Value).drop 1).take (Try.prog.cellsOf 3)) = some y1 := (hf 1 _ rfl).trans e1
  have f2 : DataW.trod enc Try.prog W base (fun _ => true) true m 3 ((([c0, c1, c2, c3, c4] : List Value).drop 2).take (Try.prog.cellsOf 3)) = some y2 := (hf 2 _ rfl).trans e2
  have f3 : DataW.trod enc Try.prog W base (fun _ => true) true m 3 ((([c0, c1, c2, c3, c4] : List Value).drop 3).take (Try.prog.cellsOf 3)) = some y3 := (hf 3 _ rfl).trans e3
  have f4 : DataW.trod enc Try.prog W base (fun _ => true) true m 65 ((([c0, c1, c2, c3, c4] : List Value).drop 4).take (Try.prog.cellsOf 65)) = some y4 := (hf 4 _ rfl).trans e4
  rw [show Try.prog.cellsOf 9 = 1 by kernel_rfl] at f0
  rw [show Try.prog.cellsOf 3 = 1 by kernel_rfl] at f1 f2 f3
  rw [show Try.prog.cellsOf 65 = 1 by kernel_rfl] at f4
  simp only [List.drop_zero, List.drop_succ_cons, List.take_succ_cons, List.take_zero] at f0 f1 f2 f3 f4
  obtain ⟨s0, h0, hy0, w0⟩ := DataW.trod_string Try.underlying9 f0
  obtain ⟨n1, h1, _, w1⟩ := DataW.trod_int Try.underlying3 f1
  obtain ⟨n2, h2, _, w2⟩ := DataW.trod_int Try.underlying3 f2
  obtain ⟨n3, h3, _, w3⟩ := DataW.trod_int Try.underlying3 f3
  obtain ⟨n4, h4, _, w4⟩ := DataW.trod_int Try.underlying65 f4
  simp only [List.cons.injEq, and_true] at h0 h1 h2 h3 h4
  obtain ⟨m4, rfl, hm4⟩ := wf_nat rfl w4
  subst h0 h1 h2 h3 h4
  have hd0 : (xs.map (·.1))[0]? = some (.lit (.string s0.data.toList)) := by rw [List.getElem?_map, e0, hy0]; rfl
  have hwe : ∀ k ∈ DataW.weightsEach Try.prog [9, 3, 3, 3, 65] (xs.map (·.1)), k ≤ reachBytes := fun k hk => hw k (by
    simp only [DataW.weights, Try.underlying67]
    exact hk)
  exact ⟨⟨s0.data.toList, n1, n2, n3, m4⟩, rfl, ⟨weight_at (j := 0) hwe rfl hd0, by simpa [maxN] using hm4⟩⟩
set_option maxRecDepth 20000 in
theorem open_Record (hval : Value.okWide Try.prog W r b0 77 v) (hd : DataW.Trod enc Try.prog W base (fun _ => true) true 77 v d p)
    {ts : List TypeId} {ds : List (DataW H)} (hsz : (DataW.weightsEach Try.prog ts ds).all (· ≤ reachBytes) = true) {j : Nat} (hj : ts[j]? = some 77) (hdj : ds[j]? = some d) : ∃ x : R, v = .agg x.cells.toArray ∧ x.Ok :=
  open_stG R.cells R.Ok Try.underlying77 rec_step hval hd hsz hj hdj
end
end Go.Proofs.Ytlpnoogcdnfllaa
/- record: any member may be, and is laid, as the document says (of bounded bulk). -/
namespace Go.Proofs.Ytlpnoogcdnfllaa
set_option linter.unnecessarySimpa false
open Go.ChangeShapes Go.WideShapes Go.ChangeAt Go.RowKit Go.Deep Rec
set_option linter.unusedVariables false
set_option linter.unusedSimpArgs false

section
variable {H : Type} {enc : TypeId × Value → H} {W : World} {base : Nat} {v : Value} {d : DataW H} {p : List MemPlace} {r : Reach} {b0 : Nat}
set_option maxRecDepth 20000 in
theorem mem_stepU (n : Nat) (cs : List Value) (x : DataW H × List MemPlace) (h : DataW.trod enc Try.prog W base (fun _ => true) true n 67 cs = some x) (hw : Rows.uptoBulk x.1 ≤ 1048576) : ∃ a : M, cs = a.cells ∧ a.Ok := by
  obtain ⟨xs, m, rfl, rfl, hl, hlen, hf⟩ := DataW.trod_struct Try.underlying67 h
  obtain ⟨c0, c1, c2, c3, c4, rfl⟩ := five (hl.trans (by kernel_rfl))
  have g : ∀ i (hi : i < 5), ∃ y, xs[i]? = some y := fun i hi => ⟨_, List.getElem?_eq_getElem (by rw [hlen]; exact hi)⟩
  obtain ⟨y0, e0⟩ := g 0 (by omega)
  obtain ⟨y1, e1⟩ := g 1 (by omega)
  obtain ⟨y2, e2⟩ := g 2 (by omega)
  obtain ⟨y3, e3⟩ := g 3 (by omega)
  obtain ⟨y4, e4⟩ := g 4 (by omega)
  have f0 : DataW.trod enc Try.prog W base (fun _ => true) true m 9 ((([c0, c1, c2, c3, c4] : List Value).drop 0).take (Try.prog.cellsOf 9)) = some y0 := (hf 0 _ rfl).trans e0
  have f1 : DataW.trod enc Try.prog W base (fun _ => true) true m 3 ((([c0, c1, c2, c3, c4] : List Value).drop 1).take (Try.prog.cellsOf 3)) = some y1 := (hf 1 _ rfl).trans e1
  have f2 : DataW.trod enc Try.prog W base (fun _ => true) true m 3 ((([c0, c1, c2, c3, c4] : List Value).drop 2).take (Try.prog.cellsOf 3)) = some y2 := (hf 2 _ rfl).trans e2
  have f3 : DataW.trod enc Try.prog W base (fun _ => true) true m 3 ((([c0, c1, c2, c3, c4] : List Value).drop 3).take (Try.prog.cellsOf 3)) = some y3 := (hf 3 _ rfl).trans e3
  have f4 : DataW.trod enc Try.prog W base (fun _ => true) true m 65 ((([c0, c1, c2, c3, c4] : List Value).drop 4).take (Try.prog.cellsOf 65)) = some y4 := (hf 4 _ rfl).trans e4
  rw [show Try.prog.cellsOf 9 = 1 by kernel_rfl] at f0
  rw [show Try.prog.cellsOf 3 = 1 by kernel_rfl] at f1 f2 f3
  rw [show Try.prog.cellsOf 65 = 1 by kernel_rfl] at f4
  simp only [List.drop_zero, List.drop_succ_cons, List.take_succ_cons, List.take_zero] at f0 f1 f2 f3 f4
  obtain ⟨s0, h0, hy0, w0⟩ := DataW.trod_string Try.underlying9 f0
  obtain ⟨n1, h1, _, w1⟩ := DataW.trod_int Try.underlying3 f1
  obtain ⟨n2, h2, _, w2⟩ := DataW.trod_int Try.underlying3 f2
  obtain ⟨n3, h3, _, w3⟩ := DataW.trod_int Try.underlying3 f3
  obtain ⟨n4, h4, _, w4⟩ := DataW.trod_int Try.underlying65 f4
  simp only [List.cons.injEq, and_true] at h0 h1 h2 h3 h4
  obtain ⟨m4, rfl, hm4⟩ := wf_nat rfl w4
  subst h0 h1 h2 h3 h4
  refine ⟨⟨s0.data.toList, n1, n2, n3, m4⟩, rfl, ⟨?_, by simpa [maxN] using hm4⟩⟩
  match xs, e0 with
  | y :: xs, e0 =>
    simp only [List.getElem?_cons_zero, Option.some.injEq] at e0
    rw [e0, hy0] at hw
    simp only [List.map_cons, Rows.uptoBulk, Rows.uptoBulkAll] at hw
    show s0.data.toList.length ≤ 1000000000000
    omega
set_option maxRecDepth 20000 in
theorem openU_Member (hval : Value.okWide Try.prog W r b0 67 v) (hd : DataW.Trod enc Try.prog W base (fun _ => true) true 67 v d p) (hb : Rows.uptoBulk d ≤ 1048576) : ∃ m : M, v = .agg m.cells.toArray ∧ m.Ok := by
  obtain ⟨⟨l⟩, rfl, hs⟩ := okWide_struct Try.underlying67 hval
  obtain ⟨fuel, hf⟩ := hd
  obtain ⟨a, h1, h2⟩ := mem_stepU fuel _ _ hf hb
  simp only [Value.cells] at h1
  exact ⟨a, by rw [← h1], h2⟩
end
end Go.Proofs.Ytlpnoogcdnfllaa
/- wal: lists of transactions among a law's arguments (of bounded bulk). -/
namespace Go.Proofs.Ytlpnoogcdnfllaa
set_option linter.unnecessarySimpa false
open Go.ChangeShapes Go.WideShapes Go.ChangeAt Go.RowKit Go.Deep Rec Wal
set_option linter.unusedVariables false
set_option linter.unusedSimpArgs false
theorem six {l : List Value} (h : l.length = 6) : ∃ a b c d e f, l = [a, b, c, d, e, f] := by
  match l, h with
  | [a, b, c, d, e, f], _ => exact ⟨a, b, c, d, e, f, rfl⟩
section
variable {H : Type} {enc : TypeId × Value → H} {W : World} {base : Nat} {v : Value} {d : DataW H} {p : List MemPlace} {r : Reach} {b0 : Nat}
set_option maxRecDepth 20000 in
theorem note_stepU (n : Nat) (cs : List Value) (x : DataW H × List MemPlace) (h : DataW.trod enc Try.prog W base (fun _ => true) true n 69 cs = some x) (hw : Rows.uptoBulk x.1 ≤ 1048576) : ∃ a : Nt, cs = a.cells ∧ a.mem.Ok := by
  obtain ⟨xs, m, rfl, rfl, hl, hlen, hf⟩ := DataW.trod_struct Try.underlying69 h
  obtain ⟨c0, c1, c2, c3, c4, c5, rfl⟩ := six (hl.trans (by kernel_rfl))
  have g : ∀ i (hi : i < 2), ∃ y, xs[i]? = some y := fun i hi => ⟨_, List.getElem?_eq_getElem (by rw [hlen]; exact hi)⟩
  obtain ⟨y0, e0⟩ := g 0 (by omega)
  obtain ⟨y1, e1⟩ := g 1 (by omega)
  have f0 : DataW.trod enc Try.prog W base (fun _ => true) true m 3 ((([c0, c1, c2, c3, c4, c5] : List Value).drop 0).take (Try.prog.cellsOf 3)) = some y0 := (hf 0 _ rfl).trans e0
  have f1 : DataW.trod enc Try.prog W base (fun _ => true) true m 67 ((([c0, c1, c2, c3, c4, c5] : List Value).drop 1).take (Try.prog.cellsOf 67)) = some y1 := (hf 1 _ rfl).trans e1
  rw [show Try.prog.cellsOf 3 = 1 by kernel_rfl] at f0
  rw [show Try.prog.cellsOf 67 = 5 by kernel_rfl] at f1
  simp only [List.drop_zero, List.drop_succ_cons, List.take_succ_cons, List.take_zero] at f0 f1
  obtain ⟨n0, h0, _, w0⟩ := DataW.trod_int Try.underlying3 f0
  have hb : Rows.uptoBulk y1.1 ≤ 1048576 := by
    match xs, e1 with
    | z0 :: z1 :: xs, e1 =>
      simp only [List.getElem?_cons_succ, List.getElem?_cons_zero, Option.some.injEq] at e1
      subst e1
      simp only [List.map_cons, Rows.uptoBulk, Rows.uptoBulkAll] at hw
      omega
  obtain ⟨a, h1, h2⟩ := mem_stepU m _ _ f1 hb
  simp only [List.cons.injEq, and_true] at h0
  subst h0
  exact ⟨⟨n0, a⟩, by rw [h1]; rfl, h2⟩
instance : Inhabited Nt := ⟨⟨0, bare []⟩⟩
theorem bulk_memO : ∀ {es : List (DataW H)} {x : DataW H}, x ∈ es → Rows.uptoBulk x ≤ Rows.uptoBulkAll es
  | y :: es, x, h => by
    simp only [Rows.uptoBulkAll]
    rcases List.mem_cons.1 h with rfl | h
    · omega
    · have := bulk_memO h; omega
def slCell (a : List Nt × Option Addr × Nat) : List Value := [.slice a.2.1 a.1.length a.2.2]
theorem txs_of : ∀ (l : List (List Nt × Option Addr × Nat)), (∀ a ∈ l, Sl W W.heap.size a.2.1 (ntsV a.1)) → TxS W W.heap.size (l.flatMap slCell) (l.map (·.1))
  | [], _ => trivial
  | a :: l, h => ⟨⟨_, _, rfl, h a (by simp)⟩, txs_of l (fun x hx => h x (by simp [hx]))⟩
set_option maxRecDepth 20000 in
theorem openUs_Note (hval : Value.okWide Try.prog W r b0 22 v) (hd : DataW.Trod enc Try.prog W base (fun _ => true) true 22 v d p)
    {ts : List TypeId} {ds : List (DataW H)} (hsz : (DataW.weightsEach Try.prog ts ds).all (· ≤ reachBytes) = true) {j : Nat} (hj : ts[j]? = some 22) (hdj : ds[j]? = some d) (hb : Rows.uptoBulk d ≤ 1048576) :
    ∃ (ls : List (List Nt)) (A : Option Addr) (cap : Nat), v = .slice A ls.length cap ∧ TxsOk ls ∧ TxsAt W W.heap.size A ls := by
  obtain ⟨l, A, cap, h1, h2, _, _, _, h3⟩ := open_slG (α := List Nt × Option Addr × Nat) slCell (fun a => (a.1.length ≤ 140737488355328 ∧ ∀ n ∈ a.1, n.mem.Ok) ∧ Sl W W.heap.size a.2.1 (ntsV a.1)) (c := 1) (fun _ => rfl) Try.underlying22 (by kernel_rfl) (fun n cs x hx hw hm => by
    obtain ⟨es, sp, rfl, hm⟩ := hm
    have q1 := bulk_memO hm
    simp only [Rows.uptoBulk] at hb
    obtain ⟨l, A, cap, e1, e2, _, e3, _, e4⟩ := nest_slM (α := Nt) Nt.cells (fun n => n.mem.Ok) (c := 6) (fun _ => rfl) Try.underlying48 (by kernel_rfl) (fun n cs y hy _ hm2 => note_stepU n cs y hy (by
      obtain ⟨es2, sp2, e5, hm2⟩ := hm2
      have q2 := bulk_memO hm2
      rw [e5] at q1
      simp only [Rows.uptoBulk] at q1
      omega)) hx hw
    rw [show Try.prog.bytesOf 69 = 56 by kernel_rfl] at e3
    simp only [reachBytes] at e3
    exact ⟨(l, A, cap), e1, ⟨by show l.length ≤ _; omega, e2⟩, e4⟩) hval hd hsz hj hdj
  refine ⟨l.map (·.1), A, cap, by rw [List.length_map]; exact h1, ?_, _, h3, txs_of l (fun a ha => (h2 a ha).2)⟩
  intro x hx
  obtain ⟨a, ha, rfl⟩ := List.mem_map.1 hx
  exact (h2 a ha).1
end
end Go.Proofs.Ytlpnoogcdnfllaa
/- wal: acts among a law's arguments (of bounded bulk). -/
namespace Go.Proofs.Ytlpnoogcdnfllaa
set_option linter.unnecessarySimpa false
open Go.ChangeShapes Go.WideShapes Go.ChangeAt Go.RowKit Go.Deep Rec Wal
set_option linter.unusedVariables false
set_option linter.unusedSimpArgs false
section
variable {H : Type} {enc : TypeId × Value → H} {W : World} {base : Nat} {v : Value} {d : DataW H} {p : List MemPlace} {r : Reach} {b0 : Nat}
set_option maxRecDepth 20000 in
theorem notes_stepU (n0 : Nat) (cs0 : List Value) (x0 : DataW H × List MemPlace) (hx : DataW.trod enc Try.prog W base (fun _ => true) true n0 48 cs0 = some x0) (hw : ∀ m ∈ x0.1.weights Try.prog 48, m ≤ reachBytes) (hb : Rows.uptoBulk x0.1 ≤ 1048576) :
    ∃ (l : List Nt) (A : Option Addr) (cap : Nat), cs0 = [.slice A l.length cap] ∧ l.length ≤ 140737488355328 ∧ (∀ n ∈ l, n.mem.Ok) ∧ Sl W W.heap.size A (ntsV l) := by
  obtain ⟨l, A, cap, e1, e2, _, e3, _, e4⟩ := nest_slM (α := Nt) Nt.cells (fun n => n.mem.Ok) (c := 6) (fun _ => rfl) Try.underlying48 (by kernel_rfl) (fun n cs y hy _ hm2 => note_stepU n cs y hy (by
    obtain ⟨es2, sp2, e5, hm2⟩ := hm2
    have q2 := bulk_memO hm2
    rw [e5] at hb
    simp only [Rows.uptoBulk] at hb
    omega)) hx hw
  rw [show Try.prog.bytesOf 69 = 56 by kernel_rfl] at e3
  simp only [reachBytes] at e3
  exact ⟨l, A, cap, e1, by omega, e2, e4⟩
set_option maxRecDepth 20000 in
theorem act_stepU (n : Nat) (cs : List Value) (x : DataW H × List MemPlace) (h : DataW.trod enc Try.prog W base (fun _ => true) true n 56 cs = some x) (hw : ∀ m ∈ x.1.weights Try.prog 56, m ≤ reachBytes) (hb : Rows.uptoBulk x.1 ≤ 1048576) : ∃ a : Wa, cs = a.cells ∧ a.Ok ∧ a.At W W.heap.size := by
  obtain ⟨xs, m, rfl, rfl, hl, hlen, hf⟩ := DataW.trod_struct Try.underlying56 h
  obtain ⟨c0, c1, c2, c3, c4, c5, rfl⟩ := six (hl.trans (by kernel_rfl))
  have g : ∀ i (hi : i < 5), ∃ y, xs[i]? = some y := fun i hi => ⟨_, List.getElem?_eq_getElem (by rw [hlen]; exact hi)⟩
  obtain ⟨y0, e0⟩ := g 0 (by omega)
  obtain ⟨y1, e1⟩ := g 1 (by omega)
  obtain ⟨y2, e2⟩ := g 2 (by omega)
  obtain ⟨y3, e3⟩ := g 3 (by omega)
  obtain ⟨y4, e4⟩ := g 4 (by omega)
  have f0 : DataW.trod enc Try.prog W base (fun _ => true) true m 3 ((([c0, c1, c2, c3, c4, c5] : List Value).drop 0).take (Try.prog.cellsOf 3)) = some y0 := (hf 0 _ rfl).trans e0
  have f1 : DataW.trod enc Try.prog W base (fun _ => true) true m 3 ((([c0, c1, c2, c3, c4, c5] : List Value).drop 1).take (Try.prog.cellsOf 3)) = some y1 := (hf 1 _ rfl).trans e1
  have f2 : DataW.trod enc Try.prog W base (fun _ => true) true m 4 ((([c0, c1, c2, c3, c4, c5] : List Value).drop 2).take (Try.prog.cellsOf 4)) = some y2 := (hf 2 _ rfl).trans e2
  have f3 : DataW.trod enc Try.prog W base (fun _ => true) true m 48 ((([c0, c1, c2, c3, c4, c5] : List Value).drop 3).take (Try.prog.cellsOf 48)) = some y3 := (hf 3 _ rfl).trans e3
  have f4 : DataW.trod enc Try.prog W base (fun _ => true) true m 45 ((([c0, c1, c2, c3, c4, c5] : List Value).drop 4).take (Try.prog.cellsOf 45)) = some y4 := (hf 4 _ rfl).trans e4
  rw [show Try.prog.cellsOf 3 = 1 by kernel_rfl] at f0 f1
  rw [show Try.prog.cellsOf 4 = 1 by kernel_rfl] at f2
  rw [show Try.prog.cellsOf 48 = 1 by kernel_rfl] at f3
  rw [show Try.prog.cellsOf 45 = 2 by kernel_rfl] at f4
  simp only [List.drop_zero, List.drop_succ_cons, List.take_succ_cons, List.take_zero] at f0 f1 f2 f3 f4
  obtain ⟨n0, h0, _, w0⟩ := DataW.trod_int Try.underlying3 f0
  obtain ⟨n1, h1, _, w1⟩ := DataW.trod_int Try.underlying3 f1
  obtain ⟨q2, h2, _⟩ := DataW.trod_bool Try.underlying4 f2
  have hd3 : (xs.map (·.1))[3]? = some y3.1 := by rw [List.getElem?_map, e3]; rfl
  have hd4 : (xs.map (·.1))[4]? = some y4.1 := by rw [List.getElem?_map, e4]; rfl
  have hwe : ∀ k ∈ DataW.weightsEach Try.prog [3, 3, 4, 48, 45] (xs.map (·.1)), k ≤ reachBytes := fun k hk => hw k (by
    simp only [DataW.weights, Try.underlying56]
    exact hk)
  have hb3 : Rows.uptoBulk y3.1 ≤ 1048576 := by
    have q := bulk_memO (List.mem_of_getElem? hd3)
    simp only [Rows.uptoBulk] at hb
    omega
  obtain ⟨l, nA, nk, h3, hl3, ho3, hs3⟩ := notes_stepU m _ _ f3 (fun k hk => hwe k (DataW.weights_mem_each (j := 3) rfl hd3 _ hk)) hb3
  obtain ⟨fl, h4, hf4⟩ := fall_step m _ _ f4 (fun k hk => hwe k (DataW.weights_mem_each (j := 4) rfl hd4 _ hk))
  simp only [List.cons.injEq, and_true] at h0 h1 h2 h3
  subst h0 h1 h2 h3
  obtain ⟨fa, ks, kA, kk⟩ := fl
  simp only [Fl.cells, List.cons.injEq, and_true] at h4
  obtain ⟨rfl, rfl⟩ := h4
  exact ⟨⟨n0, n1, q2, l, nA, nk, fa, ks, kA, kk⟩, rfl, ⟨wf_int w0, wf_int w1, hl3, ho3, hf4.at_, hf4.nil, hf4.len⟩, ⟨hs3, hf4.sl⟩⟩
instance : Inhabited Wa := ⟨⟨0, 0, false, [], none, 0, 0, [], none, 0⟩⟩
set_option maxRecDepth 20000 in
theorem openUs_Act (hval : Value.okWide Try.prog W r b0 52 v) (hd : DataW.Trod enc Try.prog W base (fun _ => true) true 52 v d p)
    {ts : List TypeId} {ds : List (DataW H)} (hsz : (DataW.weightsEach Try.prog ts ds).all (· ≤ reachBytes) = true) {j : Nat} (hj : ts[j]? = some 52) (hdj : ds[j]? = some d) (hb : Rows.uptoBulk d ≤ 1048576) :
    ∃ (l : List Wa) (A : Option Addr) (cap : Nat), v = .slice A l.length cap ∧ (∀ a ∈ l, a.Ok) ∧ WasAt W W.heap.size A l := by
  obtain ⟨l, A, cap, h1, h2, _, _, _, h3⟩ := open_slG (α := Wa) Wa.cells (fun a => a.Ok ∧ a.At W W.heap.size) (c := 6) (fun _ => rfl) Try.underlying52 (by kernel_rfl) (fun n cs x hx hw hm => act_stepU n cs x hx hw (by
    obtain ⟨es, sp, rfl, hm⟩ := hm
    have q1 := bulk_memO hm
    simp only [Rows.uptoBulk] at hb
    omega)) hval hd hsz hj hdj
  exact ⟨l, A, cap, h1, fun a ha => (h2 a ha).1, Nat.le_refl _, h3, fun a ha => (h2 a ha).2⟩
end
end Go.Proofs.Ytlpnoogcdnfllaa
