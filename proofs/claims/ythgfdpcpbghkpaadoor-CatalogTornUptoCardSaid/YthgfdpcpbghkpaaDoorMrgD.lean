/-
  What the statements rest on, part 4 of 4: many small texts, one behind the other.
-/
import Derived.Test.YthgfdpcpbghkpaaDoorMrgC
import Derived.ProofKit
import Derived.OpenShut
import Derived.ShutString
import Derived.SizedLaws
import Derived.SliceStrings
import Derived.Deep.Slices
import Derived.Deep.Grids
set_option linter.unusedSimpArgs false
set_option linter.unusedVariables false
set_option linter.unnecessarySimpa false
namespace Go.Proofs.YthgfdpcpbghkpaaDoor
open Go.RowKit Pth Rec Srt Cat
theorem memberT_ne (m : M) : memberT m ≠ [] := fun e => by
  have := congrArg List.length e
  rw [memberT_length] at this
  simp at this
theorem encC_bad {gen : Int} {l : List M} (h : gen < 0 ∨ 4611686018427387904 < gen ∨ chkC l 4096 ≠ 0) : encC gen l = ([], 230) := encC_no fun q => by
  have h1 := q.low
  have h2 := q.high
  have h3 := chkC_ok q.chk
  omega
theorem okE_of {gen : Int} {l : List M} (h1 : ¬ gen < 0) (h2 : ¬ 4611686018427387904 < gen) (h3 : chkC l 4096 = 0) : OkE gen l := by
  refine ⟨by omega, by omega, Classical.byContradiction fun q => ?_⟩
  rw [chkC_no q] at h3
  cases h3
def out5 (gen : Int) (s : List UInt8) (i : Nat) : List Value := (List.range 5).map fun j => if j < i then str (sec5 gen s j) else str []
theorem out5_len (gen : Int) (s : List UInt8) (i : Nat) : (out5 gen s i).length = 5 := by simp [out5]
theorem out5_set (gen : Int) (s : List UInt8) {i : Nat} (hi : i < 5) : (out5 gen s i).set i (str (sec5 gen s i)) = out5 gen s (i + 1) := by
  apply List.ext_getElem?
  intro j
  rw [List.getElem?_set, out5_len]
  by_cases hj : j < 5
  · by_cases e : i = j
    · subst e
      rw [if_pos rfl, if_pos hi]
      simp [out5, hi]
    · rw [if_neg e]
      simp only [out5, List.getElem?_map, List.getElem?_range hj, Option.map_some]
      congr 1
      by_cases q : j < i
      · rw [if_pos q, if_pos (by omega)]
      · rw [if_neg q, if_neg (by omega)]
  · rw [List.getElem?_eq_none (by rw [out5_len]; omega)]
    by_cases e : i = j
    · omega
    · rw [if_neg e, List.getElem?_eq_none (by rw [out5_len]; omega)]
theorem out5_done (gen : Int) (s : List UInt8) : out5 gen s 5 = txtsV (sect5 gen s) := by
  unfold out5 txtsV sect5
  rw [List.map_map]
  apply List.map_congr_left
  intro j hj
  rw [if_pos (List.mem_range.1 hj)]
  rfl
set_option maxRecDepth 20000 in
theorem encode23_s (gen : Int) (l : List M) (hok : ∀ m ∈ l, m.Ok) (hl : l.length ≤ 140737488355328) (A : Option Addr) (c B : Nat) (w : World) (hG : MLen w) (hs : Sl w B A (memsV l)) :
    Ret Tryd.prog 5 [.int .i64 gen, .slice A l.length c] w fun v w' => (∃ u, v = .tuple #[u, .int .i64 (((encC gen l).2 : Nat) : Int)] ∧ Own w' w.heap.size 9 1 u (encC gen l).1.length (txtsV (encC gen l).1)) ∧ Ext w w' := by
  have bad : (gen < 0 ∨ 4611686018427387904 < gen ∨ chkC l 4096 ≠ 0) → ∀ w', Ext w w' → (∃ u, (Value.tuple #[.slice none 0 0, .int .i64 230]) = .tuple #[u, .int .i64 (((encC gen l).2 : Nat) : Int)] ∧ Own w' w.heap.size 9 1 u (encC gen l).1.length (txtsV (encC gen l).1)) ∧ Ext w w' := fun h w' hx => by
    rw [encC_bad h]
    exact ⟨⟨_, rfl, Own.nil _ _ _ _⟩, hx⟩
  refine Ret.enter Tryd.func5 rfl Tryd.ntmps5 (by kernel_rfl) rfl ?_
  refine KW.seq (KW.region ?_)
  refine OW.val rfl rfl (EX.assign rfl) ?_
  refine OW.val rfl rfl (EX.assign rfl) ?_
  refine OW.nil ?_
  refine KW.seq (KW.seq ?_)
  refine KW.region ?_
  refine OW.val rfl rfl (EX.move rfl) ?_
  refine OW.val rfl rfl (by first | exact EX.lssN (b := 0) rfl rfl | exact EX.lssZ rfl rfl) ?_
  refine OW.val rfl rfl (EX.move rfl) ?_
  refine OW.splitD 17 rfl (fun h1 => ?_) (fun h1 => ?_)
  · refine OW.pass rfl rfl ?_
    refine OW.pass rfl rfl ?_
    refine OW.val rfl rfl (EX.pickT rfl rfl) ?_
    refine OW.val rfl rfl (EX.move rfl) ?_
    refine OW.pass rfl rfl ?_
    refine OW.pass rfl rfl ?_
    refine OW.pass rfl rfl ?_
    refine OW.val rfl rfl (EX.pickT rfl rfl) ?_
    refine OW.nil ?_
    refine KW.condT rfl (KW.seq (KW.region ?_))
    refine OW.val rfl rfl (EX.assign rfl) ?_
    refine OW.val rfl rfl (EX.assign rfl) ?_
    refine OW.nil ?_
    refine KW.ret (ret2 rfl rfl rfl ?_)
    exact bad (.inl h1) w (Ext.refl _)
  · refine OW.val rfl rfl (EX.move rfl) ?_
    refine OW.val rfl rfl (by first | exact EX.gtrN (b := 4611686018427387904) rfl rfl | exact EX.gtrZ rfl rfl) ?_
    refine OW.val rfl rfl (EX.pickF rfl rfl) ?_
    refine OW.val rfl rfl (EX.move rfl) ?_
    refine OW.splitD 21 rfl (fun h2 => ?_) (fun h2 => ?_)
    · refine OW.pass rfl rfl ?_
      refine OW.pass rfl rfl ?_
      refine OW.pass rfl rfl ?_
      refine OW.val rfl rfl (EX.pickT rfl rfl) ?_
      refine OW.nil ?_
      refine KW.condT rfl (KW.seq (KW.region ?_))
      refine OW.val rfl rfl (EX.assign rfl) ?_
      refine OW.val rfl rfl (EX.assign rfl) ?_
      refine OW.nil ?_
      refine KW.ret (ret2 rfl rfl rfl ?_)
      exact bad (.inr (.inl h2)) w (Ext.refl _)
    · refine OW.val rfl rfl (EX.move rfl) ?_
      refine OW.call rfl rfl rfl (chk_s l hok hl 4096 A c B w hG hs) ?_
      rintro _ w1 ⟨rfl, hx1⟩
      refine OW.val rfl rfl (by first | exact EX.neqN (b := 0) rfl rfl | exact EX.neqZ rfl rfl) ?_
      refine OW.val rfl rfl (EX.pickF rfl rfl) ?_
      refine OW.nil ?_
      refine KW.condD rfl (fun h3 => ?_) (fun h3 => ?_)
      · refine KW.seq (KW.region ?_)
        refine OW.val rfl rfl (EX.assign rfl) ?_
        refine OW.val rfl rfl (EX.assign rfl) ?_
        refine OW.nil ?_
        refine KW.ret (ret2 rfl rfl rfl ?_)
        exact bad (.inr (.inr (fun q => h3 (by omega)))) w1 hx1
      · have hE : OkE gen l := okE_of h1 h2 (Decidable.byContradiction fun q => h3 (by omega))
        have hall := okE_len hE
        have hmay := hE.chk.may
        have hll := hE.chk.len
        have htake : ∀ i, (allT (l.take i)).length ≤ 2096 := fun i => by
          have h4 := allT_len (l.take i) (fun m hm => hmay m (List.mem_of_mem_take hm))
          rw [List.length_take] at h4
          omega
        rw [encC_ok hE]
        refine KW.skip (KW.seq (KW.region ?_))
        refine OW.allocB (l := [.pointer none, .slice none 0 0]) rfl rfl ti47 rfl ?_
        rintro bb w2 hge2 hb2 hx2
        refine OW.nil ?_
        refine KW.seq (KW.seq (KW.region ?_))
        refine OW.val rfl rfl (EX.move rfl) ?_
        refine OW.val rfl rfl (EX.lenA Tryd.underlying22 rfl) ?_
        refine OW.val rfl rfl (EX.move rfl) ?_
        refine OW.nil ?_
        have hbd2 := Bd.new (B := w.heap.size) (by have := hx1.size; omega) hb2
        have x2 := hx1.trans hx2
        refine KW.cut1 (fun (wr : World) => Bd wr w.heap.size bb (allT l) ∧ Ext w wr) (fun (wr : World) => [(0, .int .i64 gen), (6, .pointer (some ⟨bb, 0, none⟩))]) (fun (wr : World) => wr) ?_ ?_
        · refine KW.block ?_
          refine KW.loop2 (fun (i : Nat) (wr : World) => i ≤ l.length ∧ Bd wr w.heap.size bb (allT (l.take i)) ∧ Ext w wr) (fun (i : Nat) (wr : World) => [(0, .int .i64 gen), (6, .pointer (some ⟨bb, 0, none⟩)), (26, .slice A l.length c), (27, .int .i64 ((l.length : Nat) : Int)), (28, .int .i64 ((i : Nat) : Int))]) (fun (i : Nat) (wr : World) => wr) (fun (i : Nat) (wr : World) => l.length - i) (0) (w2) ⟨rfl, rfl, rfl, rfl, rfl, trivial⟩ rfl ?_ ?_
          · exact ⟨Nat.zero_le _, hbd2, x2⟩
          · rintro i wr ⟨hi, hbd, hx⟩
            have ht1 := htake i
            have ht2 := htake (i + 1)
            refine KW.seq (KW.region ?_)
            refine OW.val rfl rfl (by first | exact EX.lssN rfl rfl | exact EX.lssZ rfl rfl) ?_
            refine OW.nil ?_
            refine KW.seq ?_
            refine KW.condD rfl (fun hlt => ?_) (fun hlt => ?_)
            · obtain ⟨b, o, rfl, _, hcell⟩ := (hs.ext hx).flat (i := i) (c := 5) (fun _ => rfl) (by decide) hlt
              have hsn : l.take (i + 1) = l.take i ++ [l[i]] := (List.take_append_getElem hlt).symm
              have hmo := hok l[i] (List.getElem_mem hlt)
              have hmm := hmay l[i] (List.getElem_mem hlt)
              generalize l[i] = m at hcell hsn hmo hmm
              have hcs : allT (l.take (i + 1)) = allT (l.take i) ++ memberT m := by rw [hsn, allT_snoc]
              rw [hcs, List.length_append] at ht2
              refine KW.skip (KW.seq (KW.block (KW.seq (KW.region ?_))))
              refine OW.val rfl rfl (EX.indexAddrS Tryd.underlying22 ti50 rfl rfl (by omega)) ?_
              refine OW.val rfl rfl (EX.loadA (l := m.cells) Tryd.underlying50 rfl ti50 rfl rfl hcell) ?_
              refine OW.allocB (l := [str [], .int .i64 0, .int .i64 0, .int .i64 0, .int .u32 0]) rfl rfl ti50 rfl ?_
              rintro mb w3 hge3 hb3 hx3
              refine OW.storeS rfl ti50 rfl rfl rfl (by first | rfl | (simp only [List.all_cons, List.all_nil, Bool.and_true, Bool.true_and, Bool.and_eq_true, Value.oneCell']; repeat (first | assumption | exact Own.one (by assumption) | constructor))) (hb3) (Nat.le_refl _) ?_
              rintro w4 hb4 hm4
              refine OW.nil ?_
              refine KW.seq (KW.region ?_)
              replace hb4 : Bk w4 mb 50 m.cells := hb4
              have x4 : Ext wr w4 := below_mo hx3 hm4 hx3.size (fun k hk => by simp at hk; omega)
              have cm := member_s m hmo w4
              rw [show memberM m = (memberT m, 0) by unfold memberM; rw [if_pos hmm]] at cm
              simp only at cm
              refine OW.val rfl rfl (EX.loadBk Tryd.underlying50 rfl ti50 rfl (hb4) (rfl)) ?_
              refine OW.call rfl rfl rfl (cm) ?_
              rintro _ w5 ⟨rfl, hx5⟩
              refine OW.val rfl rfl (EX.move rfl) ?_
              refine OW.val rfl rfl (EX.extract rfl rfl) ?_
              refine OW.val rfl rfl (EX.extract rfl rfl) ?_
              refine OW.val rfl rfl (EX.assign rfl) ?_
              refine OW.val rfl rfl (EX.assign rfl) ?_
              refine OW.nil ?_
              refine KW.region ?_
              refine OW.val rfl rfl (EX.move rfl) ?_
              have x5 := (hx.trans x4).trans hx5
              refine OW.call rfl rfl rfl (writeString_b w.heap.size bb (allT (l.take i)) (memberT m) w5 ((hbd.ext x4).ext hx5) (memberT_ne m) (by omega) x5.size) ?_
              rintro _ w6 ⟨⟨q, rfl⟩, hbd6, hbl6⟩
              refine OW.nil ?_
              refine KW.leave (KW.region ?_)
              refine OW.val rfl rfl (by first | exact EX.addN (b := 1) (m := 9223372036854775807) rfl rfl rfl (by omega) | exact EX.addZ (m := 9223372036854775807) rfl rfl rfl rfl (by omega)) ?_
              refine OW.val rfl rfl (EX.move rfl) ?_
              refine OW.nil ?_
              rw [← hcs] at hbd6
              refine KW.back2 (i + 1) (w6) ⟨rfl, rfl, rfl, rfl, rfl, trivial⟩ rfl ?_ (by omega)
              exact ⟨by omega, hbd6, Below.trans x5 hbl6⟩
            · obtain rfl : i = l.length := by omega
              rw [List.take_length] at hbd
              refine KW.exit rfl ?_
              refine KW.meet1 (wr) ⟨rfl, rfl, trivial⟩ rfl ?_
              exact ⟨hbd, hx⟩
        · rintro wr ⟨hbd, hx⟩
          refine KW.seq (KW.region ?_)
          refine OW.call rfl rfl rfl (bstring_b w.heap.size bb (allT l) wr hbd (by omega) hx.size) ?_
          rintro _ w3 ⟨rfl, hbl3⟩
          refine OW.val rfl rfl (EX.assign rfl) ?_
          refine OW.nil ?_
          refine KW.seq (KW.region ?_)
          have x3 : Ext w w3 := Below.trans hx hbl3
          generalize allT l = s at hall
          refine OW.makeB (len := 5) rfl rfl Tryd.underlying23 ti9 rfl rfl rfl (by omega) (by omega) ?_
          rintro ob w4 hge4 hb4 hx4
          refine OW.val rfl rfl (EX.assign rfl) ?_
          refine OW.nil ?_
          refine KW.seq (KW.seq (KW.region ?_))
          refine OW.val rfl rfl (EX.move rfl) ?_
          refine OW.nil ?_
          refine KW.block ?_
          have x4 := x3.trans hx4
          replace hb4 : Bk w4 ob 9 (out5 gen s 0) := hb4
          have hog : w.heap.size ≤ ob := by have := x3.size; omega
          refine KW.loop2 (fun (i : Nat) (wr : World) => i ≤ 5 ∧ Bk wr ob 9 (out5 gen s i) ∧ Ext w wr) (fun (i : Nat) (wr : World) => [(0, .int .i64 gen), (11, str ((s.drop (486 * i)))), (12, .slice (some ⟨ob, 0, none⟩) 5 5), (42, .int .i64 ((i : Nat) : Int))]) (fun (i : Nat) (wr : World) => wr) (fun (i : Nat) (wr : World) => 5 - i) (0) (w4) ⟨rfl, rfl, rfl, rfl, trivial⟩ rfl ?_ ?_
          · exact ⟨Nat.zero_le _, hb4, x4⟩
          · rintro i wr ⟨hi, hob, hx⟩
            refine KW.seq (KW.region ?_)
            refine OW.val rfl rfl (by first | exact EX.lssN (b := 5) rfl rfl | exact EX.lssZ rfl rfl) ?_
            refine OW.nil ?_
            refine KW.seq ?_
            refine KW.condD rfl (fun hlt => ?_) (fun hlt => ?_)
            · have ce := fun w => encode_s 4 (by decide) gen i (piece s i) (by have := piece_len s i; omega) w
              rw [enc_sec hE.low hE.high s hlt] at ce
              simp only at ce
              have hdl : (s.drop (486 * i)).length = s.length - 486 * i := List.length_drop
              have hpc : (s.drop (486 * i)).take (min (s.drop (486 * i)).length 486) = piece s i := by
                unfold piece
                rcases Nat.le_total (s.drop (486 * i)).length 486 with q | q
                · rw [Nat.min_eq_left q, List.take_length, List.take_of_length_le q]
                · rw [Nat.min_eq_right q]
              have hdr : (s.drop (486 * i)).drop (min (s.drop (486 * i)).length 486) = s.drop (486 * (i + 1)) := by
                rcases Nat.le_total (s.drop (486 * i)).length 486 with q | q
                · rw [Nat.min_eq_left q, List.drop_length, List.drop_of_length_le (by omega)]
                · rw [Nat.min_eq_right q, List.drop_drop]
                  congr 1
              generalize hq : s.drop (486 * i) = t at hdl hpc hdr
              refine KW.skip (KW.seq (KW.block (KW.seq (KW.region ?_))))
              refine OW.val rfl rfl (EX.move rfl) ?_
              refine OW.val rfl rfl (EX.assign rfl) ?_
              refine OW.nil ?_
              refine KW.seq (KW.region ?_)
              refine OW.val rfl rfl (EX.move rfl) ?_
              refine OW.val rfl rfl (EX.lenS Tryd.underlying9 rfl) ?_
              refine OW.val rfl rfl (by first | exact EX.minN (b := 486) rfl rfl | exact EX.minZ rfl rfl) ?_
              refine OW.val rfl rfl (EX.assign rfl) ?_
              refine OW.nil ?_
              refine KW.seq (KW.region ?_)
              refine OW.val rfl rfl (EX.move rfl) ?_
              refine OW.val rfl rfl (EX.move rfl) ?_
              refine OW.val rfl rfl (EX.move rfl) ?_
              refine OW.val rfl rfl (EX.move rfl) ?_
              refine OW.val rfl rfl (EX.move rfl) ?_
              refine OW.val rfl rfl (EX.move rfl) ?_
              refine OW.val rfl rfl (EX.sliceFH Tryd.underlying9 rfl rfl (by omega)) ?_
              refine OW.as 55 (str ((piece s i))) rfl (congrArg str hpc) ?_
              refine OW.call rfl rfl rfl (ce wr) ?_
              rintro _ w5 ⟨rfl, hx5⟩
              refine OW.val rfl rfl (EX.move rfl) ?_
              refine OW.val rfl rfl (EX.extract rfl rfl) ?_
              refine OW.val rfl rfl (EX.extract rfl rfl) ?_
              refine OW.val rfl rfl (by first | exact EX.indexAddrS0 Tryd.underlying23 ti9 rfl rfl (by omega) | exact EX.indexAddrS1 Tryd.underlying23 ti9 rfl rfl (by omega)) ?_
              refine OW.storeB rfl ti9 rfl rfl (by first | rfl | assumption | exact Own.one (by assumption)) ((hob.ext hx5)) (by rw [out5_len]; exact hlt) ?_
              rintro w6 hb6 hm6
              refine OW.nil ?_
              refine KW.region ?_
              refine OW.val rfl rfl (EX.move rfl) ?_
              refine OW.val rfl rfl (EX.move rfl) ?_
              refine OW.val rfl rfl (EX.sliceLE Tryd.underlying9 rfl rfl (by omega)) ?_
              refine OW.val rfl rfl (EX.assign rfl) ?_
              refine OW.nil ?_
              refine KW.leave (KW.region ?_)
              refine OW.val rfl rfl (by first | exact EX.addN (b := 1) (m := 9223372036854775807) rfl rfl rfl (by omega) | exact EX.addZ (m := 9223372036854775807) rfl rfl rfl rfl (by omega)) ?_
              refine OW.val rfl rfl (EX.move rfl) ?_
              refine OW.nil ?_
              replace hb6 : Bk w6 ob 9 ((out5 gen s i).set i (str (sec5 gen s i))) := hb6
              rw [out5_set gen s hlt] at hb6
              refine KW.as 11 (str ((s.drop (486 * (i + 1))))) rfl (congrArg str hdr) ?_
              refine KW.back2 (i + 1) (w6) ⟨rfl, rfl, rfl, rfl, trivial⟩ rfl ?_ (by omega)
              exact ⟨by omega, hb6, below_mo (hx.trans hx5) hm6 (hx.trans hx5).size (fun k hk => by simp at hk; omega)⟩
            · obtain rfl : i = 5 := by omega
              rw [out5_done] at hob
              refine KW.exit rfl (KW.seq (KW.region ?_))
              refine OW.val rfl rfl (EX.move rfl) ?_
              refine OW.val rfl rfl (EX.assign rfl) ?_
              refine OW.val rfl rfl (EX.assign rfl) ?_
              refine OW.nil ?_
              refine KW.ret (ret2 rfl rfl rfl ?_)
              refine ⟨⟨_, rfl, ?_⟩, hx⟩
              rw [sect5_len]
              exact Own.of_bk (cap := 5) hob hog (by simp [txtsV_length, sect5_len]) (by decide)
end Go.Proofs.YthgfdpcpbghkpaaDoor
namespace Go.Proofs.YthgfdpcpbghkpaaDoor
open Go.RowKit
section
variable {P : Program} {n : Nat} {σ : Sig} {w : World} {x y : Operand} {t e ty T : TypeId} {z : Value} {bs : Nat}
theorem EX.arrayAt {m len cap : Nat} {A : Option Addr} (ht : P.underlying t = some (.array m e)) (hx : ev σ x = some (.slice A len cap)) (h : m ≤ len) : EX P n σ (.sliceToArrayPointer t x) ty w (.pointer A) w := fun a ha dst pos after g => by
  have hn : ¬ len < m := by omega
  have hr : (Instr.arrayAt t (.slice A len cap)).run P w = .ok (.pointer A) w := by
    simp [Instr.arrayAt, run_underlying ht, hn, Sem.run_bind]
  simp only [execOp, ha.ev hx, Sem.run_bind, hr]
  rfl
theorem run_eq_arr5 {a0 a1 a2 a3 a4 b0 b1 b2 b3 b4 : Value} {q0 q1 q2 q3 q4 : Bool} {d : TypeDesc} (ht : P.underlying t = some (.array 5 e)) (he : P.underlying e = some d) (hf : flat d = true) (hi : TI P e z 1 bs)
    (h0 : ∀ k, (Op.equalIn (k + 1) e a0 b0).run P w = .ok q0 w) (h1 : ∀ k, (Op.equalIn (k + 1) e a1 b1).run P w = .ok q1 w) (h2 : ∀ k, (Op.equalIn (k + 1) e a2 b2).run P w = .ok q2 w) (h3 : ∀ k, (Op.equalIn (k + 1) e a3 b3).run P w = .ok q3 w) (h4 : ∀ k, (Op.equalIn (k + 1) e a4 b4).run P w = .ok q4 w) (k : Nat) :
    (Op.equalIn (k + 1 + 1) t (.agg #[a0, a1, a2, a3, a4]) (.agg #[b0, b1, b2, b3, b4])).run P w = .ok (q0 && (q1 && (q2 && (q3 && q4)))) w := by
  have hr : List.range' 0 5 = [0, 1, 2, 3, 4] := rfl
  rw [Op.equalIn]
  simp only [Sem.run_bind, run_underlying ht, Result.andThen_ok, run_sizeOf hi]
  cases q0 <;> cases q1 <;> cases q2 <;> cases q3 <;> cases q4 <;> simp [Std.Legacy.Range.forIn_eq_forIn_range', Std.Legacy.Range.size, hr, part, run_isAgg he, hf, h0 k, h1 k, h2 k, h3 k, h4 k, Sem.run_bind]
theorem EX.neqA5 {s0 s1 s2 s3 s4 r0 r1 r2 r3 r4 : List UInt8} (ht : P.underlying t = some (.array 5 e)) (he : P.underlying e = some .string) (hi : TI P e z 1 bs) (hm : P.eqGuardType P.depth t = false) (hx : ev σ x = some (.agg [str s0, str s1, str s2, str s3, str s4].toArray)) (hy : ev σ y = some (.agg [str r0, str r1, str r2, str r3, str r4].toArray)) :
    EX P n σ (.binOp .neq t x y T) ty w (.bool (decide ([s0, s1, s2, s3, s4] ≠ [r0, r1, r2, r3, r4]))) w := by
  refine EX.bin hx hy (run_eqGuard_agg w _ t x y _ _ hm) ?_
  have h := run_eq_arr5 (w := w) ht he rfl hi (fun k => eq_str (a := s0) (b := r0) he k) (fun k => eq_str (a := s1) (b := r1) he k) (fun k => eq_str (a := s2) (b := r2) he k) (fun k => eq_str (a := s3) (b := r3) he k) (fun k => eq_str (a := s4) (b := r4) he k) 9998
  rw [run_neq_struct]
  have e1 : (Op.equalIn 10000 t (.agg [str s0, str s1, str s2, str s3, str s4].toArray) (.agg [str r0, str r1, str r2, str r3, str r4].toArray)).run P w = _ := h
  rw [e1]
  simp only [Result.andThen_ok]
  congr 2
  rw [Bool.eq_iff_iff]
  by_cases c0 : s0 = r0 <;> by_cases c1 : s1 = r1 <;> by_cases c2 : s2 = r2 <;> by_cases c3 : s3 = r3 <;> by_cases c4 : s4 = r4 <;> simp [c0, c1, c2, c3, c4]
end
end Go.Proofs.YthgfdpcpbghkpaaDoor
namespace Go.Proofs.YthgfdpcpbghkpaaDoor
open Go.RowKit Pth Rec Srt Cat
theorem memAt_sumC (s : List UInt8) : (memAt s).sum ≤ 4294967295 := nb_le _ 4 (Nat.le_refl _)
theorem memL_fineC : ∀ (f : Nat) (s : List UInt8) (out : List M), (∀ m ∈ out, mayM m ∧ m.sum ≤ 4294967295) → ∀ m ∈ (memL f s out).1, mayM m ∧ m.sum ≤ 4294967295
  | 0, s, out, h, m, hm => h m hm
  | f + 1, s, out, h, m, hm => by
    rw [memL] at hm
    split at hm
    · exact h m hm
    · split at hm
      · cases hm
      · split at hm
        · rename_i hmay
          refine memL_fineC f _ _ (fun x hx => ?_) m hm
          rcases List.mem_append.1 hx with hx | hx
          · exact h x hx
          · simp only [List.mem_singleton] at hx
            subst hx
            exact ⟨hmay, memAt_sumC s⟩
        · cases hm
theorem memL_lenC : ∀ (f : Nat) (s : List UInt8) (out : List M), (memL f s out).1.length ≤ out.length + f
  | 0, s, out => by simp [memL]
  | f + 1, s, out => by
    rw [memL]
    split
    · simp
    · split
      · simp
      · split
        · have := memL_lenC f (s.drop (11 + first s)) (out ++ [memAt s])
          rw [List.length_append, List.length_singleton] at this
          omega
        · simp
theorem fine_ok {m : M} (h : mayM m ∧ m.sum ≤ 4294967295) : m.Ok := ⟨by have := (may_path h.1).1; omega, h.2⟩
theorem memsOf_ok (ss : Txts) : ∀ m ∈ (memsOf ss).1, m.Ok := fun m hm => fine_ok (memL_fineC _ _ [] (by simp) m hm)
theorem data_most (s : List UInt8) : (decodeR s).1.data.length ≤ 486 := by
  unfold decodeR
  split
  · rename_i h
    show ((s.drop 19).take (nb ((s.drop 17).take 2))).length ≤ 486
    rw [List.length_take]
    omega
  · show ([] : List UInt8).length ≤ 486
    decide
theorem datas_most (ss : Txts) : (datas ss).length ≤ 486 * ss.length := by
  induction ss with
  | nil => simp [datas]
  | cons s ss ih =>
    have h1 := data_most s
    have e : datas (s :: ss) = (decodeR s).1.data ++ datas ss := by simp [datas]
    rw [e, List.length_append, List.length_cons]
    omega
theorem fiveT {l : Txts} (h : l.length = 5) : ∃ s0 s1 s2 s3 s4, l = [s0, s1, s2, s3, s4] := by
  match l, h with
  | [a, b, c, d, e], _ => exact ⟨a, b, c, d, e, rfl⟩
theorem txts_cellC {w : World} {B : Nat} {A : Option Addr} {l : Txts} (h : Sl w B A (txtsV l)) {i : Nat} (hi : i < l.length) : ∃ b o, A = some ⟨b, o, none⟩ ∧ b < B ∧ w.cell? ⟨b, o + i, none⟩ = some (str l[i]) := by
  obtain ⟨b, o, e, hb, hcell⟩ := h.at_ (by rw [txtsV_length]; omega)
  exact ⟨b, o, e, hb, hcell i _ (txtsV_get hi)⟩
set_option maxRecDepth 20000 in
theorem decode23_s (ss : Txts) (hl : ss.length ≤ 140737488355328) (A : Option Addr) (c B : Nat) (w : World) (hG : MLen w) (hs : Sl w B A (txtsV ss)) :
    Ret Tryd.prog 7 [.slice A ss.length c] w fun v w' => (∃ u, v = .tuple #[.int .i64 (decC ss).1, u, .int .i64 (((decC ss).2.2 : Nat) : Int)] ∧ Own w' w.heap.size 50 5 u (decC ss).2.1.length (memsV (decC ss).2.1)) ∧ Ext w w' := by
  have bad : ¬ OkD ss → ∀ w', Ext w w' → (∃ u, (Value.tuple #[.int .i64 0, .slice none 0 0, .int .i64 230]) = .tuple #[.int .i64 (decC ss).1, u, .int .i64 (((decC ss).2.2 : Nat) : Int)] ∧ Own w' w.heap.size 50 5 u (decC ss).2.1.length (memsV (decC ss).2.1)) ∧ Ext w w' := fun h w' hx => by
    rw [decC_no h]
    exact ⟨⟨_, rfl, Own.nil _ _ _ _⟩, hx⟩
  refine Ret.enter Tryd.func7 rfl Tryd.ntmps7 (by kernel_rfl) rfl ?_
  refine KW.seq (KW.region ?_)
  refine OW.val rfl rfl (EX.assign rfl) ?_
  refine OW.val rfl rfl (EX.assign rfl) ?_
  refine OW.val rfl rfl (EX.assign rfl) ?_
  refine OW.nil ?_
  refine KW.seq (KW.seq (KW.region ?_))
  refine OW.val rfl rfl (EX.move rfl) ?_
  refine OW.val rfl rfl (EX.lenA Tryd.underlying23 rfl) ?_
  refine OW.val rfl rfl (by first | exact EX.neqN (b := 5) rfl rfl | exact EX.neqZ rfl rfl) ?_
  refine OW.nil ?_
  refine KW.condD rfl (fun hn5 => ?_) (fun hn5 => ?_)
  · refine KW.seq (KW.region ?_)
    refine OW.val rfl rfl (EX.assign rfl) ?_
    refine OW.val rfl rfl (EX.assign rfl) ?_
    refine OW.val rfl rfl (EX.assign rfl) ?_
    refine OW.nil ?_
    refine KW.ret (ret3 rfl rfl rfl rfl ?_)
    exact bad (fun h => hn5 (by have := okD_len h; omega)) w (Ext.refl _)
  · have h5 : ss.length = 5 := by omega
    have hdm := datas_most ss
    refine KW.skip (KW.seq (KW.region ?_))
    refine OW.val rfl rfl (EX.assign rfl) ?_
    refine OW.val rfl rfl (EX.assign rfl) ?_
    refine OW.nil ?_
    refine KW.seq (KW.seq (KW.region ?_))
    refine OW.val rfl rfl (EX.move rfl) ?_
    refine OW.val rfl rfl (EX.lenA Tryd.underlying23 rfl) ?_
    refine OW.val rfl rfl (EX.move rfl) ?_
    refine OW.nil ?_
    refine KW.block ?_
    refine KW.loop3 (fun (i : Nat) (g : Int) (wr : World) => i ≤ ss.length ∧ (0 < i → g = genOf ss) ∧ Ext w wr) (fun (i : Nat) (g : Int) (wr : World) => [(0, .slice A ss.length c), (5, .int .i64 g), (6, str ((datas (ss.take i)))), (17, .slice A ss.length c), (18, .int .i64 ((ss.length : Nat) : Int)), (19, .int .i64 ((i : Nat) : Int))]) (fun (i : Nat) (g : Int) (wr : World) => wr) (fun (i : Nat) (g : Int) (wr : World) => ss.length - i) (0) (0) (w) ⟨rfl, rfl, rfl, rfl, rfl, rfl, trivial⟩ rfl ?_ ?_
    · exact ⟨Nat.zero_le _, fun h => by omega, Ext.refl _⟩
    · rintro i g wr ⟨hi, hg, hx⟩
      refine KW.seq (KW.region ?_)
      refine OW.val rfl rfl (by first | exact EX.lssN rfl rfl | exact EX.lssZ rfl rfl) ?_
      refine OW.nil ?_
      refine KW.seq ?_
      refine KW.condD rfl (fun hlt => ?_) (fun hlt => ?_)
      · obtain ⟨b, o, rfl, _, hcell⟩ := txts_cellC (hs.ext hx) hlt
        have hsn : ss.take (i + 1) = ss.take i ++ [ss[i]] := (List.take_append_getElem hlt).symm
        have hat := fun h : OkD ss => okD_at h hlt
        have hgi : i = 0 → genOf ss = (decodeR ss[i]).1.gen := fun h => by subst h; unfold genOf; simp [List.getD_eq_getElem?_getD, List.getElem?_eq_getElem hlt]
        generalize ss[i] = s at hcell hsn hat hgi
        have hd1 := data_most s
        have hd2 := datas_most (ss.take i)
        rw [List.length_take] at hd2
        have cd := fun w => decode_s s w
        have hds : datas (ss.take (i + 1)) = datas (ss.take i) ++ (decodeR s).1.data := by rw [hsn, datas_snoc]
        generalize (decodeR s).1 = x at cd hat hgi hd1 hds
        generalize (decodeR s).2 = e at cd hat
        refine KW.skip (KW.seq (KW.block (KW.seq (KW.region ?_))))
        refine OW.val rfl rfl (EX.move rfl) ?_
        refine OW.val rfl rfl (by first | exact EX.indexAddrS0 Tryd.underlying23 ti9 rfl rfl (by omega) | exact EX.indexAddrS1 Tryd.underlying23 ti9 rfl rfl (by omega)) ?_
        refine OW.val rfl rfl (EX.load Tryd.underlying9 rfl rfl (hcell)) ?_
        refine OW.val rfl rfl (EX.assign rfl) ?_
        refine OW.val rfl rfl (EX.assign rfl) ?_
        refine OW.nil ?_
        refine KW.seq (KW.region ?_)
        refine OW.val rfl rfl (EX.move rfl) ?_
        refine OW.call rfl rfl rfl (cd wr) ?_
        rintro _ w1 ⟨rfl, hx1⟩
        refine OW.val rfl rfl (EX.move rfl) ?_
        refine OW.val rfl rfl (EX.extract rfl rfl) ?_
        refine OW.val rfl rfl (EX.extract rfl rfl) ?_
        refine OW.allocB (l := [.int .u8 0, .int .i64 0, .int .i64 0, str []]) rfl rfl ti61 rfl ?_
        rintro xb w2 hge2 hb2 hx2
        refine OW.storeS rfl ti61 rfl rfl rfl (by first | rfl | (simp only [List.all_cons, List.all_nil, Bool.and_true, Bool.true_and, Bool.and_eq_true, Value.oneCell']; repeat (first | assumption | exact Own.one (by assumption) | constructor))) (hb2) (Nat.le_refl _) ?_
        rintro w3 hb3 hm3
        refine OW.val rfl rfl (EX.assign rfl) ?_
        refine OW.nil ?_
        refine KW.seq (KW.seq (KW.region ?_))
        refine OW.val rfl rfl (EX.move rfl) ?_
        refine OW.val rfl rfl (by first | exact EX.eqlN (b := 0) rfl rfl | exact EX.eqlZ rfl rfl) ?_
        refine OW.nil ?_
        replace hb3 : Bk w3 xb 61 x.cells := hb3
        have x3 : Ext wr w3 := below_mo (hx1.trans hx2) hm3 (hx1.trans hx2).size (fun k hk => by simp at hk; have := hx1.size; omega)
        refine KW.cut1 (fun (g2 : Int) => (g2 = genOf ss ∧ (0 < i → g = g2))) (fun (g2 : Int) => [(0, .slice (some ⟨b, o, none⟩) ss.length c), (5, .int .i64 g2), (6, str ((datas (ss.take i)))), (7, .int .i64 ((i : Nat) : Int)), (9, .pointer (some ⟨xb, 0, none⟩)), (10, .int .i64 ((e : Nat) : Int)), (17, .slice (some ⟨b, o, none⟩) ss.length c), (18, .int .i64 ((ss.length : Nat) : Int)), (19, .int .i64 ((i : Nat) : Int))]) (fun (g2 : Int) => w3) ?_ ?_
        · refine KW.condD rfl (fun h0 => ?_) (fun h0 => ?_)
          · refine KW.region ?_
            refine OW.val rfl rfl (EX.fieldAddr (off := 1) Tryd.underlying61 rfl rfl ti3 rfl rfl) ?_
            refine OW.val rfl rfl (EX.load Tryd.underlying3 rfl rfl (hb3.cell_of rfl)) ?_
            refine OW.val rfl rfl (EX.assign rfl) ?_
            refine OW.nil ?_
            refine KW.meet1 (x.gen) ⟨rfl, rfl, rfl, rfl, rfl, rfl, rfl, rfl, rfl, trivial⟩ rfl ?_
            exact ⟨(hgi (by omega)).symm, fun h => by omega⟩
          · refine KW.skip ?_
            refine KW.meet1 (g) ⟨rfl, rfl, rfl, rfl, rfl, rfl, rfl, rfl, rfl, trivial⟩ rfl ?_
            exact ⟨hg (by omega), fun _ => rfl⟩
        · rintro g2 ⟨rfl, hgg⟩
          refine KW.seq (KW.seq ?_)
          refine KW.cut1 (fun (_u : Unit) => True) (fun (_u : Unit) => [(0, .slice (some ⟨b, o, none⟩) ss.length c), (5, .int .i64 (genOf ss)), (6, str ((datas (ss.take i)))), (9, .pointer (some ⟨xb, 0, none⟩)), (17, .slice (some ⟨b, o, none⟩) ss.length c), (18, .int .i64 ((ss.length : Nat) : Int)), (19, .int .i64 ((i : Nat) : Int)), (51, .bool (decide ((e ≠ 0 ∨ x.kind ≠ 4 ∨ x.gen ≠ genOf ss ∨ x.index ≠ i))))]) (fun (_u : Unit) => w3) ?_ ?_
          · refine KW.region ?_
            refine OW.val rfl rfl (EX.move rfl) ?_
            refine OW.val rfl rfl (by first | exact EX.neqN (b := 0) rfl rfl | exact EX.neqZ rfl rfl) ?_
            refine OW.val rfl rfl (EX.move rfl) ?_
            refine OW.splitD 35 rfl (fun q1 => ?_) (fun q1 => ?_)
            · refine OW.pass rfl rfl ?_
              refine OW.pass rfl rfl ?_
              refine OW.pass rfl rfl ?_
              refine OW.val rfl rfl (EX.pickT rfl rfl) ?_
              refine OW.val rfl rfl (EX.move rfl) ?_
              refine OW.pass rfl rfl ?_
              refine OW.pass rfl rfl ?_
              refine OW.pass rfl rfl ?_
              refine OW.pass rfl rfl ?_
              refine OW.val rfl rfl (EX.pickT rfl rfl) ?_
              refine OW.val rfl rfl (EX.move rfl) ?_
              refine OW.pass rfl rfl ?_
              refine OW.pass rfl rfl ?_
              refine OW.pass rfl rfl ?_
              refine OW.pass rfl rfl ?_
              refine OW.val rfl rfl (EX.pickT rfl rfl) ?_
              refine OW.nil ?_
              refine KW.as 51 (.bool (decide ((e ≠ 0 ∨ x.kind ≠ 4 ∨ x.gen ≠ genOf ss ∨ x.index ≠ i)))) rfl (congrArg Value.bool (decide_eq_true (.inl q1)).symm) ?_
              refine KW.meet1 (()) ⟨rfl, rfl, rfl, rfl, rfl, rfl, rfl, rfl, trivial⟩ rfl ?_
              trivial
            · refine OW.val rfl rfl (EX.fieldAddr (off := 0) Tryd.underlying61 rfl rfl ti5 rfl rfl) ?_
              refine OW.val rfl rfl (EX.load Tryd.underlying5 rfl rfl (hb3.cell_of rfl)) ?_
              refine OW.val rfl rfl (by first | exact EX.neqN (b := 4) rfl rfl | exact EX.neqZ rfl rfl) ?_
              refine OW.val rfl rfl (EX.pickF rfl rfl) ?_
              refine OW.val rfl rfl (EX.move rfl) ?_
              refine OW.splitD 40 rfl (fun q2 => ?_) (fun q2 => ?_)
              · refine OW.pass rfl rfl ?_
                refine OW.pass rfl rfl ?_
                refine OW.pass rfl rfl ?_
                refine OW.pass rfl rfl ?_
                refine OW.val rfl rfl (EX.pickT rfl rfl) ?_
                refine OW.val rfl rfl (EX.move rfl) ?_
                refine OW.pass rfl rfl ?_
                refine OW.pass rfl rfl ?_
                refine OW.pass rfl rfl ?_
                refine OW.pass rfl rfl ?_
                refine OW.val rfl rfl (EX.pickT rfl rfl) ?_
                refine OW.nil ?_
                refine KW.as 51 (.bool (decide ((e ≠ 0 ∨ x.kind ≠ 4 ∨ x.gen ≠ genOf ss ∨ x.index ≠ i)))) rfl (congrArg Value.bool (decide_eq_true (.inr (.inl q2))).symm) ?_
                refine KW.meet1 (()) ⟨rfl, rfl, rfl, rfl, rfl, rfl, rfl, rfl, trivial⟩ rfl ?_
                trivial
              · refine OW.val rfl rfl (EX.fieldAddr (off := 1) Tryd.underlying61 rfl rfl ti3 rfl rfl) ?_
                refine OW.val rfl rfl (EX.load Tryd.underlying3 rfl rfl (hb3.cell_of rfl)) ?_
                refine OW.val rfl rfl (EX.move rfl) ?_
                refine OW.val rfl rfl (by first | exact EX.neqN rfl rfl | exact EX.neqZ rfl rfl) ?_
                refine OW.val rfl rfl (EX.pickF rfl rfl) ?_
                refine OW.val rfl rfl (EX.move rfl) ?_
                refine OW.splitD 46 rfl (fun q3 => ?_) (fun q3 => ?_)
                · refine OW.pass rfl rfl ?_
                  refine OW.pass rfl rfl ?_
                  refine OW.pass rfl rfl ?_
                  refine OW.pass rfl rfl ?_
                  refine OW.val rfl rfl (EX.pickT rfl rfl) ?_
                  refine OW.nil ?_
                  refine KW.as 51 (.bool (decide ((e ≠ 0 ∨ x.kind ≠ 4 ∨ x.gen ≠ genOf ss ∨ x.index ≠ i)))) rfl (congrArg Value.bool (decide_eq_true (.inr (.inr (.inl q3)))).symm) ?_
                  refine KW.meet1 (()) ⟨rfl, rfl, rfl, rfl, rfl, rfl, rfl, rfl, trivial⟩ rfl ?_
                  trivial
                · refine OW.val rfl rfl (EX.fieldAddr (off := 2) Tryd.underlying61 rfl rfl ti3 rfl rfl) ?_
                  refine OW.val rfl rfl (EX.load Tryd.underlying3 rfl rfl (hb3.cell_of rfl)) ?_
                  refine OW.val rfl rfl (EX.move rfl) ?_
                  refine OW.val rfl rfl (by first | exact EX.neqN rfl rfl | exact EX.neqZ rfl rfl) ?_
                  refine OW.val rfl rfl (EX.pickF rfl rfl) ?_
                  refine OW.nil ?_
                  refine KW.as 51 (.bool (decide ((e ≠ 0 ∨ x.kind ≠ 4 ∨ x.gen ≠ genOf ss ∨ x.index ≠ i)))) rfl (congrArg Value.bool (decide_eq_decide.2 ⟨fun h => .inr (.inr (.inr h)), fun h => h.elim (fun z => absurd z q1) (fun h => h.elim (fun z => absurd z q2) (fun h => h.elim (fun z => absurd z q3) id))⟩)) ?_
                  refine KW.meet1 (()) ⟨rfl, rfl, rfl, rfl, rfl, rfl, rfl, rfl, trivial⟩ rfl ?_
                  trivial
          · rintro _ _
            refine KW.condD rfl (fun hb => ?_) (fun hb => ?_)
            · refine KW.seq (KW.region ?_)
              refine OW.val rfl rfl (EX.assign rfl) ?_
              refine OW.val rfl rfl (EX.assign rfl) ?_
              refine OW.val rfl rfl (EX.assign rfl) ?_
              refine OW.nil ?_
              refine KW.ret (ret3 rfl rfl rfl rfl ?_)
              exact bad (fun h => by obtain ⟨_, a1, a2, a3, a4⟩ := hat h; rcases hb with q | q | q | q; (· exact q a1); (· exact q a2); (· exact q a3); (· exact q a4)) w3 (hx.trans x3)
            · refine KW.skip (KW.region ?_)
              refine OW.val rfl rfl (EX.move rfl) ?_
              refine OW.val rfl rfl (EX.fieldAddr (off := 3) Tryd.underlying61 rfl rfl ti9 rfl rfl) ?_
              refine OW.val rfl rfl (EX.load Tryd.underlying9 rfl rfl (hb3.cell_of rfl)) ?_
              refine OW.val rfl rfl (EX.addS rfl rfl (by first | omega | (simp only [List.length_append, List.length_cons, List.length_nil, List.length_take, List.length_drop, List.length_replicate]; omega))) ?_
              refine OW.val rfl rfl (EX.assign rfl) ?_
              refine OW.nil ?_
              refine KW.leave (KW.region ?_)
              refine OW.val rfl rfl (by first | exact EX.addN (b := 1) (m := 9223372036854775807) rfl rfl rfl (by omega) | exact EX.addZ (m := 9223372036854775807) rfl rfl rfl rfl (by omega)) ?_
              refine OW.val rfl rfl (EX.move rfl) ?_
              refine OW.nil ?_
              refine KW.as 6 (str ((datas (ss.take (i + 1))))) rfl (congrArg str hds.symm) ?_
              refine KW.back3 (i + 1) (genOf ss) (w3) ⟨rfl, rfl, rfl, rfl, rfl, rfl, trivial⟩ rfl ?_ (by omega)
              exact ⟨by omega, fun _ => rfl, hx.trans x3⟩
      · obtain rfl : i = ss.length := by omega
        obtain rfl := hg (by omega)
        have cm := members_s (datas ss) (by omega) wr
        have hmo := memsOf_ok ss
        have hml := memL_lenC ((datas ss).length + 1) (datas ss) []
        have hmd : memL ((datas ss).length + 1) (datas ss) [] = memsOf ss := rfl
        rw [hmd] at cm hml
        simp only [List.length_nil, Nat.zero_add] at hml
        rw [List.take_length]
        refine KW.exit rfl (KW.seq (KW.region ?_))
        refine OW.val rfl rfl (EX.move rfl) ?_
        refine OW.call rfl rfl rfl (cm) ?_
        rintro _ w1 ⟨u, rfl, hown1, hx1⟩
        refine OW.val rfl rfl (EX.move rfl) ?_
        refine OW.val rfl rfl (EX.extract rfl rfl) ?_
        refine OW.val rfl rfl (EX.extract rfl rfl) ?_
        refine OW.val rfl rfl (EX.assign rfl) ?_
        refine OW.val rfl rfl (EX.assign rfl) ?_
        refine OW.nil ?_
        refine KW.seq (KW.seq (KW.region ?_))
        refine OW.val rfl rfl (EX.move rfl) ?_
        refine OW.val rfl rfl (by first | exact EX.neqN (b := 0) rfl rfl | exact EX.neqZ rfl rfl) ?_
        refine OW.nil ?_
        obtain ⟨A1, c1, rfl, _, hsl1⟩ := hown1.slice
        refine KW.condD rfl (fun hme => ?_) (fun hme => ?_)
        · refine KW.seq (KW.region ?_)
          refine OW.val rfl rfl (EX.assign rfl) ?_
          refine OW.val rfl rfl (EX.assign rfl) ?_
          refine OW.val rfl rfl (EX.assign rfl) ?_
          refine OW.nil ?_
          refine KW.ret (ret3 rfl rfl rfl rfl ?_)
          exact bad (fun h => hme (by have := h.mem; omega)) w1 (hx.trans hx1)
        · have ce := encode23_s (genOf ss) (memsOf ss).1 hmo (by omega) A1 c1 _ w1 ((hG.ext hx).ext hx1) hsl1
          refine KW.skip (KW.seq (KW.region ?_))
          refine OW.val rfl rfl (EX.move rfl) ?_
          refine OW.val rfl rfl (EX.move rfl) ?_
          refine OW.call rfl rfl rfl (ce) ?_
          rintro _ w2 ⟨⟨u2, rfl, hown2⟩, hx2⟩
          refine OW.val rfl rfl (EX.move rfl) ?_
          refine OW.val rfl rfl (EX.extract rfl rfl) ?_
          refine OW.val rfl rfl (EX.extract rfl rfl) ?_
          refine OW.val rfl rfl (EX.assign rfl) ?_
          refine OW.val rfl rfl (EX.assign rfl) ?_
          refine OW.nil ?_
          refine KW.seq (KW.seq (KW.region ?_))
          refine OW.val rfl rfl (EX.move rfl) ?_
          refine OW.val rfl rfl (by first | exact EX.neqN (b := 0) rfl rfl | exact EX.neqZ rfl rfl) ?_
          refine OW.nil ?_
          have x2 := (hx.trans hx1).trans hx2
          obtain ⟨A2, c2, rfl, _, hsl2⟩ := hown2.slice
          refine KW.condD rfl (fun hee => ?_) (fun hee => ?_)
          · have h230 : (encC (genOf ss) (memsOf ss).1).2 = 230 := by
              rcases encC_or (genOf ss) (memsOf ss).1 with ⟨_, q⟩ | q
              · rw [q] at hee; exact absurd rfl hee
              · rw [q]
            refine KW.seq (KW.region ?_)
            refine OW.val rfl rfl (EX.move rfl) ?_
            refine OW.val rfl rfl (EX.assign rfl) ?_
            refine OW.val rfl rfl (EX.assign rfl) ?_
            refine OW.val rfl rfl (EX.assign rfl) ?_
            refine OW.nil ?_
            rw [h230]
            refine KW.ret (ret3 rfl rfl rfl rfl ?_)
            exact bad (fun h => by rw [h.enc] at h230; cases h230) w2 x2
          · have hE : encC (genOf ss) (memsOf ss).1 = ((encC (genOf ss) (memsOf ss).1).1, 0) := by
              rcases encC_or (genOf ss) (memsOf ss).1 with ⟨_, q⟩ | q
              · rw [q]
              · rw [q] at hee; exact absurd (show (230 : Nat) ≠ 0 by decide) (fun z => hee (by simp))
            have ho5 := enc_len hE
            have hyes : (encC (genOf ss) (memsOf ss).1).1 = ss → OkD ss := fun q => ⟨by omega, by rw [hE, q]⟩
            have hno : (encC (genOf ss) (memsOf ss).1).1 ≠ ss → ¬ OkD ss := fun q h => q (by rw [h.enc])
            generalize (encC (genOf ss) (memsOf ss).1).1 = os at ho5 hyes hno hsl2
            generalize (encC (genOf ss) (memsOf ss).1).2 = oe at hee
            have hsl3 := hs.ext x2
            obtain ⟨s0, s1, s2, s3, s4, rfl⟩ := fiveT h5
            obtain ⟨r0, r1, r2, r3, r4, rfl⟩ := fiveT ho5
            obtain ⟨b3, o3, rfl, _, hc3⟩ := hsl3.at_ (by simp [txtsV])
            obtain ⟨b2, o2, rfl, _, hc2⟩ := hsl2.at_ (by simp [txtsV])
            have hm2 := (hown1.ext hx2)
            refine KW.skip (KW.seq (KW.seq ?_))
            refine KW.regionQ (by kernel_rfl) (by kernel_rfl) ?_
            refine QW.val rfl rfl (fun _ => EX.move rfl) ?_
            refine QW.val rfl rfl (fun _ => EX.arrayAt Tryd.underlying66 rfl (by omega)) ?_
            refine QW.val rfl rfl (fun _ => EX.loadA (w := w2.drewN _) (l := [str r0, str r1, str r2, str r3, str r4]) Tryd.underlying66 rfl ti66 rfl rfl hc2) ?_
            refine QW.val rfl rfl (fun _ => EX.move rfl) ?_
            refine QW.val rfl rfl (fun _ => EX.arrayAt Tryd.underlying66 rfl (by omega)) ?_
            refine QW.val rfl rfl (fun _ => EX.loadA (w := w2.drewN _) (l := [str s0, str s1, str s2, str s3, str s4]) Tryd.underlying66 rfl ti66 rfl rfl hc3) ?_
            refine QW.val rfl rfl (fun _ => EX.neqA5 Tryd.underlying66 Tryd.underlying9 ti9 (by kernel_rfl) rfl rfl) ?_
            refine QW.nil (fun nq => ?_)
            refine KW.condD rfl (fun hne => ?_) (fun hne => ?_)
            · refine KW.seq (KW.region ?_)
              refine OW.val rfl rfl (EX.assign rfl) ?_
              refine OW.val rfl rfl (EX.assign rfl) ?_
              refine OW.val rfl rfl (EX.assign rfl) ?_
              refine OW.nil ?_
              refine KW.ret (ret3 rfl rfl rfl rfl ?_)
              exact bad (hno hne) _ (x2.trans (Ext.drewN _ _))
            · have hok := hyes (Decidable.of_not_not hne)
              refine KW.skip (KW.seq (KW.region ?_))
              refine OW.val rfl rfl (EX.move rfl) ?_
              refine OW.val rfl rfl (EX.move rfl) ?_
              refine OW.val rfl rfl (EX.assign rfl) ?_
              refine OW.val rfl rfl (EX.assign rfl) ?_
              refine OW.val rfl rfl (EX.assign rfl) ?_
              refine OW.nil ?_
              refine KW.ret (ret3 rfl rfl rfl rfl ?_)
              rw [decC_ok hok]
              exact ⟨⟨_, rfl, (hm2.drewN _).more hx.size⟩, x2.trans (Ext.drewN _ _)⟩
end Go.Proofs.YthgfdpcpbghkpaaDoor
namespace Go.Proofs.YthgfdpcpbghkpaaDoor
open Go.RowKit Pth Rec Srt Cat Dsk Wal
set_option maxRecDepth 20000 in
theorem save_s {D : Dv} (hD : D.Ok) {k : Nat} (hsm : Sm D k) (hk : k ≤ 900000) (B b : Nat) (gen : Int) (g0 : -9223372036854775808 ≤ gen) (g1 : gen ≤ 9223372036854775807) (l : List M) (hl : l.length ≤ 140737488355328) (hok : ∀ m ∈ l, m.Ok) (A : Option Addr) (c C : Nat) (w : World) (hG : MLen w) (h : DevAt w B b D) (hs : Sl w C A (memsV l)) :
    Ret Tryd.prog 10 [.pointer (some ⟨b, 0, none⟩), .int .i64 gen, .slice A l.length c] w fun v w' => v = .int .i64 (((saveC D gen l).2 : Nat) : Int) ∧ DevAt w' B b (saveC D gen l).1 ∧ Tm w w' B dty := by
  have hcap := hD.cap
  have bye : ∀ w', Ext w w' → ¬ (OkE gen l ∧ OkC l D.cap) → (Value.int .i64 230 = .int .i64 (((saveC D gen l).2 : Nat) : Int) ∧ DevAt w' B b (saveC D gen l).1 ∧ Tm w w' B dty) := fun w' hx q => by
    rw [saveC_no q]
    exact ⟨rfl, h.ext hx, Tm.of_ext hx _ _⟩
  refine Ret.enter Tryd.func10 rfl Tryd.ntmps10 (by kernel_rfl) rfl ?_
  refine KW.seq (KW.region ?_)
  refine OW.val rfl rfl (EX.assign rfl) ?_
  refine OW.nil ?_
  refine KW.seq (KW.seq (KW.region ?_))
  refine OW.val rfl rfl (EX.move rfl) ?_
  refine OW.call rfl rfl rfl (capacity_d h hD) ?_
  rintro _ _ ⟨rfl, rfl⟩
  refine OW.val rfl rfl (by first | exact EX.eqlN (b := 0) rfl rfl | exact EX.eqlZ rfl rfl) ?_
  refine OW.nil ?_
  refine KW.condD rfl (fun h0 => ?_) (fun h0 => ?_)
  · omega
  · refine KW.skip (KW.seq (KW.region ?_))
    refine OW.val rfl rfl (EX.move rfl) ?_
    refine OW.val rfl rfl (EX.move rfl) ?_
    refine OW.call rfl rfl rfl (encode23_s gen l hok hl A c C w hG hs) ?_
    rintro _ w1 ⟨⟨u, rfl, hown⟩, hx1⟩
    refine OW.val rfl rfl (EX.move rfl) ?_
    refine OW.val rfl rfl (EX.extract rfl rfl) ?_
    refine OW.val rfl rfl (EX.extract rfl rfl) ?_
    refine OW.val rfl rfl (EX.assign rfl) ?_
    refine OW.val rfl rfl (EX.assign rfl) ?_
    refine OW.nil ?_
    refine KW.seq (KW.seq (KW.region ?_))
    refine OW.val rfl rfl (EX.move rfl) ?_
    refine OW.val rfl rfl (by first | exact EX.neqN (b := 0) rfl rfl | exact EX.neqZ rfl rfl) ?_
    refine OW.nil ?_
    refine KW.condD rfl (fun he => ?_) (fun he => ?_)
    · have hno : ¬ OkE gen l := fun q => by rw [encC_ok q] at he; exact he rfl
      have h230 : (encC gen l).2 = 230 := by rw [encC_no hno]
      refine KW.seq (KW.region ?_)
      refine OW.val rfl rfl (EX.move rfl) ?_
      refine OW.val rfl rfl (EX.assign rfl) ?_
      refine OW.nil ?_
      rw [h230]
      refine KW.ret (ret1 rfl rfl ?_)
      exact bye w1 hx1 (fun q => hno q.1)
    · have hE : OkE gen l := by
        rcases encC_or gen l with ⟨q, _⟩ | q
        · exact q
        · rw [q] at he; exact absurd (show (230 : Nat) ≠ 0 by decide) (fun z => he (by simp))
      rw [encC_ok hE] at hown
      simp only [sect5_len] at hown
      have hdev1 := h.ext hx1
      refine KW.skip (KW.seq (KW.seq (KW.region ?_)))
      refine OW.val rfl rfl (EX.move rfl) ?_
      refine OW.val rfl rfl (EX.move rfl) ?_
      refine OW.call rfl rfl rfl (capacity_d hdev1 hD) ?_
      rintro _ _ ⟨rfl, rfl⟩
      refine OW.call rfl rfl rfl (chk_s l hok hl D.cap A c C w1 (hG.ext hx1) (hs.ext hx1)) ?_
      rintro _ w2 ⟨rfl, hx2⟩
      refine OW.val rfl rfl (EX.assign rfl) ?_
      refine OW.nil ?_
      refine KW.seq (KW.region ?_)
      refine OW.val rfl rfl (EX.move rfl) ?_
      refine OW.val rfl rfl (by first | exact EX.neqN (b := 0) rfl rfl | exact EX.neqZ rfl rfl) ?_
      refine OW.nil ?_
      have x2 := hx1.trans hx2
      refine KW.condD rfl (fun hc => ?_) (fun hc => ?_)
      · have hno : ¬ OkC l D.cap := fun q => by rw [chkC_ok q] at hc; exact hc rfl
        have h230 : chkC l D.cap = 230 := chkC_no hno
        refine KW.seq (KW.region ?_)
        refine OW.val rfl rfl (EX.move rfl) ?_
        refine OW.val rfl rfl (EX.assign rfl) ?_
        refine OW.nil ?_
        rw [h230]
        refine KW.ret (ret1 rfl rfl ?_)
        exact bye w2 x2 (fun q => hno q.2)
      · have hC : OkC l D.cap := Classical.byContradiction fun q => hc (by rw [chkC_no q]; decide)
        obtain ⟨g, rfl⟩ := Int.eq_ofNat_of_zero_le hE.low
        have hgb := hE.high
        have el := saveC_go (D := D) (gen := (g : Int)) ⟨hE, hC⟩
        have hlen := sect5_all (gen := (g : Int)) (allT l)
        have hnt := sect5_len (g : Int) (allT l)
        have hown2 := hown.ext hx2
        generalize sect5 (g : Int) (allT l) = T at el hlen hnt hown2
        simp only [Int.toNat_natCast] at el
        obtain ⟨A3, c3, rfl, hc3, _⟩ := hown2.slice
        have h1 := hdev1.ext hx2
        refine KW.skip (KW.seq (KW.seq (KW.region ?_)))
        refine OW.val rfl rfl (EX.move rfl) ?_
        refine OW.val rfl rfl (EX.lenA Tryd.underlying23 rfl) ?_
        refine OW.val rfl rfl (EX.move rfl) ?_
        refine OW.nil ?_
        refine KW.block ?_
        refine KW.loop3 (fun (i : Nat) (E : Dv) (wr : World) => i ≤ 5 ∧ E.Ok ∧ Sm E (k + i) ∧ writes E (g % 2 * 5 + i) (T.drop i) = writes D (g % 2 * 5) T ∧ DevAt wr B b E ∧ Tm w wr B dty ∧ Own wr w.heap.size 9 1 (.slice A3 5 c3) 5 (T.map str)) (fun (i : Nat) (E : Dv) (wr : World) => [(0, .pointer (some ⟨b, 0, none⟩)), (1, .int .i64 ((g : Nat) : Int)), (32, .slice A3 5 c3), (33, .int .i64 ((5 : Nat) : Int)), (34, .int .i64 ((i : Nat) : Int))]) (fun (i : Nat) (E : Dv) (wr : World) => wr) (fun (i : Nat) (E : Dv) (wr : World) => 5 - i) (0) (D) (w2) ⟨rfl, rfl, rfl, rfl, rfl, trivial⟩ rfl ?_ ?_
        · exact ⟨Nat.zero_le _, hD, hsm, rfl, h1, Tm.of_ext x2 _ _, hown2⟩
        · rintro i E wr ⟨hi, hE', hsE, hw, hdev, htm, hownr⟩
          refine KW.seq (KW.region ?_)
          refine OW.val rfl rfl (by first | exact EX.lssN rfl rfl | exact EX.lssZ rfl rfl) ?_
          refine OW.nil ?_
          refine KW.seq ?_
          refine KW.condD rfl (fun hlt => ?_) (fun hlt => ?_)
          · have hltT : i < T.length := by omega
            have hdr : T.drop i = T[i] :: T.drop (i + 1) := List.drop_eq_getElem_cons hltT
            have hT5 := hlen T[i] (List.getElem_mem hltT)
            have hTi : (T.map str)[i]? = some (str T[i]) := by rw [List.getElem?_map, List.getElem?_eq_getElem hltT]; rfl
            rw [hdr, writes_cons] at hw
            generalize T[i] = s at hw hT5 hTi
            obtain ⟨A4, c4, e4, _, hsl4⟩ := hownr.slice
            cases e4
            obtain ⟨bb, o, rfl, _, hcell⟩ := hsl4.at_ (by rw [List.length_map]; omega)
            refine KW.skip (KW.seq (KW.block (KW.seq (KW.region ?_))))
            refine OW.val rfl rfl (EX.move rfl) ?_
            refine OW.val rfl rfl (by first | exact EX.indexAddrS0 Tryd.underlying23 ti9 rfl rfl (by omega) | exact EX.indexAddrS1 Tryd.underlying23 ti9 rfl rfl (by omega)) ?_
            refine OW.val rfl rfl (EX.load Tryd.underlying9 rfl rfl (hcell i _ hTi)) ?_
            refine OW.val rfl rfl (EX.assign rfl) ?_
            refine OW.val rfl rfl (EX.assign rfl) ?_
            refine OW.nil ?_
            refine KW.seq (KW.region ?_)
            refine OW.val rfl rfl (EX.move rfl) ?_
            refine OW.val rfl rfl (EX.move rfl) ?_
            refine OW.val rfl rfl (by first | exact EX.remN (b := 2) rfl rfl (by omega) | exact EX.remZ rfl rfl (by decide)) ?_
            refine OW.val rfl rfl (by first | exact EX.mulN (b := 5) (m := 9223372036854775807) rfl rfl rfl (by omega) | exact EX.mulZ (m := 9223372036854775807) rfl rfl rfl rfl (by omega)) ?_
            refine OW.val rfl rfl (EX.move rfl) ?_
            refine OW.val rfl rfl (by first | exact EX.addN (m := 9223372036854775807) rfl rfl rfl (by omega) | exact EX.addZ (m := 9223372036854775807) rfl rfl rfl rfl (by omega)) ?_
            refine OW.val rfl rfl (EX.move rfl) ?_
            have cw := write_d hdev hE' (hsE.small (by omega)) ((g % 2 * 5 + i : Nat) : Int) (by omega) (by omega) s (by omega)
            refine OW.call rfl rfl rfl (cw) ?_
            rintro _ w5 ⟨rfl, hdev5, htm5⟩
            refine OW.val rfl rfl (EX.assign rfl) ?_
            refine OW.nil ?_
            refine KW.seq (KW.region ?_)
            refine OW.val rfl rfl (EX.move rfl) ?_
            refine OW.val rfl rfl (by first | exact EX.neqN (b := 0) rfl rfl | exact EX.neqZ rfl rfl) ?_
            refine OW.nil ?_
            refine KW.condD rfl (fun hee => ?_) (fun hee => ?_)
            · rw [if_neg (by omega)] at hw
              refine KW.seq (KW.region ?_)
              refine OW.val rfl rfl (EX.move rfl) ?_
              refine OW.val rfl rfl (EX.assign rfl) ?_
              refine OW.nil ?_
              refine KW.ret (ret1 rfl rfl ?_)
              rw [el, ← hw]
              rw [if_neg (by omega)]
              exact ⟨rfl, hdev5, htm.trans htm5⟩
            · rw [if_pos (by omega)] at hw
              refine KW.skip (KW.leave (KW.region ?_))
              refine OW.val rfl rfl (by first | exact EX.addN (b := 1) (m := 9223372036854775807) rfl rfl rfl (by omega) | exact EX.addZ (m := 9223372036854775807) rfl rfl rfl rfl (by omega)) ?_
              refine OW.val rfl rfl (EX.move rfl) ?_
              refine OW.nil ?_
              refine KW.back3 (i + 1) ((E.write ((g % 2 * 5 + i : Nat) : Int) s).1) (w5) ⟨rfl, rfl, rfl, rfl, rfl, trivial⟩ rfl ?_ (by omega)
              exact ⟨by omega, write_ok hE' _ _, write_sm hsE _ _, hw, hdev5, htm.trans htm5, htm5.own hownr (by decide)⟩
          · obtain rfl : i = 5 := by omega
            rw [List.drop_eq_nil_of_le (by omega)] at hw
            have hw' : writes D (g % 2 * 5) T = (E, 0) := hw.symm
            rw [hw'] at el
            simp only [if_true] at el
            refine KW.exit rfl (KW.seq (KW.region ?_))
            refine OW.val rfl rfl (EX.move rfl) ?_
            refine OW.call rfl rfl rfl (sync_d hdev hE' (hsE.small (by omega))) ?_
            rintro _ w5 ⟨rfl, hdev5, htm5⟩
            refine OW.val rfl rfl (EX.assign rfl) ?_
            refine OW.nil ?_
            refine KW.ret (ret1 rfl rfl ?_)
            rw [el]
            exact ⟨rfl, hdev5, htm.trans htm5⟩
end Go.Proofs.YthgfdpcpbghkpaaDoor
namespace Go.Proofs.YthgfdpcpbghkpaaDoor
open Go.RowKit Pth Rec Srt Cat Dsk Wal
section
variable {w w' : World} {B b : Nat} {D : Dv} {vk vn vp vq : Value} {vs : List Value}
theorem Dev.mo {S : List Nat} (h : Dev w B b D vk vn vp vq vs) (hm : Mo w w' S) (hS : ∀ k ∈ S, ∃ T l, Bk w k T l ∧ T ≠ 82 ∧ T ≠ 5 ∧ T ≠ 111 ∧ T ≠ 4) (hch : ChVs w' D.pend vs) : Dev w' B b D vk vn vp vq vs := by
  have nb : ∀ {k T l}, Bk w k T l → (T = 82 ∨ T = 5 ∨ T = 111 ∨ T = 4) → k ∉ S := fun {k T l} hb hT hk => by
    obtain ⟨T', l', hb', h1, h2, h3, h4⟩ := hS k hk
    obtain ⟨rfl, _⟩ := hb.det hb'
    rcases hT with q | q | q | q
    · exact h1 q
    · exact h2 q
    · exact h3 q
    · exact h4 q
  have no : ∀ {T v n xs}, Own w B T 1 v n xs → (T = 82 ∨ T = 5 ∨ T = 111 ∨ T = 4) → ∀ k, v.ownBlock = some k → k ∉ S := fun {T v n xs} ho hT k hk => by
    obtain ⟨_, l, hb⟩ := ho.blkT k hk
    exact nb hb hT
  exact ⟨h.lo, h.cells.mo hm (nb h.cells (.inl rfl)), h.kept.mo hm (no h.kept (.inr (.inl rfl))), h.now.mo hm (no h.now (.inr (.inl rfl))), h.apart, h.pend.mo hm (no h.pend (.inr (.inr (.inl rfl)))), hch, h.keep.mo hm (no h.keep (.inr (.inr (.inr rfl))))⟩
set_option maxRecDepth 20000 in
theorem readv_d (hv : Dev w B b D vk vn vp vq vs) (hD : D.Ok) (hs : Small D) (hd : D.dead = false) {j : Nat} (hj : j < D.now.length / 512) :
    Ret Tryd.prog 27 [.pointer (some ⟨b, 0, none⟩), .int .i64 (j : Int)] w fun v w' => v = .tuple #[str (secAt D.now j), .int .i64 ((0 : Nat) : Int)] ∧ Dev w' B b (readsC D 1) vk vn vp vq vs ∧ Mo w w' [b] := by
  have q1 := hD.now
  have q2 := hD.cap
  have q3 := hs.calls
  have h := hv.at_
  have ca := alive_d h hD
  rw [hd] at ca
  refine Ret.enter Tryd.func27 rfl Tryd.ntmps27 (by kernel_rfl) rfl ?_
  refine KW.seq (KW.region ?_)
  refine OW.val rfl rfl (EX.assign rfl) ?_
  refine OW.val rfl rfl (EX.assign rfl) ?_
  refine OW.nil ?_
  refine KW.seq (KW.seq (KW.region ?_))
  refine OW.val rfl rfl (EX.move rfl) ?_
  refine OW.call rfl rfl rfl (ca) ?_
  rintro _ _ ⟨rfl, rfl⟩
  refine OW.val rfl rfl (EX.assign rfl) ?_
  refine OW.nil ?_
  refine KW.seq (KW.region ?_)
  refine OW.val rfl rfl (EX.move rfl) ?_
  refine OW.val rfl rfl (by first | exact EX.neqN (b := 0) rfl rfl | exact EX.neqZ rfl rfl) ?_
  refine OW.nil ?_
  refine KW.as 10 (.bool false) rfl (congrArg Value.bool (decide_eq_false (by decide))) ?_
  refine KW.condF rfl (KW.skip (KW.seq (KW.seq ?_)))
  refine KW.region ?_
  refine OW.val rfl rfl (EX.move rfl) ?_
  refine OW.val rfl rfl (by first | exact EX.lssN (b := 0) rfl rfl | exact EX.lssZ rfl rfl) ?_
  refine OW.val rfl rfl (EX.move rfl) ?_
  refine OW.as 14 (.bool false) rfl (congrArg Value.bool (decide_eq_false ((by omega)))) ?_
  refine OW.val rfl rfl (EX.move rfl) ?_
  refine OW.val rfl rfl (EX.move rfl) ?_
  refine OW.call rfl rfl rfl (len_d h hD) ?_
  rintro _ _ ⟨rfl, rfl⟩
  refine OW.val rfl rfl (by first | exact EX.geqN rfl rfl | exact EX.geqZ rfl rfl) ?_
  refine OW.val rfl rfl (EX.pickF rfl rfl) ?_
  refine OW.nil ?_
  refine KW.as 19 (.bool false) rfl (congrArg Value.bool (decide_eq_false ((by omega)))) ?_
  refine KW.condF rfl (KW.skip (KW.seq (KW.region ?_)))
  refine OW.val rfl rfl (EX.move rfl) ?_
  refine OW.val rfl rfl (EX.nilCheck rfl) ?_
  refine OW.val rfl rfl (EX.fieldAddr (off := 7) Tryd.underlying82 rfl rfl ti3 rfl rfl) ?_
  have hj2 : (j + 1) * 512 ≤ D.now.length := by omega
  obtain ⟨An, cn, rfl, hcn, hsln⟩ := hv.now.slice
  refine OW.val rfl rfl (EX.load Tryd.underlying3 rfl rfl (hv.cells.cell_of rfl)) ?_
  refine OW.val rfl rfl (by first | exact EX.addN (b := 1) (m := 9223372036854775807) rfl rfl rfl (by omega) | exact EX.addZ (m := 9223372036854775807) rfl rfl rfl rfl (by omega)) ?_
  refine OW.val rfl rfl (EX.nilCheck rfl) ?_
  refine OW.val rfl rfl (EX.fieldAddr (off := 7) Tryd.underlying82 rfl rfl ti3 rfl rfl) ?_
  refine OW.storeB rfl ti3 rfl rfl (by first | rfl | assumption | exact Own.one (by assumption)) (hv.cells) (by simp) ?_
  rintro w2 hb2 hm2
  refine OW.nil ?_
  refine KW.seq (KW.region ?_)
  refine OW.val rfl rfl (EX.move rfl) ?_
  refine OW.val rfl rfl (EX.nilCheck rfl) ?_
  refine OW.val rfl rfl (EX.fieldAddr (off := 2) Tryd.underlying82 rfl rfl ti45 rfl rfl) ?_
  have hv2 := Dev.after (D' := readsC D 1) hv.lo hv.cells hm2 hb2 hv.kept hv.now hv.apart hv.pend hv.chs hv.keep
  obtain ⟨A2, c2, e2, hc2, hsl2⟩ := hv2.now.slice
  simp only [readsC, Value.slice.injEq, true_and] at e2
  obtain ⟨rfl, rfl⟩ := e2
  dsimp only [readsC] at hc2 hsl2
  refine OW.val rfl rfl (EX.load Tryd.underlying45 rfl rfl (hv2.cells.cell_of rfl)) ?_
  refine OW.val rfl rfl (EX.move rfl) ?_
  refine OW.val rfl rfl (by first | exact EX.mulN (b := 512) (m := 9223372036854775807) rfl rfl rfl (by omega) | exact EX.mulZ (m := 9223372036854775807) rfl rfl rfl rfl (by omega)) ?_
  refine OW.val rfl rfl (EX.move rfl) ?_
  refine OW.val rfl rfl (by first | exact EX.addN (b := 1) (m := 9223372036854775807) rfl rfl rfl (by omega) | exact EX.addZ (m := 9223372036854775807) rfl rfl rfl rfl (by omega)) ?_
  refine OW.val rfl rfl (by first | exact EX.mulN (b := 512) (m := 9223372036854775807) rfl rfl rfl (by omega) | exact EX.mulZ (m := 9223372036854775807) rfl rfl rfl rfl (by omega)) ?_
  refine OW.sliceALH rfl rfl Tryd.underlying45 ti5 rfl rfl rfl (by omega) (hsl2) (bytesV_length _) ?_
  rintro A3 hsl3
  rw [bytesV_drop_take] at hsl3
  have hsub : (j + 1) * 512 - j * 512 = 512 := by omega
  have hlen : ((D.now.drop (j * 512)).take ((j + 1) * 512 - j * 512)).length = (j + 1) * 512 - j * 512 := by rw [List.length_take, List.length_drop]; omega
  refine OW.val rfl rfl (EX.strOf Tryd.underlying45 Tryd.underlying5 Tryd.underlying9 rfl (hsl3) (hlen)) ?_
  refine OW.val rfl rfl (EX.assign rfl) ?_
  refine OW.val rfl rfl (EX.assign rfl) ?_
  refine OW.nil ?_
  refine KW.ret (ret2 rfl rfl rfl ?_)
  refine ⟨?_, hv2, hm2⟩
  rw [hsub]
  rfl
end
end Go.Proofs.YthgfdpcpbghkpaaDoor
namespace Go.Proofs.YthgfdpcpbghkpaaDoor
open Go.RowKit Pth Rec Srt Cat Dsk Wal
structure SlI (w : World) (B0 : Nat) (D : Dv) (j : Nat) (g : Int) (v : Value) (r : Bool) : Prop where
  right : r = true ↔ Right D j
  gen : r = true → g = (decC (slotSs D j)).1
  own : r = true → Own w B0 50 5 v (decC (slotSs D j)).2.1.length (memsV (decC (slotSs D j)).2.1)
def One (w : World) (B0 : Nat) (D : Dv) (j k : Nat) (g : Int) (v : Value) (r : Bool) : Prop := v.oneCell' = true ∧ (j < k → SlI w B0 D j g v r) ∧ (k ≤ j → r = false)
def SixI (w : World) (B0 sb : Nat) (D : Dv) (k : Nat) : Prop := ∃ g0 v0 r0 g1 v1 r1, Bk w sb 71 [.int .i64 g0, v0, .bool r0, .int .i64 g1, v1, .bool r1] ∧ One w B0 D 0 k g0 v0 r0 ∧ One w B0 D 1 k g1 v1 r1
theorem One.keep {w w' : World} {B0 : Nat} {D : Dv} {j k : Nat} {g : Int} {v : Value} {r : Bool} (h : One w B0 D j k g v r) (ho : ∀ {v n xs}, Own w B0 50 5 v n xs → Own w' B0 50 5 v n xs) : One w' B0 D j k g v r :=
  ⟨h.1, fun q => ⟨(h.2.1 q).right, (h.2.1 q).gen, fun z => ho ((h.2.1 q).own z)⟩, h.2.2⟩
theorem SixI.keep {w w' : World} {B0 sb : Nat} {D : Dv} {k : Nat} (h : SixI w B0 sb D k) (ho : ∀ {v n xs}, Own w B0 50 5 v n xs → Own w' B0 50 5 v n xs) (hb : ∀ {l}, Bk w sb 71 l → Bk w' sb 71 l) : SixI w' B0 sb D k := by
  obtain ⟨g0, v0, r0, g1, v1, r1, h1, h2, h3⟩ := h
  exact ⟨g0, v0, r0, g1, v1, r1, hb h1, h2.keep ho, h3.keep ho⟩
theorem One.skip {w : World} {B0 : Nat} {D : Dv} {j k : Nat} {g : Int} {v : Value} {r : Bool} (h : One w B0 D j k g v r) (hn : ¬ hasS D k) : One w B0 D j (k + 1) g v r := by
  refine ⟨h.1, fun q => ?_, fun q => h.2.2 (by omega)⟩
  rcases Nat.lt_or_ge j k with z | z
  · exact h.2.1 z
  · obtain rfl : j = k := by omega
    have hr := h.2.2 z
    subst hr
    exact ⟨⟨(fun q => by cases q), fun q => absurd q.has hn⟩, fun q => (by cases q), fun q => (by cases q)⟩
theorem SixI.skip {w : World} {B0 sb : Nat} {D : Dv} {k : Nat} (h : SixI w B0 sb D k) (hn : ¬ hasS D k) : SixI w B0 sb D (k + 1) := by
  obtain ⟨g0, v0, r0, g1, v1, r1, h1, h2, h3⟩ := h
  exact ⟨g0, v0, r0, g1, v1, r1, h1, h2.skip hn, h3.skip hn⟩
theorem One.next {w : World} {B0 : Nat} {D : Dv} {j k : Nat} {g : Int} {v : Value} {r : Bool} (h : One w B0 D j k g v r) (hn : j ≠ k) : One w B0 D j (k + 1) g v r :=
  ⟨h.1, fun q => h.2.1 (by omega), fun q => h.2.2 (by omega)⟩
theorem slot_put {w w' : World} {B0 sb : Nat} {D : Dv} {k : Nat} {g g0 g1 : Int} {v v0 v1 : Value} {r r0 r1 : Bool} (hk : k < 2) (hb : Bk w sb 71 [.int .i64 g0, v0, .bool r0, .int .i64 g1, v1, .bool r1]) (h0 : One w B0 D 0 k g0 v0 r0) (h1 : One w B0 D 1 k g1 v1 r1) (hn : One w B0 D k (k + 1) g v r) (hm : Mo w w' [sb])
    (hb' : Bk w' sb 71 ([.int .i64 g0, v0, .bool r0, .int .i64 g1, v1, .bool r1].take (0 + k * 3) ++ [.int .i64 g, v, .bool r] ++ [.int .i64 g0, v0, .bool r0, .int .i64 g1, v1, .bool r1].drop (0 + k * 3 + 3))) : SixI w' B0 sb D (k + 1) := by
  have ko : ∀ {v n xs}, Own w B0 50 5 v n xs → Own w' B0 50 5 v n xs := fun {v n xs} ho => ho.mo hm (fun q hq => by simp; exact fun z => ho.ne hb (by decide) q hq z.symm)
  rcases (show k = 0 ∨ k = 1 by omega) with rfl | rfl
  · exact ⟨_, _, _, _, _, _, hb', hn.keep ko, (h1.next (by decide)).keep ko⟩
  · exact ⟨_, _, _, _, _, _, hb', (h0.next (by decide)).keep ko, hn.keep ko⟩
theorem bk_part {w : World} {b : Nat} {T : TypeId} {l l2 : List Value} {o : Nat} (h : Bk w b T l) (e : (l.drop o).take l2.length = l2) : ∀ j u, l2[j]? = some u → w.cell? ⟨b, o + j, none⟩ = some u := by
  intro j u hj
  have hl := (List.getElem?_eq_some_iff.1 hj).1
  refine h.cell_of ?_
  rw [← e, List.getElem?_take, if_pos hl, List.getElem?_drop] at hj
  exact hj
theorem mlen_tm {w w' : World} {B : Nat} {p : TypeId → Bool} (h : MLen w) (ht : Tm w w' B p) (hg : 0 < B) : MLen w' := by
  obtain ⟨m, hm⟩ := h
  obtain ⟨S, hmo, hS⟩ := ht
  have hlt := World.block_lt_of_cell? w _ hm
  refine ⟨m, ?_⟩
  have h1 := hmo.block 0 hlt (fun q => by have := (hS _ q).1; omega)
  unfold World.cell? at hm ⊢
  rw [h1]
  exact hm
section
variable {w w' : World} {B b : Nat} {D : Dv} {vk vn vp vq : Value} {vs : List Value}
theorem Dev.tmB (h : Dev w B b D vk vn vp vq vs) (hm : Mo w w' [b]) : Tm w w' B dty := ⟨[b], hm, fun k hk => by
  simp only [List.mem_singleton] at hk
  subst hk
  exact ⟨h.lo, _, _, h.cells, rfl⟩⟩
end
theorem dec_low {ss : Txts} (h : (decC ss).2.2 = 0) : 0 ≤ (decC ss).1 := by
  rcases Classical.em (OkD ss) with q | q
  · rw [decC_ok q]
    exact (enc_parts q.enc).1.low
  · rw [decC_no q] at h
    cases h
theorem dec_fine (ss : Txts) : (∀ m ∈ (decC ss).2.1, m.Ok) ∧ (decC ss).2.1.length ≤ 1000000000 ∨ 1000000 < ss.length := by
  rcases Nat.lt_or_ge 1000000 ss.length with hl | hl
  · exact .inr hl
  · left
    rcases Classical.em (OkD ss) with q | q
    · rw [decC_ok q]
      refine ⟨memsOf_ok ss, ?_⟩
      have h1 := memL_lenC ((datas ss).length + 1) (datas ss) []
      have h2 := datas_most ss
      have hmd : memL ((datas ss).length + 1) (datas ss) [] = memsOf ss := rfl
      rw [hmd] at h1
      simp only [List.length_nil, Nat.zero_add] at h1
      show (memsOf ss).1.length ≤ _
      omega
    · rw [decC_no q]
      simp
theorem slotSs_take {D : Dv} {k i : Nat} (h : i < 5) : txtsV ((slotSs D k).take (i + 1)) = txtsV ((slotSs D k).take i) ++ [str (secAt D.now (k * 5 + i))] := by
  have hl : i < (slotSs D k).length := by rw [slotSs_len]; exact h
  rw [← List.take_append_getElem hl]
  simp [txtsV, slotSs]
set_option maxRecDepth 20000 in
theorem cload_s {D : Dv} (hD : D.Ok) {k0 : Nat} (hsm : Sm D k0) (hk0 : k0 ≤ 900000) (B b : Nat) (w : World) (hG : MLen w) (hgl : 0 < B) (h : DevAt w B b D) :
    Ret Tryd.prog 11 [.pointer (some ⟨b, 0, none⟩)] w fun v w' => (∃ u, v = .tuple #[.int .i64 (loadC D).1, u, .int .i64 (((loadC D).2.2 : Nat) : Int)] ∧ Own w' w.heap.size 50 5 u (loadC D).2.1.length (memsV (loadC D).2.1)) ∧ DevAt w' B b (loadedC D) ∧ Tm w w' B dty := by
  have hcap := hD.cap
  have hnow := hD.now
  refine Ret.enter Tryd.func11 rfl Tryd.ntmps11 (by kernel_rfl) rfl ?_
  refine KW.seq (KW.region ?_)
  refine OW.val rfl rfl (EX.assign rfl) ?_
  refine OW.val rfl rfl (EX.assign rfl) ?_
  refine OW.val rfl rfl (EX.assign rfl) ?_
  refine OW.nil ?_
  refine KW.seq (KW.seq (KW.region ?_))
  refine OW.val rfl rfl (EX.move rfl) ?_
  refine OW.call rfl rfl rfl (capacity_d h hD) ?_
  rintro _ _ ⟨rfl, rfl⟩
  refine OW.val rfl rfl (by first | exact EX.eqlN (b := 0) rfl rfl | exact EX.eqlZ rfl rfl) ?_
  refine OW.nil ?_
  refine KW.condD rfl (fun h0 => ?_) (fun h0 => ?_)
  · omega
  · refine KW.skip (KW.seq (KW.seq (KW.region ?_)))
    refine OW.val rfl rfl (EX.move rfl) ?_
    refine OW.call rfl rfl rfl (dead_d h hD) ?_
    rintro _ _ ⟨rfl, rfl⟩
    refine OW.nil ?_
    refine KW.cond rfl (fun hd => ?_) (fun hd => ?_)
    · have e1 : loadC D = (0, [], 190) := by unfold loadC; rw [if_pos hd]
      have e2 : loadedC D = D := by unfold loadedC; rw [if_pos hd]
      refine KW.seq (KW.region ?_)
      refine OW.val rfl rfl (EX.assign rfl) ?_
      refine OW.val rfl rfl (EX.assign rfl) ?_
      refine OW.val rfl rfl (EX.assign rfl) ?_
      refine OW.nil ?_
      refine KW.ret (ret3 rfl rfl rfl rfl ?_)
      rw [e1, e2]
      exact ⟨⟨_, rfl, Own.nil _ _ _ _⟩, h, Tm.refl _ _ _⟩
    · have e1 : loadC D = bestC (slotC D 0) (slotC D 1) := by unfold loadC; rw [if_neg (by rw [hd]; decide)]
      have e2 : loadedC D = readsC D (nreads D) := by unfold loadedC; rw [if_neg (by rw [hd]; decide)]
      rw [e1, e2]
      obtain ⟨vk, vn, vp, vq, vs, hv⟩ := id h
      refine KW.skip (KW.seq (KW.region ?_))
      refine OW.allocB (l := [.int .i64 0, .slice none 0 0, .bool false, .int .i64 0, .slice none 0 0, .bool false]) rfl rfl ti71 rfl ?_
      rintro sb w1 hge1 hb1 hx1
      refine OW.nil ?_
      refine KW.seq (KW.seq (KW.region ?_))
      refine OW.val rfl rfl (EX.move rfl) ?_
      refine OW.nil ?_
      have hsix : SixI w1 w.heap.size sb D 0 := ⟨_, _, _, _, _, _, hb1, ⟨rfl, fun q => by omega, fun _ => rfl⟩, ⟨rfl, fun q => by omega, fun _ => rfl⟩⟩
      refine KW.cut1 (fun (wr : World) => Dev wr B b (readsC D (nreads D)) vk vn vp vq vs ∧ Tm w wr B dty ∧ SixI wr w.heap.size sb D 2) (fun (wr : World) => [(5, .pointer (some ⟨sb, 0, none⟩))]) (fun (wr : World) => wr) ?_ ?_
      · refine KW.block ?_
        refine KW.loop3 (fun (k : Nat) (n : Nat) (wr : World) => k ≤ 2 ∧ n = (if 0 < k ∧ hasS D 0 then 5 else 0) + (if 1 < k ∧ hasS D 1 then 5 else 0) ∧ Dev wr B b (readsC D n) vk vn vp vq vs ∧ Tm w wr B dty ∧ SixI wr w.heap.size sb D k) (fun (k : Nat) (n : Nat) (wr : World) => [(0, .pointer (some ⟨b, 0, none⟩)), (5, .pointer (some ⟨sb, 0, none⟩)), (21, .int .i64 ((k : Nat) : Int))]) (fun (k : Nat) (n : Nat) (wr : World) => wr) (fun (k : Nat) (n : Nat) (wr : World) => 2 - k) (0) (0) (w1) ⟨rfl, rfl, rfl, trivial⟩ rfl ?_ ?_
        · exact ⟨Nat.zero_le _, by simp, hv.ext hx1, Tm.of_ext hx1 _ _, hsix⟩
        · rintro k n wr ⟨hk2, hn, hvr, htr, hsix⟩
          have hn10 : n ≤ 10 := by rw [hn]; split <;> split <;> omega
          have hrd : (readsC D n).dead = false := hd
          have hro : (readsC D n).Ok := reads_ok hD n
          have hBs : B ≤ sb := by have := hvr.lo; have := hv.lo; have := hv.cells.lt; omega
          have hnw : (readsC D n).now.length = D.now.length := rfl
          refine KW.seq (KW.region ?_)
          refine OW.val rfl rfl (by first | exact EX.lssN (b := 2) rfl rfl | exact EX.lssZ rfl rfl) ?_
          refine OW.nil ?_
          refine KW.seq ?_
          refine KW.condD rfl (fun hlt => ?_) (fun hlt => ?_)
          · have hnk : (if 0 < k + 1 ∧ hasS D 0 then 5 else 0) + (if 1 < k + 1 ∧ hasS D 1 then 5 else 0) = n + (if hasS D k then 5 else 0) := by
              rcases (show k = 0 ∨ k = 1 by omega) with rfl | rfl
              · rw [hn]; simp
              · rw [hn]; simp
            refine KW.skip (KW.seq (KW.block (KW.seq (KW.region ?_))))
            refine OW.val rfl rfl (EX.move rfl) ?_
            refine OW.val rfl rfl (EX.assign rfl) ?_
            refine OW.nil ?_
            refine KW.seq (KW.seq (KW.region ?_))
            refine OW.val rfl rfl (EX.move rfl) ?_
            refine OW.call rfl rfl rfl (len_d hvr.at_ hro) ?_
            rintro _ _ ⟨rfl, rfl⟩
            refine OW.val rfl rfl (EX.move rfl) ?_
            refine OW.val rfl rfl (by first | exact EX.addN (b := 1) (m := 9223372036854775807) rfl rfl rfl (by omega) | exact EX.addZ (m := 9223372036854775807) rfl rfl rfl rfl (by omega)) ?_
            refine OW.val rfl rfl (by first | exact EX.mulN (b := 5) (m := 9223372036854775807) rfl rfl rfl (by omega) | exact EX.mulZ (m := 9223372036854775807) rfl rfl rfl rfl (by omega)) ?_
            refine OW.val rfl rfl (by first | exact EX.lssN rfl rfl | exact EX.lssZ rfl rfl) ?_
            refine OW.nil ?_
            refine KW.condD rfl (fun hfew => ?_) (fun hfew => ?_)
            · have hno : ¬ hasS D k := fun q => by unfold hasS at q; rw [hnw] at hfew; omega
              refine KW.exit rfl (KW.region ?_)
              refine OW.val rfl rfl (by first | exact EX.addN (b := 1) (m := 9223372036854775807) rfl rfl rfl (by omega) | exact EX.addZ (m := 9223372036854775807) rfl rfl rfl rfl (by omega)) ?_
              refine OW.val rfl rfl (EX.move rfl) ?_
              refine OW.nil ?_
              refine KW.back3 (k + 1) (n) (wr) ⟨rfl, rfl, rfl, trivial⟩ rfl ?_ (by omega)
              refine ⟨by omega, ?_, hvr, htr, hsix.skip hno⟩
              rw [hnk, if_neg hno, Nat.add_zero]
            · have hyes : hasS D k := by rw [hnw] at hfew; unfold hasS; omega
              have hyes2 := hyes
              unfold hasS at hyes2
              refine KW.skip (KW.seq (KW.region ?_))
              refine OW.val rfl rfl (EX.assign rfl) ?_
              refine OW.nil ?_
              refine KW.seq (KW.seq (KW.region ?_))
              refine OW.val rfl rfl (EX.move rfl) ?_
              refine OW.nil ?_
              refine KW.cut2 (fun (v : Value) (wq : World) => Own wq wr.heap.size 9 1 v 5 (txtsV (slotSs D k)) ∧ Dev wq B b (readsC D (n + 5)) vk vn vp vq vs ∧ Mo wr wq [b]) (fun (v : Value) (wq : World) => [(0, .pointer (some ⟨b, 0, none⟩)), (5, .pointer (some ⟨sb, 0, none⟩)), (6, .int .i64 ((k : Nat) : Int)), (7, v), (21, .int .i64 ((k : Nat) : Int))]) (fun (v : Value) (wq : World) => wq) ?_ ?_
              · refine KW.block ?_
                refine KW.loop3 (fun (i : Nat) (v : Value) (wq : World) => i ≤ 5 ∧ Own wq wr.heap.size 9 1 v i (txtsV ((slotSs D k).take i)) ∧ Dev wq B b (readsC D (n + i)) vk vn vp vq vs ∧ Mo wr wq [b]) (fun (i : Nat) (v : Value) (wq : World) => [(0, .pointer (some ⟨b, 0, none⟩)), (5, .pointer (some ⟨sb, 0, none⟩)), (6, .int .i64 ((k : Nat) : Int)), (7, v), (21, .int .i64 ((k : Nat) : Int)), (30, .int .i64 ((i : Nat) : Int))]) (fun (i : Nat) (v : Value) (wq : World) => wq) (fun (i : Nat) (v : Value) (wq : World) => 5 - i) (0) (.slice none 0 0) (wr) ⟨rfl, rfl, rfl, rfl, rfl, rfl, trivial⟩ rfl ?_ ?_
                · exact ⟨Nat.zero_le _, Own.nil _ _ _ _, hvr, Mo.refl _ _⟩
                · rintro i v wq ⟨hi, hown, hvq, hmq⟩
                  refine KW.seq (KW.region ?_)
                  refine OW.val rfl rfl (by first | exact EX.lssN (b := 5) rfl rfl | exact EX.lssZ rfl rfl) ?_
                  refine OW.nil ?_
                  refine KW.seq ?_
                  refine KW.condD rfl (fun hli => ?_) (fun hli => ?_)
                  · have cr := readv_d hvq (reads_ok hD _) ((reads_sm hsm (n + i)).small (by omega)) hd (j := k * 5 + i) (by show _ < D.now.length / 512; omega)
                    refine KW.skip (KW.seq (KW.block (KW.seq (KW.region ?_))))
                    refine OW.val rfl rfl (EX.move rfl) ?_
                    refine OW.val rfl rfl (EX.assign rfl) ?_
                    refine OW.nil ?_
                    refine KW.seq (KW.region ?_)
                    refine OW.val rfl rfl (EX.move rfl) ?_
                    refine OW.val rfl rfl (EX.move rfl) ?_
                    refine OW.val rfl rfl (by first | exact EX.mulN (b := 5) (m := 9223372036854775807) rfl rfl rfl (by omega) | exact EX.mulZ (m := 9223372036854775807) rfl rfl rfl rfl (by omega)) ?_
                    refine OW.val rfl rfl (EX.move rfl) ?_
                    refine OW.val rfl rfl (by first | exact EX.addN (m := 9223372036854775807) rfl rfl rfl (by omega) | exact EX.addZ (m := 9223372036854775807) rfl rfl rfl rfl (by omega)) ?_
                    refine OW.call rfl rfl rfl (cr) ?_
                    rintro _ w5 ⟨rfl, hv5, hm5⟩
                    refine OW.val rfl rfl (EX.move rfl) ?_
                    refine OW.val rfl rfl (EX.extract rfl rfl) ?_
                    refine OW.val rfl rfl (EX.extract rfl rfl) ?_
                    refine OW.val rfl rfl (EX.assign rfl) ?_
                    refine OW.val rfl rfl (EX.assign rfl) ?_
                    refine OW.nil ?_
                    refine KW.region ?_
                    refine OW.val rfl rfl (EX.move rfl) ?_
                    refine OW.val rfl rfl (EX.move rfl) ?_
                    have hown5 := hown.mo hm5 (fun q hq => by simp; exact fun z => hown.ne hvq.cells (by decide) q hq z.symm)
                    have hm5r := hmq.trans hm5
                    refine OW.pushB (wr.heap.size) rfl rfl (fun _ => rfl) rfl Tryd.underlying23 ti9 rfl rfl (fun _ => rfl) (by first | rfl | assumption | exact Own.one (by assumption)) (hm5r.size) (hown5) (by simp only [maxLen]; omega) (by omega) ?_
                    rintro _ v6 w6 hown6 hmo6 hblk6
                    refine OW.val rfl rfl (EX.assign rfl) ?_
                    refine OW.nil ?_
                    refine KW.leave (KW.region ?_)
                    refine OW.val rfl rfl (by first | exact EX.addN (b := 1) (m := 9223372036854775807) rfl rfl rfl (by omega) | exact EX.addZ (m := 9223372036854775807) rfl rfl rfl rfl (by omega)) ?_
                    refine OW.val rfl rfl (EX.move rfl) ?_
                    refine OW.nil ?_
                    refine KW.back3 (i + 1) (v6) (w6) ⟨rfl, rfl, rfl, rfl, rfl, rfl, trivial⟩ rfl ?_ (by omega)
                    have hm6 : Mo wr w6 [b] := Mo.fresh (S := [b] ++ v.ownBlock.toList) ((hm5r.mono (by simp)).trans (hmo6.mono (by simp; exact fun q hq => .inr hq))) (fun q hq hlt => by
                      rcases List.mem_append.1 hq with z | z
                      · exact z
                      · have := (hown5.lt q (Option.mem_toList.1 z)).1
                        omega)
                    refine ⟨by omega, by rw [slotSs_take (by omega)]; exact hown6, ?_, hm6⟩
                    have hv6 := hv5.mo hmo6 (fun q hq => by
                      obtain ⟨_, l, hbq⟩ := hown5.blkT q (Option.mem_toList.1 hq)
                      exact ⟨_, l, hbq, by decide, by decide, by decide, by decide⟩) (hvr.chs.tm (hvr.tmB hm6) rfl rfl)
                    rw [reads_reads] at hv6
                    exact hv6
                  · obtain rfl : i = 5 := by omega
                    rw [List.take_of_length_le (by rw [slotSs_len]; exact Nat.le_refl _)] at hown
                    refine KW.exit rfl ?_
                    refine KW.meet2 (v) (wq) ⟨rfl, rfl, rfl, rfl, rfl, trivial⟩ rfl ?_
                    exact ⟨hown, hvq, hmq⟩
              · rintro v wq ⟨hown, hvq, hmq⟩
                obtain ⟨A5, c5, rfl, _, hsl5⟩ := hown.slice
                have htq : Tm w wq B dty := htr.trans (hvr.tmB hmq)
                have hGq := mlen_tm hG htq hgl
                have hl5 := slotSs_len D k
                have cd := decode23_s (slotSs D k) (by omega) A5 c5 _ wq hGq hsl5
                rw [hl5] at cd
                have hdl := dec_low (ss := slotSs D k)
                have hdf := (dec_fine (slotSs D k)).resolve_right (by omega)
                have hright : ∀ r : Bool, (r = true ↔ ((decC (slotSs D k)).2.2 = 0 ∧ (decC (slotSs D k)).1 % 2 = (k : Int) ∧ OkC (decC (slotSs D k)).2.1 D.cap)) → (r = true ↔ Right D k) := fun r q => q.trans ⟨fun z => ⟨hyes, z.1, z.2.1, z.2.2⟩, fun z => ⟨z.dec, z.par, z.chk⟩⟩
                have hsixq : SixI wq w.heap.size sb D k := hsix.keep (fun ho => (hvr.tmB hmq).own ho (by decide)) (fun hb => (hvr.tmB hmq).bk hb (by decide))
                have hSl : ∀ (w' : World) (v : Value) (r : Bool), (r = true ↔ Right D k) → Own w' w.heap.size 50 5 v (decC (slotSs D k)).2.1.length (memsV (decC (slotSs D k)).2.1) → One w' w.heap.size D k (k + 1) (decC (slotSs D k)).1 v r := fun w' v r h1 h2 => ⟨Own.one h2, fun _ => ⟨h1, fun _ => rfl, fun _ => h2⟩, fun q => by omega⟩
                generalize hgen : (decC (slotSs D k)).1 = gg at cd hdl hright hSl
                generalize hmem : (decC (slotSs D k)).2.1 = ll at cd hdf hright hSl
                generalize (decC (slotSs D k)).2.2 = ee at cd hdl hright
                refine KW.seq (KW.region ?_)
                refine OW.val rfl rfl (EX.move rfl) ?_
                refine OW.call rfl rfl rfl (cd) ?_
                rintro _ w7 ⟨⟨u7, rfl, hown7⟩, hx7⟩
                refine OW.val rfl rfl (EX.move rfl) ?_
                refine OW.val rfl rfl (EX.extract rfl rfl) ?_
                refine OW.val rfl rfl (EX.extract rfl rfl) ?_
                refine OW.val rfl rfl (EX.extract rfl rfl) ?_
                refine OW.val rfl rfl (EX.assign rfl) ?_
                refine OW.val rfl rfl (EX.assign rfl) ?_
                refine OW.val rfl rfl (EX.assign rfl) ?_
                refine OW.nil ?_
                have hsix7 : SixI w7 w.heap.size sb D k := hsixq.keep (fun ho => ho.ext hx7) (fun hb => hb.ext hx7)
                have hv7 := hvq.ext hx7
                have ht7 : Tm w w7 B dty := htq.trans (Tm.of_ext hx7 _ _)
                have hwq := htq.size
                have hown7' : Own w7 w.heap.size 50 5 u7 ll.length (memsV ll) := hown7.more hwq
                obtain ⟨A7, c7, rfl, _, hsl7⟩ := hown7.slice
                obtain ⟨g0, v0, r0, g1, v1, r1, hb6, ho0, ho1⟩ := hsix7
                have fin : ∀ (r : Bool) (wx wz : World), (r = true ↔ Right D k) → Ext w7 wx → Bk wz sb 71 ([.int .i64 g0, v0, .bool r0, .int .i64 g1, v1, .bool r1].take (0 + k * 3) ++ [.int .i64 gg, .slice A7 ll.length c7, .bool r] ++ [.int .i64 g0, v0, .bool r0, .int .i64 g1, v1, .bool r1].drop (0 + k * 3 + 3)) → Mo wx wz [sb] → (k + 1 ≤ 2 ∧ n + 5 = (if 0 < k + 1 ∧ hasS D 0 then 5 else 0) + (if 1 < k + 1 ∧ hasS D 1 then 5 else 0) ∧ Dev wz B b (readsC D (n + 5)) vk vn vp vq vs ∧ Tm w wz B dty ∧ SixI wz w.heap.size sb D (k + 1)) := fun r wx wz q hx hb hm => by
                  have hvx := hv7.ext hx
                  have hbx := hb6.ext hx
                  refine ⟨by omega, by rw [hnk, if_pos hyes], hvx.mo hm (fun z hz => ?_) (hvx.chs.tm (Tm.set hbx hm hBs) rfl rfl), (ht7.trans (Tm.of_ext hx _ _)).fresh hm (fun z hz => ?_), slot_put (by omega) hbx (ho0.keep (fun ho => ho.ext hx)) (ho1.keep (fun ho => ho.ext hx)) (hSl wx _ r q (hown7'.ext hx)) hm hb⟩
                  · simp only [List.mem_singleton] at hz
                    subst hz
                    exact ⟨_, _, hbx, by decide, by decide, by decide, by decide⟩
                  · simp only [List.mem_singleton] at hz
                    omega
                refine KW.region ?_
                refine OW.val rfl rfl (EX.move rfl) ?_
                refine OW.val rfl rfl (EX.move rfl) ?_
                refine OW.val rfl rfl (EX.move rfl) ?_
                refine OW.val rfl rfl (EX.move rfl) ?_
                refine OW.val rfl rfl (by first | exact EX.eqlN (b := 0) rfl rfl | exact EX.eqlZ rfl rfl) ?_
                refine OW.val rfl rfl (EX.move rfl) ?_
                refine OW.splitD 58 rfl (fun he => ?_) (fun he => ?_)
                · obtain rfl : ee = 0 := by omega
                  obtain ⟨gN, rfl⟩ := Int.eq_ofNat_of_zero_le (hdl rfl)
                  refine OW.val rfl rfl (EX.move rfl) ?_
                  refine OW.val rfl rfl (by first | exact EX.remN (b := 2) rfl rfl (by omega) | exact EX.remZ rfl rfl (by decide)) ?_
                  refine OW.val rfl rfl (EX.move rfl) ?_
                  refine OW.val rfl rfl (by first | exact EX.eqlN rfl rfl | exact EX.eqlZ rfl rfl) ?_
                  refine OW.val rfl rfl (EX.pickT rfl rfl) ?_
                  refine OW.val rfl rfl (EX.move rfl) ?_
                  refine OW.splitD 64 rfl (fun hp => ?_) (fun hp => ?_)
                  · refine OW.val rfl rfl (EX.move rfl) ?_
                    refine OW.val rfl rfl (EX.move rfl) ?_
                    refine OW.call rfl rfl rfl (capacity_d hv7.at_ (reads_ok hD _)) ?_
                    rintro _ _ ⟨rfl, rfl⟩
                    refine OW.call rfl rfl rfl (chk_s ll hdf.1 (by omega) D.cap A7 c7 _ w7 (mlen_tm hG ht7 hgl) hsl7) ?_
                    rintro _ w8 ⟨rfl, hx8⟩
                    refine OW.val rfl rfl (by first | exact EX.eqlN (b := 0) rfl rfl | exact EX.eqlZ rfl rfl) ?_
                    refine OW.val rfl rfl (EX.pickT rfl rfl) ?_
                    refine OW.val rfl rfl (EX.buildS (pl := [(0, 1), (1, 1), (2, 1)]) (ks := [0, 1, 2]) (is := [0, 1, 2]) (zs := [.int .i64 0, .slice none 0 0, .bool false]) Tryd.underlying70 ti70 (by kernel_rfl) rfl rfl rfl (by first | rfl | (simp only [List.all_cons, List.all_nil, Bool.and_true, Bool.true_and, Bool.and_eq_true, Value.oneCell']; repeat (first | assumption | exact Own.one (by assumption) | constructor))) (by simp only [setAll, List.set_cons_zero, List.set_cons_succ]; rfl)) ?_
                    refine OW.val rfl rfl (EX.indexAddrA Tryd.underlying71 ti70 rfl rfl (by omega)) ?_
                    refine OW.storeS rfl ti70 rfl rfl rfl (by first | rfl | (simp only [List.all_cons, List.all_nil, Bool.and_true, Bool.true_and, Bool.and_eq_true, Value.oneCell']; repeat (first | assumption | exact Own.one (by assumption) | constructor))) ((hb6.ext hx8)) (by simp; omega) ?_
                    rintro w9 hb9 hm9
                    refine OW.nil ?_
                    refine KW.leave (KW.region ?_)
                    refine OW.val rfl rfl (by first | exact EX.addN (b := 1) (m := 9223372036854775807) rfl rfl rfl (by omega) | exact EX.addZ (m := 9223372036854775807) rfl rfl rfl rfl (by omega)) ?_
                    refine OW.val rfl rfl (EX.move rfl) ?_
                    refine OW.nil ?_
                    refine KW.back3 (k + 1) (n + 5) (w9) ⟨rfl, rfl, rfl, trivial⟩ rfl ?_ (by omega)
                    refine fin _ w8 w9 ?_ hx8 hb9 hm9
                    apply hright
                    have e9 : (chkC ll (D.cap : Int) = 0) ↔ OkC ll (D.cap : Int) := ⟨fun z => Classical.byContradiction fun y => (by rw [chkC_no y] at z; cases z), fun z => chkC_ok z⟩
                    simp only [decide_eq_true_eq]
                    refine Iff.intro (fun z => And.intro ?_ (And.intro ?_ (e9.1 z))) (fun z => e9.2 z.2.2)
                    · first | trivial | rfl
                    · omega
                  · refine OW.pass rfl rfl ?_
                    refine OW.pass rfl rfl ?_
                    refine OW.pass rfl rfl ?_
                    refine OW.pass rfl rfl ?_
                    refine OW.pass rfl rfl ?_
                    refine OW.val rfl rfl (EX.pickF rfl rfl) ?_
                    refine OW.val rfl rfl (EX.buildS (pl := [(0, 1), (1, 1), (2, 1)]) (ks := [0, 1, 2]) (is := [0, 1, 2]) (zs := [.int .i64 0, .slice none 0 0, .bool false]) Tryd.underlying70 ti70 (by kernel_rfl) rfl rfl rfl (by first | rfl | (simp only [List.all_cons, List.all_nil, Bool.and_true, Bool.true_and, Bool.and_eq_true, Value.oneCell']; repeat (first | assumption | exact Own.one (by assumption) | constructor))) (by simp only [setAll, List.set_cons_zero, List.set_cons_succ]; rfl)) ?_
                    refine OW.val rfl rfl (EX.indexAddrA Tryd.underlying71 ti70 rfl rfl (by omega)) ?_
                    refine OW.storeS rfl ti70 rfl rfl rfl (by first | rfl | (simp only [List.all_cons, List.all_nil, Bool.and_true, Bool.true_and, Bool.and_eq_true, Value.oneCell']; repeat (first | assumption | exact Own.one (by assumption) | constructor))) (hb6) (by simp; omega) ?_
                    rintro w9 hb9 hm9
                    refine OW.nil ?_
                    refine KW.leave (KW.region ?_)
                    refine OW.val rfl rfl (by first | exact EX.addN (b := 1) (m := 9223372036854775807) rfl rfl rfl (by omega) | exact EX.addZ (m := 9223372036854775807) rfl rfl rfl rfl (by omega)) ?_
                    refine OW.val rfl rfl (EX.move rfl) ?_
                    refine OW.nil ?_
                    refine KW.back3 (k + 1) (n + 5) (w9) ⟨rfl, rfl, rfl, trivial⟩ rfl ?_ (by omega)
                    refine fin _ w7 w9 ?_ (Ext.refl _) hb9 hm9
                    apply hright
                    simp only [Bool.false_eq_true, false_iff]
                    exact fun z => absurd z.2.1 (by omega)
                · refine OW.pass rfl rfl ?_
                  refine OW.pass rfl rfl ?_
                  refine OW.pass rfl rfl ?_
                  refine OW.pass rfl rfl ?_
                  refine OW.val rfl rfl (EX.pickF rfl rfl) ?_
                  refine OW.val rfl rfl (EX.move rfl) ?_
                  refine OW.pass rfl rfl ?_
                  refine OW.pass rfl rfl ?_
                  refine OW.pass rfl rfl ?_
                  refine OW.pass rfl rfl ?_
                  refine OW.pass rfl rfl ?_
                  refine OW.val rfl rfl (EX.pickF rfl rfl) ?_
                  refine OW.val rfl rfl (EX.buildS (pl := [(0, 1), (1, 1), (2, 1)]) (ks := [0, 1, 2]) (is := [0, 1, 2]) (zs := [.int .i64 0, .slice none 0 0, .bool false]) Tryd.underlying70 ti70 (by kernel_rfl) rfl rfl rfl (by first | rfl | (simp only [List.all_cons, List.all_nil, Bool.and_true, Bool.true_and, Bool.and_eq_true, Value.oneCell']; repeat (first | assumption | exact Own.one (by assumption) | constructor))) (by simp only [setAll, List.set_cons_zero, List.set_cons_succ]; rfl)) ?_
                  refine OW.val rfl rfl (EX.indexAddrA Tryd.underlying71 ti70 rfl rfl (by omega)) ?_
                  refine OW.storeS rfl ti70 rfl rfl rfl (by first | rfl | (simp only [List.all_cons, List.all_nil, Bool.and_true, Bool.true_and, Bool.and_eq_true, Value.oneCell']; repeat (first | assumption | exact Own.one (by assumption) | constructor))) (hb6) (by simp; omega) ?_
                  rintro w9 hb9 hm9
                  refine OW.nil ?_
                  refine KW.leave (KW.region ?_)
                  refine OW.val rfl rfl (by first | exact EX.addN (b := 1) (m := 9223372036854775807) rfl rfl rfl (by omega) | exact EX.addZ (m := 9223372036854775807) rfl rfl rfl rfl (by omega)) ?_
                  refine OW.val rfl rfl (EX.move rfl) ?_
                  refine OW.nil ?_
                  refine KW.back3 (k + 1) (n + 5) (w9) ⟨rfl, rfl, rfl, trivial⟩ rfl ?_ (by omega)
                  refine fin _ w7 w9 ?_ (Ext.refl _) hb9 hm9
                  apply hright
                  simp only [Bool.false_eq_true, false_iff]
                  exact fun z => absurd z.1 (by omega)
          · obtain rfl : k = 2 := by omega
            refine KW.exit rfl ?_
            refine KW.meet1 (wr) ⟨rfl, trivial⟩ rfl ?_
            refine ⟨?_, htr, hsix⟩
            have : n = nreads D := by rw [hn]; unfold nreads; simp
            rw [← this]
            exact hvr
      · rintro wr ⟨hvr, htr, hsix⟩
        obtain ⟨g0, v0, r0, g1, v1, r1, hb6, ho0, ho1⟩ := hsix
        have hs0 := ho0.2.1 (by decide)
        have hs1 := ho1.2.1 (by decide)
        have hc0 := ho0.1
        have hc1 := ho1.1
        refine KW.seq ?_
        refine KW.cut3 (fun (wz : World) (a : Nat) (c : Nat) => Ext wr wz ∧ Bk wz a 70 [.int .i64 g0, v0, .bool r0] ∧ Bk wz c 70 [.int .i64 g1, v1, .bool r1]) (fun (wz : World) (a : Nat) (c : Nat) => [(14, .pointer (some ⟨a, 0, none⟩)), (15, .pointer (some ⟨c, 0, none⟩))]) (fun (wz : World) (a : Nat) (c : Nat) => wz) ?_ ?_
        · have hdr : wr.drew.heap.size = wr.heap.size := rfl
          have hb6d : Bk wr.drew sb 71 [.int .i64 g0, v0, .bool r0, .int .i64 g1, v1, .bool r1] := hb6.ext (Ext.drew wr)
          refine KW.regionG (N := 8) (fun w' => Bk w' sb 71 [.int .i64 g0, v0, .bool r0, .int .i64 g1, v1, .bool r1]) (by kernel_rfl) rfl ?_
          have hS := hb6d
          refine GW.val 0 rfl (by kernel_rfl) (by kernel_rfl) (by kernel_rfl) rfl rfl hS (fun w' hS' => EX.indexAddrA (i := 0) Tryd.underlying71 ti70 rfl rfl (by omega)) ?_
          refine GW.val 1 rfl (by kernel_rfl) (by kernel_rfl) (by kernel_rfl) rfl rfl hS (fun w' hS' => EX.loadA (l := [.int .i64 g0, v0, .bool r0]) Tryd.underlying70 rfl ti70 rfl rfl (bk_part hS' (o := 0) (l2 := [.int .i64 g0, v0, .bool r0]) rfl)) ?_
          refine GW.val 2 rfl (by kernel_rfl) (by kernel_rfl) (by kernel_rfl) rfl rfl hS (fun w' hS' => EX.indexAddrA (i := 1) Tryd.underlying71 ti70 rfl rfl (by omega)) ?_
          refine GW.val 3 rfl (by kernel_rfl) (by kernel_rfl) (by kernel_rfl) rfl rfl hS (fun w' hS' => EX.loadA (l := [.int .i64 g1, v1, .bool r1]) Tryd.underlying70 rfl ti70 rfl rfl (bk_part hS' (o := 3) (l2 := [.int .i64 g1, v1, .bool r1]) rfl)) ?_
          refine GW.two 4 5 (by kernel_rfl) ?_ ?_
          · refine GO.allocB (l := [.int .i64 0, .slice none 0 0, .bool false]) 4 rfl rfl rfl ti70 rfl ?_
            rintro ba x1 hg1 hn1 hx1
            refine ⟨hS.ext hx1, fun hS => ?_⟩
            refine GW.allocB (l := [.int .i64 0, .slice none 0 0, .bool false]) 5 rfl (by kernel_rfl) rfl rfl ti70 rfl ?_
            rintro bc x2 hg2 hn2 hx2
            refine ⟨hS.ext hx2, fun hS => ?_⟩
            have hne2 : ba ≠ bc := by have := hn1.lt; omega
            have ha2 := hn1.ext hx2
            have hz1 := hx1.size
            have hz2 := hx2.size
            refine GW.storeS 6 rfl (by kernel_rfl) rfl ti70 rfl rfl rfl (by first | rfl | (simp only [List.all_cons, List.all_nil, Bool.and_true, Bool.true_and, Bool.and_eq_true, Value.oneCell']; repeat (first | assumption | exact Own.one (by assumption) | constructor))) (ha2) (by simp) ?_
            rintro x3 hn3 hm3
            refine ⟨hS.mo hm3 (by simp; exact hS.ne ha2 (by decide)), fun hS => ?_⟩
            have hc3 := hn2.mo hm3 (by simp; exact fun z => hne2 z.symm)
            have hz3 := hm3.size
            refine GW.storeS 7 rfl (by kernel_rfl) rfl ti70 rfl rfl rfl (by first | rfl | (simp only [List.all_cons, List.all_nil, Bool.and_true, Bool.true_and, Bool.and_eq_true, Value.oneCell']; repeat (first | assumption | exact Own.one (by assumption) | constructor))) (hc3) (by simp) ?_
            rintro x4 hn4 hm4
            refine ⟨hS.mo hm4 (by simp; exact hS.ne hc3 (by decide)), fun hS => ?_⟩
            refine GW.done (by kernel_rfl) ?_
            have hz4 := hm4.size
            refine KW.meet3 (x4) (ba) (bc) ⟨rfl, rfl, trivial⟩ rfl ?_
            have hmo : Mo wr x4 [ba, bc] := (((((Mo.of_ext (Ext.drew wr) _).trans (Mo.of_ext hx1 _)).trans (Mo.of_ext hx2 _)).trans (hm3.mono (by simp))).trans (hm4.mono (by simp)))
            exact ⟨(Mo.fresh (S' := []) hmo (fun q hq hlt => by simp at hq; rcases hq with rfl | rfl <;> omega)).ext, hn3.mo hm4 (by simp; exact hne2), hn4⟩
          · refine GO.allocB (l := [.int .i64 0, .slice none 0 0, .bool false]) 5 rfl rfl rfl ti70 rfl ?_
            rintro bc x1 hg1 hn1 hx1
            refine ⟨hS.ext hx1, fun hS => ?_⟩
            refine GW.allocB (l := [.int .i64 0, .slice none 0 0, .bool false]) 4 rfl (by kernel_rfl) rfl rfl ti70 rfl ?_
            rintro ba x2 hg2 hn2 hx2
            refine ⟨hS.ext hx2, fun hS => ?_⟩
            have hne2 : ba ≠ bc := by have := hn1.lt; omega
            have hc2 := hn1.ext hx2
            have hz1 := hx1.size
            have hz2 := hx2.size
            refine GW.storeS 6 rfl (by kernel_rfl) rfl ti70 rfl rfl rfl (by first | rfl | (simp only [List.all_cons, List.all_nil, Bool.and_true, Bool.true_and, Bool.and_eq_true, Value.oneCell']; repeat (first | assumption | exact Own.one (by assumption) | constructor))) (hn2) (by simp) ?_
            rintro x3 hn3 hm3
            refine ⟨hS.mo hm3 (by simp; exact hS.ne hn2 (by decide)), fun hS => ?_⟩
            have hc3 := hc2.mo hm3 (by simp; exact fun z => hne2 z.symm)
            have hz3 := hm3.size
            refine GW.storeS 7 rfl (by kernel_rfl) rfl ti70 rfl rfl rfl (by first | rfl | (simp only [List.all_cons, List.all_nil, Bool.and_true, Bool.true_and, Bool.and_eq_true, Value.oneCell']; repeat (first | assumption | exact Own.one (by assumption) | constructor))) (hc3) (by simp) ?_
            rintro x4 hn4 hm4
            refine ⟨hS.mo hm4 (by simp; exact hS.ne hc3 (by decide)), fun hS => ?_⟩
            refine GW.done (by kernel_rfl) ?_
            have hz4 := hm4.size
            refine KW.meet3 (x4) (ba) (bc) ⟨rfl, rfl, trivial⟩ rfl ?_
            have hmo : Mo wr x4 [ba, bc] := (((((Mo.of_ext (Ext.drew wr) _).trans (Mo.of_ext hx1 _)).trans (Mo.of_ext hx2 _)).trans (hm3.mono (by simp))).trans (hm4.mono (by simp)))
            exact ⟨(Mo.fresh (S' := []) hmo (fun q hq hlt => by simp at hq; rcases hq with rfl | rfl <;> omega)).ext, hn3.mo hm4 (by simp; exact hne2), hn4⟩
        · rintro wz a c ⟨hx, ha, hc⟩
          have fin : ∀ w', Ext wr w' → DevAt w' B b (readsC D (nreads D)) ∧ Tm w w' B dty := fun w' q => ⟨hvr.at_.ext q, htr.trans (Tm.of_ext q _ _)⟩
          have s0 : r0 = true → slotC D 0 = some (g0, (decC (slotSs D 0)).2.1) := fun q => by unfold slotC; rw [if_pos (hs0.right.1 q), hs0.gen q]
          have s1 : r1 = true → slotC D 1 = some (g1, (decC (slotSs D 1)).2.1) := fun q => by unfold slotC; rw [if_pos (hs1.right.1 q), hs1.gen q]
          have n0 : r0 = false → slotC D 0 = none := fun q => by unfold slotC; rw [if_neg (fun z => by have := hs0.right.2 z; rw [q] at this; cases this)]
          have n1 : r1 = false → slotC D 1 = none := fun q => by unfold slotC; rw [if_neg (fun z => by have := hs1.right.2 z; rw [q] at this; cases this)]
          have o0 := hs0.own
          have o1 := hs1.own
          rcases Bool.eq_false_or_eq_true r0 with rfl | rfl <;> rcases Bool.eq_false_or_eq_true r1 with rfl | rfl
          · rw [s0 rfl, s1 rfl]
            refine KW.seq (KW.block (KW.seq (KW.region ?_)))
            refine OW.val rfl rfl (EX.fieldAddr (off := 2) Tryd.underlying70 rfl rfl ti4 rfl rfl) ?_
            refine OW.val rfl rfl (EX.load Tryd.underlying4 rfl rfl (ha.cell_of rfl)) ?_
            refine OW.val rfl rfl (EX.move rfl) ?_
            refine OW.val rfl rfl (EX.fieldAddr (off := 2) Tryd.underlying70 rfl rfl ti4 rfl rfl) ?_
            refine OW.val rfl rfl (EX.load Tryd.underlying4 rfl rfl (hc.cell_of rfl)) ?_
            refine OW.val rfl rfl (by first | exact EX.notD rfl | exact EX.notB rfl) ?_
            refine OW.val rfl rfl (EX.move rfl) ?_
            refine OW.val rfl rfl (EX.fieldAddr (off := 0) Tryd.underlying70 rfl rfl ti3 rfl rfl) ?_
            refine OW.val rfl rfl (EX.load Tryd.underlying3 rfl rfl (ha.cell_of rfl)) ?_
            refine OW.val rfl rfl (EX.fieldAddr (off := 0) Tryd.underlying70 rfl rfl ti3 rfl rfl) ?_
            refine OW.val rfl rfl (EX.load Tryd.underlying3 rfl rfl (hc.cell_of rfl)) ?_
            refine OW.val rfl rfl (by first | exact EX.gtrN rfl rfl | exact EX.gtrZ rfl rfl) ?_
            refine OW.val rfl rfl (EX.pickF rfl rfl) ?_
            refine OW.val rfl rfl (EX.pickT rfl rfl) ?_
            refine OW.val rfl rfl (EX.assign rfl) ?_
            refine OW.nil ?_
            refine KW.condD rfl (fun hgt => ?_) (fun hgt => ?_)
            · have e : bestC (some (g0, (decC (slotSs D 0)).2.1)) (some (g1, (decC (slotSs D 1)).2.1)) = (g0, (decC (slotSs D 0)).2.1, 0) := if_pos (show g1 < g0 by omega)
              rw [e]
              refine KW.seq ?_
              refine KW.regionQ (by kernel_rfl) (by kernel_rfl) ?_
              refine QW.val rfl rfl (fun _ => EX.fieldAddr (off := 0) Tryd.underlying70 rfl rfl ti3 rfl rfl) ?_
              refine QW.val rfl rfl (fun _ => EX.load Tryd.underlying3 rfl rfl ((ha.drewN _).cell_of rfl)) ?_
              refine QW.val rfl rfl (fun _ => EX.fieldAddr (off := 1) Tryd.underlying70 rfl rfl ti22 rfl rfl) ?_
              refine QW.val rfl rfl (fun _ => EX.load Tryd.underlying22 rfl rfl ((ha.drewN _).cell_of rfl)) ?_
              refine QW.val rfl rfl (fun _ => EX.assign rfl) ?_
              refine QW.val rfl rfl (fun _ => EX.assign rfl) ?_
              refine QW.val rfl rfl (fun _ => EX.assign rfl) ?_
              refine QW.nil (fun nq => ?_)
              refine KW.ret (ret3 rfl rfl rfl rfl ?_)
              exact ⟨⟨_, rfl, ((o0 rfl).ext hx).ext (Ext.drewN _ _)⟩, fin _ (hx.trans (Ext.drewN _ _))⟩
            · have e : bestC (some (g0, (decC (slotSs D 0)).2.1)) (some (g1, (decC (slotSs D 1)).2.1)) = (g1, (decC (slotSs D 1)).2.1, 0) := if_neg (show ¬ g1 < g0 by omega)
              rw [e]
              refine KW.seq (KW.region ?_)
              refine OW.val rfl rfl (EX.fieldAddr (off := 2) Tryd.underlying70 rfl rfl ti4 rfl rfl) ?_
              refine OW.val rfl rfl (EX.load Tryd.underlying4 rfl rfl (hc.cell_of rfl)) ?_
              refine OW.val rfl rfl (EX.assign rfl) ?_
              refine OW.nil ?_
              refine KW.condT rfl (KW.seq ?_)
              refine KW.regionQ (by kernel_rfl) (by kernel_rfl) ?_
              refine QW.val rfl rfl (fun _ => EX.fieldAddr (off := 0) Tryd.underlying70 rfl rfl ti3 rfl rfl) ?_
              refine QW.val rfl rfl (fun _ => EX.load Tryd.underlying3 rfl rfl ((hc.drewN _).cell_of rfl)) ?_
              refine QW.val rfl rfl (fun _ => EX.fieldAddr (off := 1) Tryd.underlying70 rfl rfl ti22 rfl rfl) ?_
              refine QW.val rfl rfl (fun _ => EX.load Tryd.underlying22 rfl rfl ((hc.drewN _).cell_of rfl)) ?_
              refine QW.val rfl rfl (fun _ => EX.assign rfl) ?_
              refine QW.val rfl rfl (fun _ => EX.assign rfl) ?_
              refine QW.val rfl rfl (fun _ => EX.assign rfl) ?_
              refine QW.nil (fun nq => ?_)
              refine KW.ret (ret3 rfl rfl rfl rfl ?_)
              exact ⟨⟨_, rfl, ((o1 rfl).ext hx).ext (Ext.drewN _ _)⟩, fin _ (hx.trans (Ext.drewN _ _))⟩
          · rw [s0 rfl, n1 rfl]
            refine KW.seq (KW.block (KW.seq (KW.region ?_)))
            refine OW.val rfl rfl (EX.fieldAddr (off := 2) Tryd.underlying70 rfl rfl ti4 rfl rfl) ?_
            refine OW.val rfl rfl (EX.load Tryd.underlying4 rfl rfl (ha.cell_of rfl)) ?_
            refine OW.val rfl rfl (EX.move rfl) ?_
            refine OW.val rfl rfl (EX.fieldAddr (off := 2) Tryd.underlying70 rfl rfl ti4 rfl rfl) ?_
            refine OW.val rfl rfl (EX.load Tryd.underlying4 rfl rfl (hc.cell_of rfl)) ?_
            refine OW.val rfl rfl (by first | exact EX.notD rfl | exact EX.notB rfl) ?_
            refine OW.val rfl rfl (EX.move rfl) ?_
            refine OW.pass rfl rfl ?_
            refine OW.pass rfl rfl ?_
            refine OW.pass rfl rfl ?_
            refine OW.pass rfl rfl ?_
            refine OW.pass rfl rfl ?_
            refine OW.val rfl rfl (EX.pickT rfl rfl) ?_
            refine OW.val rfl rfl (EX.pickT rfl rfl) ?_
            refine OW.val rfl rfl (EX.assign rfl) ?_
            refine OW.nil ?_
            refine KW.condT rfl (KW.seq ?_)
            refine KW.regionQ (by kernel_rfl) (by kernel_rfl) ?_
            refine QW.val rfl rfl (fun _ => EX.fieldAddr (off := 0) Tryd.underlying70 rfl rfl ti3 rfl rfl) ?_
            refine QW.val rfl rfl (fun _ => EX.load Tryd.underlying3 rfl rfl ((ha.drewN _).cell_of rfl)) ?_
            refine QW.val rfl rfl (fun _ => EX.fieldAddr (off := 1) Tryd.underlying70 rfl rfl ti22 rfl rfl) ?_
            refine QW.val rfl rfl (fun _ => EX.load Tryd.underlying22 rfl rfl ((ha.drewN _).cell_of rfl)) ?_
            refine QW.val rfl rfl (fun _ => EX.assign rfl) ?_
            refine QW.val rfl rfl (fun _ => EX.assign rfl) ?_
            refine QW.val rfl rfl (fun _ => EX.assign rfl) ?_
            refine QW.nil (fun nq => ?_)
            refine KW.ret (ret3 rfl rfl rfl rfl ?_)
            exact ⟨⟨_, rfl, ((o0 rfl).ext hx).ext (Ext.drewN _ _)⟩, fin _ (hx.trans (Ext.drewN _ _))⟩
          · rw [n0 rfl, s1 rfl]
            refine KW.seq (KW.block (KW.seq (KW.region ?_)))
            refine OW.val rfl rfl (EX.fieldAddr (off := 2) Tryd.underlying70 rfl rfl ti4 rfl rfl) ?_
            refine OW.val rfl rfl (EX.load Tryd.underlying4 rfl rfl (ha.cell_of rfl)) ?_
            refine OW.val rfl rfl (EX.move rfl) ?_
            refine OW.pass rfl rfl ?_
            refine OW.pass rfl rfl ?_
            refine OW.pass rfl rfl ?_
            refine OW.pass rfl rfl ?_
            refine OW.pass rfl rfl ?_
            refine OW.pass rfl rfl ?_
            refine OW.pass rfl rfl ?_
            refine OW.pass rfl rfl ?_
            refine OW.pass rfl rfl ?_
            refine OW.pass rfl rfl ?_
            refine OW.val rfl rfl (EX.pickF rfl rfl) ?_
            refine OW.val rfl rfl (EX.assign rfl) ?_
            refine OW.nil ?_
            refine KW.condF rfl (KW.seq (KW.region ?_))
            refine OW.val rfl rfl (EX.fieldAddr (off := 2) Tryd.underlying70 rfl rfl ti4 rfl rfl) ?_
            refine OW.val rfl rfl (EX.load Tryd.underlying4 rfl rfl (hc.cell_of rfl)) ?_
            refine OW.val rfl rfl (EX.assign rfl) ?_
            refine OW.nil ?_
            refine KW.condT rfl (KW.seq ?_)
            refine KW.regionQ (by kernel_rfl) (by kernel_rfl) ?_
            refine QW.val rfl rfl (fun _ => EX.fieldAddr (off := 0) Tryd.underlying70 rfl rfl ti3 rfl rfl) ?_
            refine QW.val rfl rfl (fun _ => EX.load Tryd.underlying3 rfl rfl ((hc.drewN _).cell_of rfl)) ?_
            refine QW.val rfl rfl (fun _ => EX.fieldAddr (off := 1) Tryd.underlying70 rfl rfl ti22 rfl rfl) ?_
            refine QW.val rfl rfl (fun _ => EX.load Tryd.underlying22 rfl rfl ((hc.drewN _).cell_of rfl)) ?_
            refine QW.val rfl rfl (fun _ => EX.assign rfl) ?_
            refine QW.val rfl rfl (fun _ => EX.assign rfl) ?_
            refine QW.val rfl rfl (fun _ => EX.assign rfl) ?_
            refine QW.nil (fun nq => ?_)
            refine KW.ret (ret3 rfl rfl rfl rfl ?_)
            exact ⟨⟨_, rfl, ((o1 rfl).ext hx).ext (Ext.drewN _ _)⟩, fin _ (hx.trans (Ext.drewN _ _))⟩
          · rw [n0 rfl, n1 rfl]
            refine KW.seq (KW.block (KW.seq (KW.region ?_)))
            refine OW.val rfl rfl (EX.fieldAddr (off := 2) Tryd.underlying70 rfl rfl ti4 rfl rfl) ?_
            refine OW.val rfl rfl (EX.load Tryd.underlying4 rfl rfl (ha.cell_of rfl)) ?_
            refine OW.val rfl rfl (EX.move rfl) ?_
            refine OW.pass rfl rfl ?_
            refine OW.pass rfl rfl ?_
            refine OW.pass rfl rfl ?_
            refine OW.pass rfl rfl ?_
            refine OW.pass rfl rfl ?_
            refine OW.pass rfl rfl ?_
            refine OW.pass rfl rfl ?_
            refine OW.pass rfl rfl ?_
            refine OW.pass rfl rfl ?_
            refine OW.pass rfl rfl ?_
            refine OW.val rfl rfl (EX.pickF rfl rfl) ?_
            refine OW.val rfl rfl (EX.assign rfl) ?_
            refine OW.nil ?_
            refine KW.condF rfl (KW.seq (KW.region ?_))
            refine OW.val rfl rfl (EX.fieldAddr (off := 2) Tryd.underlying70 rfl rfl ti4 rfl rfl) ?_
            refine OW.val rfl rfl (EX.load Tryd.underlying4 rfl rfl (hc.cell_of rfl)) ?_
            refine OW.val rfl rfl (EX.assign rfl) ?_
            refine OW.nil ?_
            refine KW.condF rfl (KW.skip (KW.leave (KW.seq (KW.region ?_))))
            refine OW.val rfl rfl (EX.assign rfl) ?_
            refine OW.val rfl rfl (EX.assign rfl) ?_
            refine OW.val rfl rfl (EX.assign rfl) ?_
            refine OW.nil ?_
            refine KW.ret (ret3 rfl rfl rfl rfl ?_)
            exact ⟨⟨_, rfl, Own.nil _ _ _ _⟩, fin _ hx⟩
end Go.Proofs.YthgfdpcpbghkpaaDoor
namespace Go.Proofs.YthgfdpcpbghkpaaDoor
open Go.RowKit Pth Rec Srt Cat Dsk Wal
theorem memsV_get : ∀ (l : List M) (i j : Nat) (hi : i < l.length) (u : Value), (l[i]).cells[j]? = some u → (memsV l)[i * 5 + j]? = some u
  | a :: l, 0, j, hi, u, hu => by
    have hj : j < a.cells.length := (List.getElem?_eq_some_iff.1 hu).1
    rw [Nat.zero_mul, Nat.zero_add]
    simp only [memsV, List.flatMap_cons]
    rw [List.getElem?_append_left hj]
    exact hu
  | a :: l, i + 1, j, hi, u, hu => by
    have hl : a.cells.length = 5 := rfl
    simp only [memsV, List.flatMap_cons]
    rw [List.getElem?_append_right (by omega), show (i + 1) * 5 + j - a.cells.length = i * 5 + j by omega]
    exact memsV_get l i j (by simpa using hi) u hu
theorem mems_cell {w : World} {B : Nat} {A : Option Addr} {l : List M} (h : Sl w B A (memsV l)) {i : Nat} (hi : i < l.length) :
    ∃ b o, A = some ⟨b, o, none⟩ ∧ b < B ∧ ∀ j u, (l[i]).cells[j]? = some u → w.cell? ⟨b, o + i * 5 + j, none⟩ = some u := by
  have h0 := memsV_get l i 0 hi _ rfl
  have hp : 0 < (memsV l).length := by have := (List.getElem?_eq_some_iff.1 h0).1; omega
  obtain ⟨b, o, e, hb, hc⟩ := h.at_ hp
  exact ⟨b, o, e, hb, fun j u hu => by rw [Nat.add_assoc]; exact hc _ _ (memsV_get l i j hi u hu)⟩
theorem mem_eq (a b : M) : (!([decide (a.path = b.path), decide (a.start = b.start), decide (a.sectors = b.sectors), decide (a.size = b.size), decide ((a.sum : Int) = (b.sum : Int))].all id)) = decide (a ≠ b) := by
  obtain ⟨a1, a2, a3, a4, a5⟩ := a
  obtain ⟨b1, b2, b3, b4, b5⟩ := b
  have e : ((a5 : Int) = (b5 : Int)) ↔ a5 = b5 := by omega
  rw [Bool.eq_iff_iff]
  simp only [e, List.all_cons, List.all_nil, id, Bool.and_true, Bool.not_eq_true', Bool.and_eq_false_iff, decide_eq_false_iff_not, decide_eq_true_eq, M.mk.injEq, ne_eq, not_and]
  constructor
  · rintro (h | h | h | h | h) h1 h2 h3 h4 <;> simp_all
  · intro h
    by_cases c1 : a1 = b1 <;> by_cases c2 : a2 = b2 <;> by_cases c3 : a3 = b3 <;> by_cases c4 : a4 = b4 <;> simp_all
set_option maxRecDepth 20000 in
theorem same_s (l1 l2 : List M) (A1 A2 : Option Addr) (k1 k2 : Nat) (w : World) (B1 B2 : Nat) (h1 : Sl w B1 A1 (memsV l1)) (h2 : Sl w B2 A2 (memsV l2)) (hn : l1.length ≤ 1000000000000) :
    Ret Tryd.prog 8 [.slice A1 l1.length k1, .slice A2 l2.length k2] w fun v w' => v = .bool (decide (l1 = l2)) ∧ Ext w w' := by
  refine Ret.enter Tryd.func8 rfl Tryd.ntmps8 (by kernel_rfl) rfl ?_
  refine KW.seq (KW.region ?_)
  refine OW.val rfl rfl (EX.assign rfl) ?_
  refine OW.nil ?_
  refine KW.seq (KW.seq (KW.region ?_))
  refine OW.val rfl rfl (EX.move rfl) ?_
  refine OW.val rfl rfl (EX.lenA Tryd.underlying22 rfl) ?_
  refine OW.val rfl rfl (EX.move rfl) ?_
  refine OW.val rfl rfl (EX.lenA Tryd.underlying22 rfl) ?_
  refine OW.val rfl rfl (by first | exact EX.neqN rfl rfl | exact EX.neqZ rfl rfl) ?_
  refine OW.nil ?_
  refine KW.condD rfl (fun hl => ?_) (fun hl => ?_)
  · refine KW.seq (KW.region ?_)
    refine OW.val rfl rfl (EX.assign rfl) ?_
    refine OW.nil ?_
    refine KW.ret (ret1 rfl rfl ?_)
    refine ⟨congrArg Value.bool (decide_eq_false (fun e => hl (by rw [e]))).symm, Ext.refl _⟩
  · have hll : l1.length = l2.length := by omega
    refine KW.skip (KW.seq (KW.seq (KW.region ?_)))
    refine OW.val rfl rfl (EX.assign rfl) ?_
    refine OW.nil ?_
    refine KW.block ?_
    refine KW.loop2 (fun (i : Nat) (wr : World) => i ≤ l1.length ∧ (∀ j, j < i → l1[j]? = l2[j]?) ∧ Ext w wr) (fun (i : Nat) (wr : World) => [(0, .slice A1 l1.length k1), (1, .slice A2 l2.length k2), (5, .int .i64 ((i : Nat) : Int))]) (fun (i : Nat) (wr : World) => wr) (fun (i : Nat) (wr : World) => l1.length - i) (0) (w) ⟨rfl, rfl, rfl, trivial⟩ rfl ?_ ?_
    · exact ⟨by omega, fun j hj => by omega, Ext.refl _⟩
    · rintro i wr ⟨hi, he, hx⟩
      refine KW.seq (KW.seq (KW.region ?_))
      refine OW.val rfl rfl (EX.move rfl) ?_
      refine OW.val rfl rfl (EX.move rfl) ?_
      refine OW.val rfl rfl (EX.lenA Tryd.underlying22 rfl) ?_
      refine OW.val rfl rfl (by first | exact EX.lssN rfl rfl | exact EX.lssZ rfl rfl) ?_
      refine OW.nil ?_
      refine KW.condD rfl (fun hlt => ?_) (fun hlt => ?_)
      · have hlt2 : i < l2.length := by omega
        obtain ⟨b1, o1, rfl, _, hc1⟩ := mems_cell (h1.ext hx) hlt
        obtain ⟨b2, o2, rfl, _, hc2⟩ := mems_cell (h2.ext hx) hlt2
        refine KW.skip (KW.seq (KW.block (KW.seq ?_)))
        refine KW.regionQ (by kernel_rfl) (by kernel_rfl) ?_
        refine QW.val rfl rfl (fun _ => EX.move rfl) ?_
        refine QW.val rfl rfl (fun _ => EX.move rfl) ?_
        refine QW.val rfl rfl (fun _ => EX.indexAddrS Tryd.underlying22 ti50 rfl rfl (by omega)) ?_
        refine QW.val rfl rfl (fun _ => EX.loadA (w := wr.drewN _) (l := (l1[i]).cells) Tryd.underlying50 rfl ti50 rfl rfl hc1) ?_
        refine QW.val rfl rfl (fun _ => EX.move rfl) ?_
        refine QW.val rfl rfl (fun _ => EX.move rfl) ?_
        refine QW.val rfl rfl (fun _ => EX.indexAddrS Tryd.underlying22 ti50 rfl rfl (by omega)) ?_
        refine QW.val rfl rfl (fun _ => EX.loadA (w := wr.drewN _) (l := (l2[i]).cells) Tryd.underlying50 rfl ti50 rfl rfl hc2) ?_
        refine QW.val rfl rfl (fun _ => EX.neqG Tryd.underlying50 (by kernel_rfl) (by kernel_rfl) rfl rfl (.cons (by decide) Tryd.underlying9 rfl rfl rfl (eq_str Tryd.underlying9) (.cons (by decide) Tryd.underlying3 rfl rfl rfl (eq_int Tryd.underlying3) (.cons (by decide) Tryd.underlying3 rfl rfl rfl (eq_int Tryd.underlying3) (.cons (by decide) Tryd.underlying3 rfl rfl rfl (eq_int Tryd.underlying3) (.cons (by decide) Tryd.underlying48 rfl rfl rfl (eq_int Tryd.underlying48) .nil))))) rfl) ?_
        refine QW.nil (fun nq => ?_)
        refine KW.as 25 (.bool (decide (l1[i] ≠ l2[i]))) rfl (congrArg Value.bool (mem_eq _ _)) ?_
        refine KW.condD rfl (fun hne => ?_) (fun hne => ?_)
        · refine KW.seq (KW.region ?_)
          refine OW.val rfl rfl (EX.assign rfl) ?_
          refine OW.nil ?_
          refine KW.ret (ret1 rfl rfl ?_)
          refine ⟨congrArg Value.bool (decide_eq_false (fun e => hne ?_)).symm, hx.trans (Ext.drewN wr nq)⟩
          subst e
          rfl
        · refine KW.skip (KW.leave (KW.region ?_))
          refine OW.val rfl rfl (EX.move rfl) ?_
          refine OW.val rfl rfl (by first | exact EX.addN (b := 1) (m := 9223372036854775807) rfl rfl rfl (by omega) | exact EX.addZ (m := 9223372036854775807) rfl rfl rfl rfl (by omega)) ?_
          refine OW.val rfl rfl (EX.assign rfl) ?_
          refine OW.nil ?_
          refine KW.back2 (i + 1) (wr.drewN nq) ⟨rfl, rfl, rfl, trivial⟩ rfl ?_ (by omega)
          refine ⟨by omega, fun j hj => ?_, hx.trans (Ext.drewN wr nq)⟩
          by_cases e : j = i
          · subst e
            rw [List.getElem?_eq_getElem hlt, List.getElem?_eq_getElem hlt2]
            exact congrArg some (by simpa using hne)
          · exact he j (by omega)
      · obtain rfl : i = l1.length := by omega
        refine KW.exit rfl (KW.seq (KW.region ?_))
        refine OW.val rfl rfl (EX.assign rfl) ?_
        refine OW.nil ?_
        refine KW.ret (ret1 rfl rfl ?_)
        refine ⟨congrArg Value.bool (decide_eq_true ?_).symm, hx⟩
        apply List.ext_getElem?
        intro j
        by_cases hj : j < l1.length
        · exact he j hj
        · rw [List.getElem?_eq_none (by omega), List.getElem?_eq_none (by omega)]
theorem mayNil {n : Nat} (h : 1 ≤ n ∧ n ≤ 4096) : Dsk.may (n : Int) [] := by refine ⟨by omega, by omega, by decide, ?_⟩; show ((0 : Nat) : Int) ≤ _; omega
theorem newN (n : Nat) (h : 1 ≤ n ∧ n ≤ 4096) (w : World) : Ret Tryd.prog 9 [.int .i64 (n : Int)] w fun v w' => Ext w w' ∧ ∃ b, v = .tuple #[.pointer (some ⟨b, 0, none⟩), .int .i64 0] ∧ DevAt w' w.heap.size b (fresh n []) :=
  (new_s (n : Int) (by omega) (by omega) w).mono fun v w' ⟨p, e, h1, h2, h3⟩ => ⟨h2, by
    rcases h3 with ⟨q, _⟩ | ⟨_, b, h4, h5, h6⟩
    · exact absurd (mayNil h) q
    · exact ⟨b, by rw [h1, h4, h5]; rfl, h6⟩⟩
theorem fresh_smC (n : Nat) (s : List UInt8) : Sm (fresh n s) 0 := ⟨by simp [fresh], by simp [fresh], by simp [fresh], by simp [fresh]⟩
set_option maxRecDepth 20000 in
theorem cawake_s (w : World) (hG : MLen w) (hgl : 0 < w.heap.size) : Ret Tryd.prog 6 [] w fun v w' => v = .bool true ∧ Ext w w' := by
  refine Ret.enter Tryd.func6 rfl Tryd.ntmps6 (by kernel_rfl) rfl ?_
  refine KW.seq (KW.region ?_)
  refine OW.val rfl rfl (EX.assign rfl) ?_
  refine OW.nil ?_
  refine KW.seq (KW.region ?_)
  refine OW.call rfl rfl rfl (newN 60 (by decide) w) ?_
  rintro _ w1 ⟨hx1, b, rfl, h1⟩
  refine OW.val rfl rfl (EX.move rfl) ?_
  refine OW.val rfl rfl (EX.extract rfl rfl) ?_
  refine OW.val rfl rfl (EX.extract rfl rfl) ?_
  refine OW.val rfl rfl (EX.assign rfl) ?_
  refine OW.val rfl rfl (EX.assign rfl) ?_
  refine OW.nil ?_
  refine KW.seq (KW.seq ?_)
  refine KW.region ?_
  refine OW.val rfl rfl (EX.move rfl) ?_
  refine OW.val rfl rfl (by first | exact EX.neqN (b := 0) rfl rfl | exact EX.neqZ rfl rfl) ?_
  refine OW.val rfl rfl (EX.move rfl) ?_
  refine OW.val rfl rfl (EX.move rfl) ?_
  refine OW.val rfl rfl (by first | exact EX.eqlP1 Tryd.underlying31 rfl rfl | exact EX.eqlP0 Tryd.underlying31 rfl rfl) ?_
  refine OW.val rfl rfl (EX.pickF rfl rfl) ?_
  refine OW.nil ?_
  refine KW.condF rfl (KW.skip (KW.seq (KW.region ?_)))
  refine OW.val rfl rfl (EX.buildS (pl := [(0, 1), (1, 1), (2, 1), (3, 1), (4, 1)]) (ks := [0, 1, 2, 3, 4]) (is := [0, 1, 2, 3, 4]) (zs := [str [], .int .i64 0, .int .i64 0, .int .i64 0, .int .u32 0]) Tryd.underlying50 ti50 (by kernel_rfl) rfl rfl rfl (by first | rfl | (simp only [List.all_cons, List.all_nil, Bool.and_true, Bool.true_and, Bool.and_eq_true, Value.oneCell']; repeat (first | assumption | exact Own.one (by assumption) | constructor))) (by simp only [setAll, List.set_cons_zero, List.set_cons_succ]; rfl)) ?_
  refine OW.buildG 1 ([m0.cells]) rfl rfl Tryd.underlying22 ti50 rfl (by decide) rfl rfl rfl (by repeat' (first | exact List.forall_mem_nil _ | refine List.forall_mem_cons.2 ⟨by first | rfl | assumption, ?_⟩)) (by decide) ?_
  rintro mb w2 hg2 hb2 hx2
  refine OW.val rfl rfl (EX.assign rfl) ?_
  refine OW.nil ?_
  refine KW.seq (KW.region ?_)
  refine OW.val rfl rfl (EX.move rfl) ?_
  have hb2m : Bk w2 mb 50 (memsV [m0]) := hb2
  have hok0 : ∀ m ∈ [m0], m.Ok := fun m hm => by simp only [List.mem_singleton] at hm; subst hm; exact ⟨by decide, by decide⟩
  have hsz1 := hx1.size
  have hsz2 := hx2.size
  have q2 := h1.ext hx2
  have hG2 := (hG.ext hx1).ext hx2
  have c4 := save_s B0_rest.ok (fresh_smC 60 []) (by omega) w.heap.size b 4 (by decide) (by decide) [] (by decide) (by simp) none 0 w2.heap.size w2 hG2 q2 (.inl rfl)
  rw [a_save4.1] at c4
  refine OW.call rfl rfl rfl (c4) ?_
  rintro _ w3 ⟨rfl, q3, t3⟩
  refine OW.val rfl rfl (EX.assign rfl) ?_
  refine OW.nil ?_
  refine KW.seq (KW.region ?_)
  refine OW.val rfl rfl (EX.move rfl) ?_
  refine OW.val rfl rfl (EX.move rfl) ?_
  have hb3 := t3.bk hb2m (by decide)
  have hG3 := mlen_tm hG2 t3 hgl
  have c5 := save_s a_save4.2.rest.ok (save_sm (fresh_smC 60 []) 4 []) (by omega) w.heap.size b 5 (by decide) (by decide) [m0] (by decide) hok0 (some ⟨mb, 0, none⟩) 1 w3.heap.size w3 hG3 q3 (Sl.of_bk hb3 hb3.lt)
  rw [a_save5.1] at c5
  refine OW.call rfl rfl rfl (c5) ?_
  rintro _ w4 ⟨rfl, q4, t4⟩
  refine OW.val rfl rfl (EX.assign rfl) ?_
  refine OW.nil ?_
  refine KW.seq (KW.region ?_)
  refine OW.val rfl rfl (EX.move rfl) ?_
  have hG4 := mlen_tm hG3 t4 hgl
  have ld := cload_s a_save5.2.rest.ok (save_sm (save_sm (fresh_smC 60 []) 4 []) 5 [m0]) (by omega) w.heap.size b w4 hG4 hgl q4
  rw [a_load] at ld
  refine OW.call rfl rfl rfl (ld) ?_
  rintro _ w5 ⟨⟨u, rfl, hown5⟩, q5, t5⟩
  refine OW.val rfl rfl (EX.move rfl) ?_
  refine OW.val rfl rfl (EX.extract rfl rfl) ?_
  refine OW.val rfl rfl (EX.extract rfl rfl) ?_
  refine OW.val rfl rfl (EX.extract rfl rfl) ?_
  refine OW.val rfl rfl (EX.assign rfl) ?_
  refine OW.val rfl rfl (EX.assign rfl) ?_
  refine OW.val rfl rfl (EX.assign rfl) ?_
  refine OW.nil ?_
  refine KW.seq ?_
  have hb5 := t5.bk (t4.bk hb3 (by decide)) (by decide)
  have hok5 : loadedC (saveC (saveC B0 4 []).1 5 [m0]).1 = loadedC (saveC (saveC B0 4 []).1 5 [m0]).1 := rfl
  have ln := len_d q5 (loaded_ok a_save5.2.rest.ok)
  have el : (loadedC (saveC (saveC B0 4 []).1 5 [m0]).1).now.length / 512 = 10 := by
    unfold loadedC
    rw [if_neg (by rw [a_save5.2.rest.dead]; decide)]
    show (saveC (saveC B0 4 []).1 5 [m0]).1.now.length / 512 = 10
    rw [cat_len]
  rw [el] at ln
  obtain ⟨A6, c6, rfl, _, hsl6⟩ := hown5.slice
  have sm := same_s [m0] [m0] A6 (some ⟨mb, 0, none⟩) c6 1 w5 _ _ hsl6 (Sl.of_bk hb5 hb5.lt) (by decide)
  rw [decide_eq_true rfl] at sm
  refine KW.region ?_
  refine OW.val rfl rfl (EX.move rfl) ?_
  refine OW.val rfl rfl (by first | exact EX.eqlN (b := 0) rfl rfl | exact EX.eqlZ rfl rfl) ?_
  refine OW.val rfl rfl (EX.move rfl) ?_
  refine OW.val rfl rfl (EX.move rfl) ?_
  refine OW.val rfl rfl (by first | exact EX.eqlN (b := 0) rfl rfl | exact EX.eqlZ rfl rfl) ?_
  refine OW.val rfl rfl (EX.pickT rfl rfl) ?_
  refine OW.val rfl rfl (EX.move rfl) ?_
  refine OW.val rfl rfl (EX.move rfl) ?_
  refine OW.call rfl rfl rfl (ln) ?_
  rintro _ _ ⟨rfl, rfl⟩
  refine OW.val rfl rfl (by first | exact EX.eqlN (b := 10) rfl rfl | exact EX.eqlZ rfl rfl) ?_
  refine OW.val rfl rfl (EX.pickT rfl rfl) ?_
  refine OW.val rfl rfl (EX.move rfl) ?_
  refine OW.val rfl rfl (EX.move rfl) ?_
  refine OW.val rfl rfl (by first | exact EX.eqlN (b := 5) rfl rfl | exact EX.eqlZ rfl rfl) ?_
  refine OW.val rfl rfl (EX.pickT rfl rfl) ?_
  refine OW.val rfl rfl (EX.move rfl) ?_
  refine OW.val rfl rfl (EX.move rfl) ?_
  refine OW.val rfl rfl (EX.move rfl) ?_
  refine OW.call rfl rfl rfl (sm) ?_
  rintro _ w6 ⟨rfl, hx6⟩
  refine OW.val rfl rfl (EX.pickT rfl rfl) ?_
  refine OW.val rfl rfl (EX.move rfl) ?_
  refine OW.val rfl rfl (EX.move rfl) ?_
  refine OW.val rfl rfl (by first | exact EX.eqlN (b := 0) rfl rfl | exact EX.eqlZ rfl rfl) ?_
  refine OW.val rfl rfl (EX.pickT rfl rfl) ?_
  refine OW.val rfl rfl (EX.assign rfl) ?_
  refine OW.nil ?_
  refine KW.ret (ret1 rfl rfl ?_)
  have x2 := hx1.trans hx2
  have x5 : Ext w w5 := Tm.below x2 ((t3.trans t4).trans t5) x2.size (Nat.le_refl _)
  exact ⟨rfl, x5.trans hx6⟩
end Go.Proofs.YthgfdpcpbghkpaaDoor
namespace Go.Proofs.YthgfdpcpbghkpaaDoor
open Go.ChangeShapes Go.WideShapes Go.ChangeAt Go.RowKit
section
variable {H : Type} {enc : TypeId × Value → H} {P : Program}
theorem trodAll_stays (hl : laidOutB P = true) {W W' : World} (hx : Ext W W') : ∀ {ts : List TypeId} {vs : List Value} {ds : List (DataW H)} {ps : List MemPlace},
    (∀ t ∈ ts, P.readableRec t = true ∧ t < P.types.size) → DataW.TrodAll enc P W 0 (fun _ => true) true ts vs ds ps → (∀ p ∈ ps, p.block < W.heap.size) →
    DataW.TrodAll enc P W' 0 (fun b => decide (b < W.heap.size)) true ts vs ds ps
  | [], vs, ds, ps, _, h, _ => by
    obtain ⟨rfl, rfl, rfl⟩ := trodAll_nil h
    exact trodAll_mk0
  | t :: ts, vs, ds, ps, hr, h, hlt => by
    obtain ⟨v, vs', d, ds', p, q, rfl, rfl, rfl, h1, h2⟩ := trodAll_cons h
    refine trodAll_cons_mk (WideElems.Trod_stays hl (hr t (by simp)).1 (hr t (by simp)).2 h1 (fun x hx' => hx.same (hlt x (by simp [hx']))) (fun x hx' => by simpa using hlt x (by simp [hx']))) ?_
    exact trodAll_stays hl hx (fun u hu => hr u (by simp [hu])) h2 (fun x hx' => hlt x (by simp [hx']))
theorem law_post {f : Func} {s : ChangeSpec} {W W' : World} {args : Array Value} {ds gs : List (DataW H)} {before : List MemPlace} {T : TypeId}
    (hW : DataW.Whole enc P f.params.toList s.vars false W args.toList ds gs before) (hv : s.vars = []) (hspec : s.fn H (ds ++ gs) = { results := [.lit (.bool true)], args := ds }) (hrt : f.resultTypes = #[T]) (hu : P.underlying T = some .bool)
    (hl : laidOutB P = true) (hr : ∀ t ∈ f.params.toList, P.readableRec t = true ∧ t < P.types.size) (hx : Ext W W') : s.post enc P f false true false false W args (.bool true) W' := by
  have hlt : ∀ p ∈ before, p.block < W.heap.size := fun p hp => hW.lt p hp
  have hW0 := hW
  obtain ⟨p, q, hA, hV, rfl, _, _⟩ := hW
  rw [hv] at hV
  refine ⟨ds, gs, _, [], p, [], hW0, ?_, ?_, ?_, hx.frame _, fun h => by cases h⟩
  · rw [hspec, hrt]
    exact trodAll_cons_mk (p := []) (p' := []) (shut_bool hu _) trodAll_mk0
  · rw [hspec]
    exact trodAll_stays hl hx hr hA (fun x hx' => hlt x (by simp [hx']))
  · rw [hspec, hv]
    exact rfl
end
end Go.Proofs.YthgfdpcpbghkpaaDoor
namespace Go.Proofs.YthgfdpcpbghkpaaDoor
open Go.ChangeShapes Go.WideShapes Go.ChangeAt Go.RowKit
def layCells (cs : List Value) : Obj → Obj
  | .cells _ t frozen => .cells cs.toArray t frozen
  | o => o
section
variable {H : Type} {enc : TypeId × Value → H} {P : Program} {W : World} {base : Nat} {t e : TypeId} {v : Value} {d : DataW H} {p : List MemPlace} {r : Reach} {b0 : Nat}
theorem wf_nat {k : IntKind} {n : Int} (hs : k.signed = false) (h : (Lit.int k n).wf = true) : ∃ m : Nat, n = m ∧ m ≤ maxN k := by
  cases k <;> simp [IntKind.signed] at hs <;> (simp [Lit.wf, IntKind.min, IntKind.max, IntKind.signed, IntKind.bits] at h; exact ⟨n.toNat, by omega, by simp [maxN]; omega⟩)
theorem wf_int {n : Int} (h : (Lit.int .i64 n).wf = true) : -9223372036854775808 ≤ n ∧ n ≤ 9223372036854775807 := by
  simp [Lit.wf, IntKind.min, IntKind.max, IntKind.signed, IntKind.bits] at h
  omega
theorem open_i64 (ht : P.underlying t = some (.int .i64)) (hval : Value.okWide P W r b0 t v) (hd : DataW.Trod enc P W base (fun _ => true) true t v d p) : ∃ n : Int, v = .int .i64 n ∧ -9223372036854775808 ≤ n ∧ n ≤ 9223372036854775807 := by
  obtain ⟨n, rfl, _, _, hw⟩ := open_int ht hval hd
  exact ⟨n, rfl, wf_int hw⟩
theorem sl_of_cells {a : Addr} {xs : List Value} (h : ∀ j u, xs[j]? = some u → W.cell? (a.add j) = some u) : Sl W W.heap.size (some a) xs := by
  by_cases hx : xs = []
  · exact .inl hx
  · have h0 : 0 < xs.length := List.length_pos_iff.2 hx
    have hc := h 0 xs[0] (List.getElem?_eq_getElem h0)
    have ha : a.add 0 = a := by unfold Addr.add; simp
    rw [ha] at hc
    obtain ⟨b, o, sp⟩ := a
    have hsp : sp = none := by
      unfold World.cell? at hc
      split at hc
      · cases sp with
        | none => rfl
        | some _ => simp at hc
      · simp at hc
    subst hsp
    refine .inr ⟨b, o, rfl, World.block_lt_of_cell? W _ hc, fun j u hu => ?_⟩
    have := h j u hu
    have hadd : (⟨b, o, none⟩ : Addr).add j = ⟨b, o + j, none⟩ := by unfold Addr.add; split <;> simp_all
    rwa [hadd] at this
theorem weightsAll_mem : ∀ {l : List (DataW H)} {x : DataW H}, x ∈ l → ∀ n ∈ x.weights P e, n ∈ DataW.weightsAll P e l
  | y :: l, x, hx, n, hn => by
    simp only [DataW.weightsAll, List.mem_append]
    rcases List.mem_cons.1 hx with rfl | hx
    · exact .inl hn
    · exact .inr (weightsAll_mem hx n hn)
  | [], _, hx, _, _ => by simp at hx
end
end Go.Proofs.YthgfdpcpbghkpaaDoor
namespace Go.Proofs.YthgfdpcpbghkpaaDoor
open Go.ChangeShapes Go.WideShapes Go.ChangeAt Go.RowKit Go.Deep
theorem flatMap_at {α : Type} {cells : α → List Value} {c : Nat} (hc : ∀ a, (cells a).length = c) : ∀ (l : List α) (j : Nat) (u : Value), (l.flatMap cells)[j]? = some u → ∃ i r, ∃ hi : i < l.length, r < c ∧ j = i * c + r ∧ (cells l[i])[r]? = some u
  | [], j, u, h => by simp at h
  | a :: l, j, u, h => by
    rw [List.flatMap_cons] at h
    by_cases hj : j < c
    · rw [List.getElem?_append_left (by rw [hc]; exact hj)] at h
      exact ⟨0, j, by simp, hj, by omega, h⟩
    · rw [List.getElem?_append_right (by rw [hc]; omega), hc] at h
      obtain ⟨i, r, hi, hr, he, hu⟩ := flatMap_at hc l _ u h
      exact ⟨i + 1, r, by simpa using hi, hr, by rw [Nat.succ_mul]; omega, by simpa using hu⟩
section
variable {H : Type} {enc : TypeId × Value → H} {P : Program} {W : World} {base : Nat} {t e : TypeId} {v : Value} {d : DataW H} {p : List MemPlace} {r : Reach} {b0 : Nat}
theorem open_slG {α : Type} [Inhabited α] (cells : α → List Value) (ok : α → Prop) {c : Nat} (hcl : ∀ a, (cells a).length = c) (ht : P.underlying t = some (.slice e)) (hc : P.cellsOf e = c)
    (step : ∀ n cs x, DataW.trod enc P W base (fun _ => true) true n e cs = some x → (∀ m ∈ x.1.weights P e, m ≤ reachBytes) → (∃ es sp, d = .slice es sp ∧ x.1 ∈ es) → ∃ a, cs = cells a ∧ ok a)
    (hval : Value.okWide P W r b0 t v) (hd : DataW.Trod enc P W base (fun _ => true) true t v d p)
    {ts : List TypeId} {ds : List (DataW H)} (hsz : (DataW.weightsEach P ts ds).all (· ≤ reachBytes) = true) {j : Nat} (hj : ts[j]? = some t) (hdj : ds[j]? = some d) :
    ∃ (l : List α) (A : Option Addr) (cap : Nat), v = .slice A l.length cap ∧ (∀ a ∈ l, ok a) ∧ (A = none → l = []) ∧ l.length * P.bytesOf e ≤ reachBytes ∧ l.length ≤ cap ∧ Sl W W.heap.size A (l.flatMap cells) := by
  obtain ⟨A, len, cap, rfl⟩ := okWide_slice ht hval
  obtain ⟨fuel, hf⟩ := hd
  rcases open_slice ht hf with ⟨hcs, _⟩ | ⟨a, len', cap', m, n, D, Pl, hcs, _, hl, hm, hmm, hx, hel⟩
  · simp [Value.cells] at hcs
    obtain ⟨rfl, rfl, rfl⟩ := hcs
    exact ⟨[], none, 0, rfl, by simp, fun _ => rfl, by simp, by simp, .inl rfl⟩
  · simp [Value.cells] at hcs
    obtain ⟨rfl, rfl, rfl⟩ := hcs
    simp only [if_true] at hmm
    subst hmm
    simp only [Prod.mk.injEq] at hx
    obtain ⟨rfl, rfl⟩ := hx
    obtain ⟨B, hB⟩ := choose_lt (α := α) (p := fun i b => W.cells? base (a.add (i * c)) c = some (cells b) ∧ ok b) (n := len) (fun i hi => by
      obtain ⟨cs', h1, h2⟩ := hel i (by omega)
      have hw : ∀ k ∈ (D i).weights P e, k ≤ reachBytes := fun k hk => by
        have hmem : D i ∈ (List.range len).map D := List.mem_map.2 ⟨i, List.mem_range.2 hi, rfl⟩
        have h1 : k ∈ (DataW.slice ((List.range len).map D) ((List.range (m - len)).map fun j => D (len + j)) : DataW H).weights P t := by
          simp only [DataW.weights, ht, List.mem_cons, List.mem_append]
          exact .inr (.inl (weightsAll_mem hmem _ hk))
        have := List.all_eq_true.1 hsz _ (DataW.weights_mem_each hj hdj _ h1)
        simpa using this
      obtain ⟨b, rfl, hb⟩ := step n cs' _ h2 hw ⟨_, _, rfl, List.mem_map.2 ⟨i, List.mem_range.2 hi, rfl⟩⟩
      rw [hc] at h1
      exact ⟨b, h1, hb⟩)
    have hln : ((List.range len).map B).length = len := by simp
    refine ⟨(List.range len).map B, some a, m, by rw [hln], ?_, fun q => (by cases q), ?_, by rw [hln]; exact hl, sl_of_cells fun i u hu => ?_⟩
    · intro b hb
      obtain ⟨i, hi, rfl⟩ := List.mem_map.1 hb
      exact (hB i (List.mem_range.1 hi)).2
    · rw [hln]
      have := sized_slice hsz hj hdj ht
      simp only [List.length_map, List.length_range] at this
      exact Nat.le_trans (Nat.mul_le_mul_right _ (by omega)) this
    · obtain ⟨q, s, hq, hs, rfl, hu'⟩ := flatMap_at hcl _ _ _ hu
      have hq' : q < len := by simpa using hq
      have hg : ((List.range len).map B)[q] = B q := by simp
      rw [hg] at hu'
      rw [← add_add, (World.cells?_some (hB q hq').1).2.2 s hs]
      exact hu'
theorem open_stG {α : Type} (cells : α → List Value) (ok : α → Prop) {fs : Array Field} (ht : P.underlying t = some (.struct fs))
    (step : ∀ n cs x, DataW.trod enc P W base (fun _ => true) true n t cs = some x → (∀ m ∈ x.1.weights P t, m ≤ reachBytes) → ∃ a, cs = cells a ∧ ok a)
    (hval : Value.okWide P W r b0 t v) (hd : DataW.Trod enc P W base (fun _ => true) true t v d p)
    {ts : List TypeId} {ds : List (DataW H)} (hsz : (DataW.weightsEach P ts ds).all (· ≤ reachBytes) = true) {j : Nat} (hj : ts[j]? = some t) (hdj : ds[j]? = some d) :
    ∃ a : α, v = .agg (cells a).toArray ∧ ok a := by
  obtain ⟨⟨l⟩, rfl, hs⟩ := okWide_struct ht hval
  obtain ⟨fuel, hf⟩ := hd
  obtain ⟨a, h1, h2⟩ := step fuel _ _ hf (fun m hm => by
    have := List.all_eq_true.1 hsz _ (DataW.weights_mem_each hj hdj _ hm)
    simpa using this)
  simp only [Value.cells] at h1
  exact ⟨a, by rw [← h1], h2⟩
end
end Go.Proofs.YthgfdpcpbghkpaaDoor
namespace Go.Proofs.YthgfdpcpbghkpaaDoor
open Go.ChangeShapes Go.WideShapes Go.ChangeAt Go.RowKit Go.Deep
section
variable {H : Type} {enc : TypeId × Value → H} {P : Program} {W : World} {base : Nat} {t e : TypeId}
theorem nest_slG {α : Type} [Inhabited α] (cells : α → List Value) (ok : α → Prop) {c : Nat} (hcl : ∀ a, (cells a).length = c) (ht : P.underlying t = some (.slice e)) (hc : P.cellsOf e = c)
    (step : ∀ n cs x, DataW.trod enc P W base (fun _ => true) true n e cs = some x → (∀ m ∈ x.1.weights P e, m ≤ reachBytes) → ∃ a, cs = cells a ∧ ok a)
    {n0 : Nat} {cs0 : List Value} {x0 : DataW H × List MemPlace} (hf : DataW.trod enc P W base (fun _ => true) true n0 t cs0 = some x0) (hsz : ∀ m ∈ x0.1.weights P t, m ≤ reachBytes) :
    ∃ (l : List α) (A : Option Addr) (cap : Nat), cs0 = [.slice A l.length cap] ∧ (∀ a ∈ l, ok a) ∧ (A = none → l = []) ∧ l.length * P.bytesOf e ≤ reachBytes ∧ l.length ≤ cap ∧ Sl W W.heap.size A (l.flatMap cells) := by
  rcases open_slice ht hf with ⟨hcs, _⟩ | ⟨a, len, cap, m, n, D, Pl, rfl, _, hl, hm, hmm, hx, hel⟩
  · exact ⟨[], none, 0, hcs, by simp, fun _ => rfl, by simp, by simp, .inl rfl⟩
  · simp only [if_true] at hmm
    subst hmm
    subst hx
    obtain ⟨B, hB⟩ := choose_lt (α := α) (p := fun i b => W.cells? base (a.add (i * c)) c = some (cells b) ∧ ok b) (n := len) (fun i hi => by
      obtain ⟨cs', h1, h2⟩ := hel i (by omega)
      have hw : ∀ k ∈ (D i).weights P e, k ≤ reachBytes := fun k hk => by
        have hmem : D i ∈ (List.range len).map D := List.mem_map.2 ⟨i, List.mem_range.2 hi, rfl⟩
        refine hsz k ?_
        simp only [DataW.weights, ht, List.mem_cons, List.mem_append]
        exact .inr (.inl (weightsAll_mem hmem _ hk))
      obtain ⟨b, rfl, hb⟩ := step n cs' _ h2 hw
      rw [hc] at h1
      exact ⟨b, h1, hb⟩)
    have hln : ((List.range len).map B).length = len := by simp
    refine ⟨(List.range len).map B, some a, m, by rw [hln], ?_, fun q => (by cases q), ?_, by rw [hln]; exact hl, sl_of_cells fun i u hu => ?_⟩
    · intro b hb
      obtain ⟨i, hi, rfl⟩ := List.mem_map.1 hb
      exact (hB i (List.mem_range.1 hi)).2
    · rw [hln]
      have := hsz ((((List.range len).map D).length + ((List.range (m - len)).map fun j => D (len + j)).length) * P.bytesOf e) (by simp [DataW.weights, ht])
      simp only [List.length_map, List.length_range] at this
      exact Nat.le_trans (Nat.mul_le_mul_right _ (by omega)) this
    · obtain ⟨q, s, hq, hs, rfl, hu'⟩ := flatMap_at hcl _ _ _ hu
      have hq' : q < len := by simpa using hq
      have hg : ((List.range len).map B)[q] = B q := by simp
      rw [hg] at hu'
      rw [← add_add, (World.cells?_some (hB q hq').1).2.2 s hs]
      exact hu'
theorem nest_slB (ht : P.underlying t = some (.slice e)) (he : P.underlying e = some .bool) (hc : P.cellsOf e = 1) (hb1 : P.bytesOf e = 1)
    {n0 : Nat} {cs0 : List Value} {x0 : DataW H × List MemPlace} (hf : DataW.trod enc P W base (fun _ => true) true n0 t cs0 = some x0) (hsz : ∀ m ∈ x0.1.weights P t, m ≤ reachBytes) :
    ∃ (l : List Bool) (A : Option Addr) (cap : Nat), cs0 = [.slice A l.length cap] ∧ (A = none → l = []) ∧ l.length ≤ 140737488351232 ∧ Sl W W.heap.size A (l.map fun b => .bool b) := by
  obtain ⟨l, A, cap, h1, _, h2, h3, _, h4⟩ := nest_slG (fun b : Bool => [Value.bool b]) (fun _ => True) (c := 1) (fun _ => rfl) ht hc (fun n cs x hx _ => by
    obtain ⟨b, rfl, _⟩ := DataW.trod_bool he hx
    exact ⟨b, rfl, trivial⟩) hf hsz
  refine ⟨l, A, cap, h1, h2, ?_, ?_⟩
  · rw [hb1, Nat.mul_one] at h3
    exact Nat.le_trans h3 (by decide)
  · have e : ∀ l : List Bool, (l.flatMap fun b => [Value.bool b]) = l.map fun b => .bool b := fun l => by
      induction l with
      | nil => rfl
      | cons b l ih => simp only [List.flatMap_cons, List.map_cons, ih]; rfl
    rwa [e] at h4
end
end Go.Proofs.YthgfdpcpbghkpaaDoor
namespace Go.Proofs.YthgfdpcpbghkpaaDoor
open Go.ChangeShapes Go.WideShapes Go.ChangeAt Go.RowKit Go.Deep Dsk
structure Fl where
  at_ : Int
  ks : List Bool
  A : Option Addr
  k : Nat
def Fl.cells (f : Fl) : List Value := [.int .i64 f.at_, .slice f.A f.ks.length f.k]
structure Fl.Ok (f : Fl) (w : World) (C : Nat) : Prop where
  at_ : -9223372036854775808 ≤ f.at_ ∧ f.at_ ≤ 9223372036854775807
  nil : f.A = none → boolsV f.ks = []
  len : f.ks.length ≤ 140737488351232
  sl : Sl w C f.A (boolsV f.ks)
section
variable {H : Type} {enc : TypeId × Value → H} {W : World} {base : Nat} {v : Value} {d : DataW H} {p : List MemPlace} {r : Reach} {b0 : Nat}
theorem two {l : List Value} (h : l.length = 2) : ∃ a b, l = [a, b] := by
  match l, h with
  | [a, b], _ => exact ⟨a, b, rfl⟩
set_option maxRecDepth 20000 in
theorem fall_step (n : Nat) (cs : List Value) (x : DataW H × List MemPlace) (h : DataW.trod enc Tryd.prog W base (fun _ => true) true n 39 cs = some x) (hw : ∀ m ∈ x.1.weights Tryd.prog 39, m ≤ reachBytes) : ∃ a : Fl, cs = a.cells ∧ a.Ok W W.heap.size := by
  obtain ⟨xs, m, rfl, rfl, hl, hlen, hf⟩ := DataW.trod_struct Tryd.underlying39 h
  obtain ⟨c0, c1, rfl⟩ := two (hl.trans (by kernel_rfl))
  have g : ∀ i (hi : i < 2), ∃ y, xs[i]? = some y := fun i hi => ⟨_, List.getElem?_eq_getElem (by rw [hlen]; exact hi)⟩
  obtain ⟨y0, e0⟩ := g 0 (by omega)
  obtain ⟨y1, e1⟩ := g 1 (by omega)
  have f0 : DataW.trod enc Tryd.prog W base (fun _ => true) true m 3 ((([c0, c1] : List Value).drop 0).take (Tryd.prog.cellsOf 3)) = some y0 := (hf 0 _ rfl).trans e0
  have f1 : DataW.trod enc Tryd.prog W base (fun _ => true) true m 37 ((([c0, c1] : List Value).drop 1).take (Tryd.prog.cellsOf 37)) = some y1 := (hf 1 _ rfl).trans e1
  rw [show Tryd.prog.cellsOf 3 = 1 by kernel_rfl] at f0
  rw [show Tryd.prog.cellsOf 37 = 1 by kernel_rfl] at f1
  simp only [List.drop_zero, List.drop_succ_cons, List.take_succ_cons, List.take_zero] at f0 f1
  obtain ⟨n0, h0, _, w0⟩ := DataW.trod_int Tryd.underlying3 f0
  have hd1 : (xs.map (·.1))[1]? = some y1.1 := by rw [List.getElem?_map, e1]; rfl
  have hwe : ∀ k ∈ DataW.weightsEach Tryd.prog [3, 37] (xs.map (·.1)), k ≤ reachBytes := fun k hk => hw k (by
    simp only [DataW.weights, Tryd.underlying39]
    exact hk)
  obtain ⟨l, A, cap, h1, hA, hn, hs⟩ := nest_slB Tryd.underlying37 Tryd.underlying4 (by kernel_rfl) (by kernel_rfl) f1 (fun k hk => hwe k (DataW.weights_mem_each (j := 1) rfl hd1 _ hk))
  simp only [List.cons.injEq, and_true] at h0 h1
  subst h0 h1
  exact ⟨⟨n0, l, A, cap⟩, rfl, ⟨wf_int w0, fun h => by rw [hA h]; rfl, hn, hs⟩⟩
set_option maxRecDepth 20000 in
theorem open_Fall (hval : Value.okWide Tryd.prog W r b0 39 v) (hd : DataW.Trod enc Tryd.prog W base (fun _ => true) true 39 v d p)
    {ts : List TypeId} {ds : List (DataW H)} (hsz : (DataW.weightsEach Tryd.prog ts ds).all (· ≤ reachBytes) = true) {j : Nat} (hj : ts[j]? = some 39) (hdj : ds[j]? = some d) :
    ∃ a : Fl, v = .agg a.cells.toArray ∧ a.Ok W W.heap.size :=
  open_stG Fl.cells (fun a => a.Ok W W.heap.size) Tryd.underlying39 (fun n cs x hx hw => fall_step n cs x hx hw) hval hd hsz hj hdj
end
end Go.Proofs.YthgfdpcpbghkpaaDoor
namespace Go.Proofs.YthgfdpcpbghkpaaDoor
open Go.RowKit Pth Rec Srt Cat Dsk Wal
theorem mlen_lt {w : World} (h : MLen w) : 0 < w.heap.size := by
  obtain ⟨m, hm⟩ := h
  exact World.block_lt_of_cell? w _ hm
theorem sums_of {l : List M} (h : ∀ m ∈ l, m.Ok) : Sums l := fun m hm => (h m hm).2
set_option maxRecDepth 20000 in
theorem catalogBack_s (gen : Int) (g0 : -9223372036854775808 ≤ gen) (g1 : gen ≤ 9223372036854775807) (l old : List M) (hok : ∀ m ∈ l, m.Ok) (hok2 : ∀ m ∈ old, m.Ok) (hl : l.length ≤ 140737488355328) (hl2 : old.length ≤ 140737488355328) (A A2 : Option Addr) (c c2 C C2 : Nat) (w : World) (hs : Sl w C A (memsV l)) (hs2 : Sl w C2 A2 (memsV old)) (hG : MLen w) :
    Ret Tryd.prog 3 [.int .i64 gen, .slice A l.length c, .slice A2 old.length c2] w fun v w' => v = .bool true ∧ Ext w w' := by
  have hgl := mlen_lt hG
  have bye : ∀ w', Ext w w' → Ret Tryd.prog 6 [] w' fun v w'' => v = .bool true ∧ Ext w w'' := fun w' hx => (cawake_s w' (hG.ext hx) (Nat.lt_of_lt_of_le hgl hx.size)).mono fun _ _ h => ⟨h.1, Ext.trans hx h.2⟩
  refine Ret.enter Tryd.func3 rfl Tryd.ntmps3 (by kernel_rfl) rfl ?_
  refine KW.seq (KW.region ?_)
  refine OW.val rfl rfl (EX.assign rfl) ?_
  refine OW.nil ?_
  refine KW.seq (KW.region ?_)
  refine OW.val rfl rfl (EX.move rfl) ?_
  refine OW.val rfl rfl (EX.move rfl) ?_
  refine OW.call rfl rfl rfl (encode23_s gen l hok hl A c C w hG hs) ?_
  rintro _ w1 ⟨⟨u1, rfl, own1⟩, hx1⟩
  refine OW.val rfl rfl (EX.move rfl) ?_
  refine OW.val rfl rfl (EX.extract rfl rfl) ?_
  refine OW.val rfl rfl (EX.extract rfl rfl) ?_
  refine OW.val rfl rfl (EX.assign rfl) ?_
  refine OW.val rfl rfl (EX.assign rfl) ?_
  refine OW.nil ?_
  refine KW.seq (KW.seq (KW.region ?_))
  refine OW.val rfl rfl (EX.move rfl) ?_
  refine OW.val rfl rfl (by first | exact EX.neqN (b := 0) rfl rfl | exact EX.neqZ rfl rfl) ?_
  refine OW.nil ?_
  refine KW.condD rfl (fun he => ?_) (fun he => ?_)
  · have hno : ¬ OkE gen l := fun q => by rw [encC_ok q] at he; exact he rfl
    rw [encC_no hno] at own1
    obtain ⟨A1, c1, rfl, _, _⟩ := own1.slice
    refine KW.seq ?_
    refine KW.region ?_
    refine OW.val rfl rfl (EX.move rfl) ?_
    refine OW.val rfl rfl (EX.lenA Tryd.underlying23 rfl) ?_
    refine OW.val rfl rfl (by first | exact EX.eqlN (b := 0) rfl rfl | exact EX.eqlZ rfl rfl) ?_
    refine OW.val rfl rfl (EX.move rfl) ?_
    refine OW.as 25 (.bool true) rfl (congrArg Value.bool (decide_eq_true (rfl))) ?_
    refine OW.call rfl rfl rfl (bye w1 hx1) ?_
    rintro _ w2 ⟨rfl, hx2⟩
    refine OW.val rfl rfl (EX.pickT rfl rfl) ?_
    refine OW.val rfl rfl (EX.assign rfl) ?_
    refine OW.nil ?_
    refine KW.ret (ret1 rfl rfl ?_)
    exact ⟨rfl, hx2⟩
  · have hE : OkE gen l := Classical.byContradiction fun q => he (by rw [encC_no q]; decide)
    have hback := dec_back (sums_of hok) (encC_ok hE)
    have henc := encC_ok hE
    rw [henc] at own1
    have h5 := sect5_len gen (allT l)
    generalize sect5 gen (allT l) = T at own1 hback h5
    simp only [h5] at own1
    obtain ⟨A1, c1, rfl, _, sl1⟩ := own1.slice
    have cd := decode23_s T (by omega) A1 c1 _ w1 (hG.ext hx1) sl1
    rw [hback, h5] at cd
    refine KW.skip (KW.seq (KW.region ?_))
    refine OW.val rfl rfl (EX.move rfl) ?_
    refine OW.call rfl rfl rfl (cd) ?_
    rintro _ w2 ⟨⟨u2, rfl, own2⟩, hx2⟩
    refine OW.val rfl rfl (EX.move rfl) ?_
    refine OW.val rfl rfl (EX.extract rfl rfl) ?_
    refine OW.val rfl rfl (EX.extract rfl rfl) ?_
    refine OW.val rfl rfl (EX.extract rfl rfl) ?_
    refine OW.val rfl rfl (EX.assign rfl) ?_
    refine OW.val rfl rfl (EX.assign rfl) ?_
    refine OW.val rfl rfl (EX.assign rfl) ?_
    refine OW.nil ?_
    refine KW.seq (KW.seq ?_)
    have x2 := hx1.trans hx2
    obtain ⟨A3, c3, rfl, _, sl2⟩ := own2.slice
    have hl16 : l.length ≤ 1000000000000 := by have := hE.chk.len; omega
    have cs := same_s l l A3 A c3 c w2 _ _ sl2 (hs.ext x2) hl16
    rw [decide_eq_true rfl] at cs
    refine KW.region ?_
    refine OW.val rfl rfl (EX.move rfl) ?_
    refine OW.val rfl rfl (by first | exact EX.neqN (b := 0) rfl rfl | exact EX.neqZ rfl rfl) ?_
    refine OW.val rfl rfl (EX.move rfl) ?_
    refine OW.as 36 (.bool false) rfl (congrArg Value.bool (decide_eq_false (fun z => z rfl))) ?_
    refine OW.val rfl rfl (EX.move rfl) ?_
    refine OW.val rfl rfl (EX.move rfl) ?_
    refine OW.val rfl rfl (by first | exact EX.neqN rfl rfl | exact EX.neqZ rfl rfl) ?_
    refine OW.val rfl rfl (EX.pickF rfl rfl) ?_
    refine OW.val rfl rfl (EX.move rfl) ?_
    refine OW.as 41 (.bool false) rfl (congrArg Value.bool (decide_eq_false (fun z => z rfl))) ?_
    refine OW.val rfl rfl (EX.move rfl) ?_
    refine OW.val rfl rfl (EX.move rfl) ?_
    refine OW.call rfl rfl rfl (cs) ?_
    rintro _ w3 ⟨rfl, hx3⟩
    refine OW.val rfl rfl (by first | exact EX.notD rfl | exact EX.notB rfl) ?_
    refine OW.val rfl rfl (EX.pickF rfl rfl) ?_
    refine OW.val rfl rfl (EX.move rfl) ?_
    have x3 := x2.trans hx3
    refine OW.val rfl rfl (EX.move rfl) ?_
    refine OW.val rfl rfl (EX.lenA Tryd.underlying23 rfl) ?_
    refine OW.val rfl rfl (by first | exact EX.neqN (b := 5) rfl rfl | exact EX.neqZ rfl rfl) ?_
    refine OW.val rfl rfl (EX.pickF rfl rfl) ?_
    refine OW.nil ?_
    refine KW.as 51 (.bool false) rfl (congrArg Value.bool (decide_eq_false (fun z => z rfl))) ?_
    refine KW.condF rfl (KW.skip (KW.seq (KW.region ?_)))
    refine OW.call rfl rfl rfl (newN 4096 (by decide) w3) ?_
    rintro _ w4 ⟨hx4, b, rfl, hdev⟩
    refine OW.val rfl rfl (EX.move rfl) ?_
    refine OW.val rfl rfl (EX.extract rfl rfl) ?_
    refine OW.val rfl rfl (EX.extract rfl rfl) ?_
    refine OW.val rfl rfl (EX.assign rfl) ?_
    refine OW.val rfl rfl (EX.assign rfl) ?_
    refine OW.nil ?_
    refine KW.seq (KW.seq ?_)
    have x4 := x3.trans hx4
    refine KW.region ?_
    refine OW.val rfl rfl (EX.move rfl) ?_
    refine OW.val rfl rfl (by first | exact EX.neqN (b := 0) rfl rfl | exact EX.neqZ rfl rfl) ?_
    refine OW.val rfl rfl (EX.move rfl) ?_
    refine OW.as 58 (.bool false) rfl (congrArg Value.bool (decide_eq_false (fun z => z rfl))) ?_
    refine OW.val rfl rfl (EX.move rfl) ?_
    refine OW.val rfl rfl (by first | exact EX.eqlP1 Tryd.underlying31 rfl rfl | exact EX.eqlP0 Tryd.underlying31 rfl rfl) ?_
    refine OW.val rfl rfl (EX.pickF rfl rfl) ?_
    refine OW.nil ?_
    refine KW.condF rfl (KW.skip (KW.seq (KW.seq ?_)))
    obtain ⟨g, rfl⟩ := Int.eq_ofNat_of_zero_le hE.low
    have hgh := hE.high
    have hbl := back_load hE (sums_of hok) (sums_of hok2)
    obtain ⟨ah1, ah2, ah3, _⟩ := cahead_fine g old (sums_of hok2)
    have hsm : Sm (cahead g old) 6 := by
      unfold cahead
      split
      · exact save_sm (fresh_smC 4096 []) _ _
      · exact (fresh_smC 4096 []).more (by omega)
    refine KW.cutd1 (fun (wq : World) => DevAt wq w3.heap.size b (cahead g old) ∧ Ext w wq) (fun (wq : World) => [(0, .int .i64 ((g : Nat) : Int)), (1, .slice A l.length c), (12, .pointer (some ⟨b, 0, none⟩))]) (fun (wq : World) => wq) ?_ ?_
    · refine KW.region ?_
      refine OW.val rfl rfl (EX.move rfl) ?_
      refine OW.val rfl rfl (by first | exact EX.gtrN (b := 0) rfl rfl | exact EX.gtrZ rfl rfl) ?_
      refine OW.nil ?_
      refine KW.condD rfl (fun hpos => ?_) (fun hpos => ?_)
      · have eah : cahead g old = (saveC B4 ((g - 1 : Nat) : Int) old).1 := if_pos (by omega)
        refine KW.region ?_
        refine OW.val rfl rfl (EX.move rfl) ?_
        refine OW.val rfl rfl (EX.move rfl) ?_
        refine OW.val rfl rfl (by first | exact EX.subN (b := 1) (m := 9223372036854775807) rfl rfl rfl (by omega) | exact EX.subZ (m := 9223372036854775807) rfl rfl rfl rfl (by omega)) ?_
        refine OW.val rfl rfl (EX.move rfl) ?_
        refine OW.call rfl rfl rfl (save_s B4_rest.ok (fresh_smC 4096 []) (by omega) w3.heap.size b ((g - 1 : Nat) : Int) (by omega) (by omega) old hl2 hok2 A2 c2 C2 w4 (hG.ext x4) hdev (hs2.ext x4)) ?_
        rintro _ w5 ⟨rfl, hdev5, tm5⟩
        refine OW.nil ?_
        refine KW.meet1 (w5) ⟨rfl, rfl, rfl, trivial⟩ rfl ?_
        rw [eah]
        exact ⟨hdev5, Tm.below x4 tm5 x4.size x3.size⟩
      · have eah : cahead g old = B4 := if_neg (by omega)
        refine KW.skip ?_
        refine KW.meet1 (w4) ⟨rfl, rfl, rfl, trivial⟩ rfl ?_
        rw [eah]
        exact ⟨hdev, x4⟩
    · rintro wq ⟨hdevq, xq⟩
      generalize cahead g old = D at hbl ah1 ah2 ah3 hsm hdevq
      have csv := save_s ah1.ok hsm (by omega) w3.heap.size b (g : Int) (by omega) (by omega) l hl hok A c C wq (hG.ext xq) hdevq (hs.ext xq)
      rw [hbl.1] at csv
      refine KW.seq (KW.seq (KW.region ?_))
      refine OW.val rfl rfl (EX.move rfl) ?_
      refine OW.val rfl rfl (EX.move rfl) ?_
      refine OW.val rfl rfl (EX.move rfl) ?_
      refine OW.call rfl rfl rfl (csv) ?_
      rintro _ w6 ⟨rfl, hdev6, tm6⟩
      refine OW.val rfl rfl (by first | exact EX.neqN (b := 0) rfl rfl | exact EX.neqZ rfl rfl) ?_
      refine OW.nil ?_
      have x6 : Ext w w6 := Tm.below xq tm6 xq.size x3.size
      have hsm6 := save_sm hsm (g : Int) l
      obtain ⟨_, hr6, hld⟩ := hbl
      generalize (saveC D (g : Int) l).1 = D6 at hdev6 hsm6 hr6 hld
      refine KW.condD rfl (fun hee => ?_) (fun hee => ?_)
      · exact absurd rfl hee
      · have cld := cload_s hr6.ok hsm6 (by omega) w3.heap.size b w6 (hG.ext x6) (Nat.lt_of_lt_of_le hgl x3.size) hdev6
        rw [hld] at cld
        refine KW.skip (KW.seq (KW.region ?_))
        refine OW.val rfl rfl (EX.move rfl) ?_
        refine OW.call rfl rfl rfl (cld) ?_
        rintro _ w7 ⟨⟨u7, rfl, own7⟩, hdev7, tm7⟩
        obtain ⟨A7, c7, rfl, _, sl7⟩ := own7.slice
        refine OW.val rfl rfl (EX.move rfl) ?_
        refine OW.val rfl rfl (EX.extract rfl rfl) ?_
        refine OW.val rfl rfl (EX.extract rfl rfl) ?_
        refine OW.val rfl rfl (EX.extract rfl rfl) ?_
        refine OW.val rfl rfl (EX.assign rfl) ?_
        refine OW.val rfl rfl (EX.assign rfl) ?_
        refine OW.val rfl rfl (EX.assign rfl) ?_
        refine OW.nil ?_
        refine KW.seq ?_
        have x7 : Ext w w7 := Tm.below x6 tm7 x6.size x3.size
        have cs7 := same_s l l A7 A c7 c w7 _ _ sl7 (hs.ext x7) hl16
        rw [decide_eq_true rfl] at cs7
        refine KW.region ?_
        refine OW.val rfl rfl (EX.move rfl) ?_
        refine OW.val rfl rfl (by first | exact EX.eqlN (b := 0) rfl rfl | exact EX.eqlZ rfl rfl) ?_
        refine OW.val rfl rfl (EX.move rfl) ?_
        refine OW.as 82 (.bool true) rfl (congrArg Value.bool (decide_eq_true (rfl))) ?_
        refine OW.val rfl rfl (EX.move rfl) ?_
        refine OW.val rfl rfl (EX.move rfl) ?_
        refine OW.val rfl rfl (by first | exact EX.eqlN rfl rfl | exact EX.eqlZ rfl rfl) ?_
        refine OW.val rfl rfl (EX.pickT rfl rfl) ?_
        refine OW.val rfl rfl (EX.move rfl) ?_
        refine OW.as 87 (.bool true) rfl (congrArg Value.bool (decide_eq_true (rfl))) ?_
        refine OW.val rfl rfl (EX.move rfl) ?_
        refine OW.val rfl rfl (EX.move rfl) ?_
        refine OW.call rfl rfl rfl (cs7) ?_
        rintro _ w8 ⟨rfl, hx8⟩
        refine OW.val rfl rfl (EX.pickT rfl rfl) ?_
        refine OW.val rfl rfl (EX.move rfl) ?_
        refine OW.call rfl rfl rfl (bye w8 (x7.trans hx8)) ?_
        rintro _ w9 ⟨rfl, hx9⟩
        refine OW.val rfl rfl (EX.pickT rfl rfl) ?_
        refine OW.val rfl rfl (EX.assign rfl) ?_
        refine OW.nil ?_
        refine KW.ret (ret1 rfl rfl ?_)
        exact ⟨rfl, hx9⟩
theorem runs_sm (l : List M) : ∀ g, Sm (runs l g) (6 * g)
  | 0 => fresh_smC 100 []
  | g + 1 => (save_sm (runs_sm l g) (g : Nat) l).more (by omega)
theorem plan_at {D : Dv} (h : D.dead = false) {a : Int} (ha : 0 ≤ a) (k : List Bool) : D.plan a k = ({ D with at_ := a.toNat, keep := k }, 0) := by
  unfold Dv.plan
  rw [if_neg (by rw [h]; decide), if_neg (by omega)]
theorem torn_all {l more : List M} (hC : OkC l 100) (hC2 : OkC more 100) (hs : Sums l) (hs2 : Sums more) {a : Nat} (ha : 1 ≤ a) (ks : List Bool) :
    ((saveC (planned l a ks) 4 more).2 = 0 ∧ (saveC (planned l a ks) 4 more).1.dead = false ∨ (saveC (planned l a ks) 4 more).2 = 190 ∧ (saveC (planned l a ks) 4 more).1.dead = true) ∧
    Cat.Rest { (saveC (planned l a ks) 4 more).1 with dead := false } ∧ (saveC (planned l a ks) 4 more).1.cap = 100 ∧
    ((loadC { (saveC (planned l a ks) 4 more).1 with dead := false } = (3, l, 0) ∧ (saveC (planned l a ks) 4 more).2 = 190) ∨ loadC { (saveC (planned l a ks) 4 more).1 with dead := false } = (4, more, 0)) := by
  rcases Nat.lt_or_ge 6 a with h | h
  · obtain ⟨h1, h2, h3, h4⟩ := torn_go hC hC2 hs hs2 h ks
    have e : { (saveC (planned l a ks) 4 more).1 with dead := false } = (saveC (planned l a ks) 4 more).1 := by
      have := h2.dead
      generalize (saveC (planned l a ks) 4 more).1 = D at this
      cases D
      simp only at this
      rw [this]
    rw [e]
    exact ⟨.inl ⟨h1, h2.dead⟩, h2, h3, .inr h4⟩
  · obtain ⟨h1, h2, h3, h4, h5⟩ := torn_fall hC hC2 hs hs2 ha h ks rfl
    exact ⟨.inr ⟨h1, h2⟩, h3, h4, h5.imp (fun q => ⟨q, h1⟩) id⟩
theorem torn_next {D : Dv} (h : Cat.Rest D) (hc : D.cap = 100) {more : List M} (hC2 : OkC more 100) {g : Nat} (hg : g ≤ 100) : (loadedC D).plan 0 [] = ({ loadedC D with at_ := 0, keep := [] }, 0) ∧ (saveC { loadedC D with at_ := 0, keep := [] } g more).2 = 0 ∧ Cat.Rest { loadedC D with at_ := 0, keep := [] } := by
  have e : loadedC D = readsC D (nreads D) := by unfold loadedC; rw [if_neg (by rw [h.dead]; decide)]
  rw [e]
  have hr : Cat.Rest { readsC D (nreads D) with at_ := 0, keep := [] } := ⟨⟨h.ok.cap, h.ok.kept, h.ok.now, h.ok.keptM, h.ok.nowM, h.ok.pend⟩, h.dead, h.pend, h.kept⟩
  exact ⟨plan_at (D := readsC D (nreads D)) h.dead (by decide) [], (save_live (gen := g) hr (.inl rfl) (Cat.okE_of hC2 (by decide) (by omega)) (by show OkC more (D.cap : Nat); rw [hc]; exact hC2) (by show 10 ≤ D.cap; omega)).1, hr⟩
set_option maxRecDepth 20000 in
theorem catalogTorn_s (l more : List M) (hok : ∀ m ∈ l, m.Ok) (hok2 : ∀ m ∈ more, m.Ok) (hl : l.length ≤ 140737488355328) (hl2 : more.length ≤ 140737488355328) (A A2 : Option Addr) (c c2 C C2 C3 : Nat) (f : Fl) (w : World) (hf : f.Ok w C3) (hs : Sl w C A (memsV l)) (hs2 : Sl w C2 A2 (memsV more)) (hG : MLen w) :
    Ret Tryd.prog 4 [.slice A l.length c, .slice A2 more.length c2, .agg f.cells.toArray] w fun v w' => v = .bool true ∧ Ext w w' := by
  have hgl := mlen_lt hG
  have bye : ∀ w', Ext w w' → Ret Tryd.prog 6 [] w' fun v w'' => v = .bool true ∧ Ext w w'' := fun w' hx => (cawake_s w' (hG.ext hx) (Nat.lt_of_lt_of_le hgl hx.size)).mono fun _ _ h => ⟨h.1, Ext.trans hx h.2⟩
  refine Ret.enter Tryd.func4 rfl Tryd.ntmps4 (by kernel_rfl) rfl ?_
  refine KW.seq (KW.region ?_)
  refine OW.boxS rfl rfl rfl ?_
  rintro fb w1 hge1 hf1 hx1
  refine OW.val rfl rfl (EX.assign rfl) ?_
  refine OW.nil ?_
  refine KW.seq (KW.seq ?_)
  refine KW.region ?_
  refine OW.val rfl rfl (EX.move rfl) ?_
  refine OW.call rfl rfl rfl (chk_s l hok hl 100 A c C w1 (hG.ext hx1) (hs.ext hx1)) ?_
  rintro _ w2 ⟨rfl, hx2⟩
  refine OW.val rfl rfl (by first | exact EX.neqN (b := 0) rfl rfl | exact EX.neqZ rfl rfl) ?_
  refine OW.val rfl rfl (EX.move rfl) ?_
  have x2 := hx1.trans hx2
  refine OW.splitD 19 rfl (fun a1 => ?_) (fun a1 => ?_)
  · refine OW.pass rfl rfl ?_
    refine OW.pass rfl rfl ?_
    refine OW.pass rfl rfl ?_
    refine OW.val rfl rfl (EX.pickT rfl rfl) ?_
    refine OW.val rfl rfl (EX.move rfl) ?_
    refine OW.pass rfl rfl ?_
    refine OW.pass rfl rfl ?_
    refine OW.pass rfl rfl ?_
    refine OW.val rfl rfl (EX.pickT rfl rfl) ?_
    refine OW.nil ?_
    refine KW.condT rfl (KW.seq (KW.region ?_))
    refine OW.call rfl rfl rfl (bye w2 x2) ?_
    rintro _ w3 ⟨rfl, hx3⟩
    refine OW.val rfl rfl (EX.assign rfl) ?_
    refine OW.nil ?_
    refine KW.ret (ret1 rfl rfl ?_)
    exact ⟨rfl, hx3⟩
  · have hC : OkC l 100 := Classical.byContradiction fun q => a1 (by rw [chkC_no q]; decide)
    have hl16 : l.length ≤ 1000000000000 := by have := hC.len; omega
    refine OW.val rfl rfl (EX.move rfl) ?_
    refine OW.call rfl rfl rfl (chk_s more hok2 hl2 100 A2 c2 C2 w2 (hG.ext x2) (hs2.ext x2)) ?_
    rintro _ w3 ⟨rfl, hx3⟩
    refine OW.val rfl rfl (by first | exact EX.neqN (b := 0) rfl rfl | exact EX.neqZ rfl rfl) ?_
    refine OW.val rfl rfl (EX.pickF rfl rfl) ?_
    refine OW.val rfl rfl (EX.move rfl) ?_
    have x3 := x2.trans hx3
    refine OW.splitD 24 rfl (fun a2 => ?_) (fun a2 => ?_)
    · refine OW.pass rfl rfl ?_
      refine OW.pass rfl rfl ?_
      refine OW.pass rfl rfl ?_
      refine OW.val rfl rfl (EX.pickT rfl rfl) ?_
      refine OW.nil ?_
      refine KW.condT rfl (KW.seq (KW.region ?_))
      refine OW.call rfl rfl rfl (bye w3 x3) ?_
      rintro _ w4 ⟨rfl, hx4⟩
      refine OW.val rfl rfl (EX.assign rfl) ?_
      refine OW.nil ?_
      refine KW.ret (ret1 rfl rfl ?_)
      exact ⟨rfl, hx4⟩
    · have hC2 : OkC more 100 := Classical.byContradiction fun q => a2 (by rw [chkC_no q]; decide)
      have hl162 : more.length ≤ 1000000000000 := by have := hC2.len; omega
      have hf3 := (hf1.ext hx2).ext hx3
      refine OW.val rfl rfl (EX.fieldAddr (off := 0) Tryd.underlying39 rfl rfl ti3 rfl rfl) ?_
      refine OW.val rfl rfl (EX.load Tryd.underlying3 rfl rfl (hf3.cell_of rfl)) ?_
      refine OW.val rfl rfl (by first | exact EX.lssN (b := 1) rfl rfl | exact EX.lssZ rfl rfl) ?_
      refine OW.val rfl rfl (EX.pickF rfl rfl) ?_
      refine OW.nil ?_
      refine KW.condD rfl (fun a3 => ?_) (fun a3 => ?_)
      · refine KW.seq (KW.region ?_)
        refine OW.call rfl rfl rfl (bye w3 x3) ?_
        rintro _ w4 ⟨rfl, hx4⟩
        refine OW.val rfl rfl (EX.assign rfl) ?_
        refine OW.nil ?_
        refine KW.ret (ret1 rfl rfl ?_)
        exact ⟨rfl, hx4⟩
      · obtain ⟨a, ha⟩ := Int.eq_ofNat_of_zero_le (show 0 ≤ f.at_ by omega)
        have ha1 : 1 ≤ a := by omega
        refine KW.skip (KW.seq (KW.region ?_))
        refine OW.call rfl rfl rfl (newN 100 (by decide) w3) ?_
        rintro _ w4 ⟨hx4, b, rfl, hdev⟩
        refine OW.val rfl rfl (EX.move rfl) ?_
        refine OW.val rfl rfl (EX.extract rfl rfl) ?_
        refine OW.val rfl rfl (EX.extract rfl rfl) ?_
        refine OW.val rfl rfl (EX.assign rfl) ?_
        refine OW.val rfl rfl (EX.assign rfl) ?_
        refine OW.nil ?_
        refine KW.seq (KW.seq ?_)
        have x4 := x3.trans hx4
        refine KW.region ?_
        refine OW.val rfl rfl (EX.move rfl) ?_
        refine OW.val rfl rfl (by first | exact EX.neqN (b := 0) rfl rfl | exact EX.neqZ rfl rfl) ?_
        refine OW.val rfl rfl (EX.move rfl) ?_
        refine OW.as 36 (.bool false) rfl (congrArg Value.bool (decide_eq_false (fun z => z rfl))) ?_
        refine OW.val rfl rfl (EX.move rfl) ?_
        refine OW.val rfl rfl (by first | exact EX.eqlP1 Tryd.underlying31 rfl rfl | exact EX.eqlP0 Tryd.underlying31 rfl rfl) ?_
        refine OW.val rfl rfl (EX.pickF rfl rfl) ?_
        refine OW.nil ?_
        refine KW.condF rfl (KW.skip (KW.seq (KW.seq (KW.region ?_))))
        refine OW.val rfl rfl (EX.assign rfl) ?_
        refine OW.nil ?_
        refine KW.block ?_
        refine KW.loop2 (fun (g : Nat) (wr : World) => g ≤ 4 ∧ DevAt wr w3.heap.size b (runs l g) ∧ Bk wr fb 39 f.cells ∧ Ext w wr) (fun (g : Nat) (wr : World) => [(0, .slice A l.length c), (1, .slice A2 more.length c2), (5, .pointer (some ⟨fb, 0, none⟩)), (7, .pointer (some ⟨b, 0, none⟩)), (9, .int .i64 ((g : Nat) : Int))]) (fun (g : Nat) (wr : World) => wr) (fun (g : Nat) (wr : World) => 4 - g) (0) (w4) ⟨rfl, rfl, rfl, rfl, rfl, trivial⟩ rfl ?_ ?_
        · exact ⟨by omega, hdev, hf3.ext hx4, x4⟩
        · rintro g wr ⟨hg, hdr, hfr, xr⟩
          refine KW.seq (KW.seq (KW.region ?_))
          refine OW.val rfl rfl (EX.move rfl) ?_
          refine OW.val rfl rfl (by first | exact EX.lssN (b := 4) rfl rfl | exact EX.lssZ rfl rfl) ?_
          refine OW.nil ?_
          refine KW.condD rfl (fun hlt => ?_) (fun hlt => ?_)
          · obtain ⟨r1, r2, r3⟩ := runs_fine hC g (by omega)
            have rs := runs_save hC (g := g) (by omega)
            have csv := save_s r1.ok (runs_sm l g) (by omega) w3.heap.size b (g : Int) (by omega) (by omega) l hl hok A c C wr (hG.ext xr) hdr (hs.ext xr)
            rw [rs.1] at csv
            refine KW.skip (KW.seq (KW.block (KW.seq (KW.region ?_))))
            refine OW.val rfl rfl (EX.move rfl) ?_
            refine OW.val rfl rfl (EX.move rfl) ?_
            refine OW.val rfl rfl (EX.move rfl) ?_
            refine OW.call rfl rfl rfl (csv) ?_
            rintro _ w5 ⟨rfl, hdev5, tm5⟩
            refine OW.val rfl rfl (by first | exact EX.neqN (b := 0) rfl rfl | exact EX.neqZ rfl rfl) ?_
            refine OW.nil ?_
            refine KW.condD rfl (fun hee => ?_) (fun hee => ?_)
            · exact absurd rfl hee
            · refine KW.skip (KW.leave (KW.region ?_))
              refine OW.val rfl rfl (EX.move rfl) ?_
              refine OW.val rfl rfl (by first | exact EX.addN (b := 1) (m := 9223372036854775807) rfl rfl rfl (by omega) | exact EX.addZ (m := 9223372036854775807) rfl rfl rfl rfl (by omega)) ?_
              refine OW.val rfl rfl (EX.assign rfl) ?_
              refine OW.nil ?_
              refine KW.back2 (g + 1) (w5) ⟨rfl, rfl, rfl, rfl, rfl, trivial⟩ rfl ?_ (by omega)
              exact ⟨by omega, hdev5, tm5.bk hfr (by decide), Tm.below xr tm5 xr.size x3.size⟩
          · obtain rfl : g = 4 := by omega
            obtain ⟨r1, r2, r3⟩ := runs_fine hC 4 (by omega)
            have hsm4 := runs_sm l 4
            have cpl := plan_d hdr r1.ok f.at_ hf.at_.1 hf.at_.2 f.A f.k C3 f.ks (hf.sl.ext xr) hf.nil hf.len
            have epl : (runs l 4).plan f.at_ f.ks = (planned l a f.ks, 0) := by rw [plan_at r1.dead (by omega), ha]; rfl
            rw [epl] at cpl
            refine KW.exit rfl (KW.seq (KW.seq (KW.region ?_)))
            refine OW.val rfl rfl (EX.move rfl) ?_
            refine OW.val rfl rfl (EX.loadBk Tryd.underlying39 rfl ti39 rfl hfr rfl) ?_
            refine OW.call rfl rfl rfl (cpl) ?_
            rintro _ w5 ⟨rfl, hdev5, tm5⟩
            refine OW.val rfl rfl (by first | exact EX.neqN (b := 0) rfl rfl | exact EX.neqZ rfl rfl) ?_
            refine OW.nil ?_
            have x5 : Ext w w5 := Tm.below xr tm5 xr.size x3.size
            refine KW.condD rfl (fun hee => ?_) (fun hee => ?_)
            · exact absurd rfl hee
            · have ht := torn_all hC hC2 (sums_of hok) (sums_of hok2) ha1 f.ks
              have hpr := planned_rest hC a f.ks
              have hsmp : Sm (planned l a f.ks) 24 := ⟨hsm4.calls, hsm4.pend, by show a ≤ _; have := hf.at_; omega, by show f.ks.length ≤ _; have := hf.len; omega⟩
              generalize planned l a f.ks = P at ht hpr hsmp hdev5
              refine KW.skip (KW.seq (KW.region ?_))
              refine OW.val rfl rfl (EX.move rfl) ?_
              refine OW.val rfl rfl (EX.move rfl) ?_
              refine OW.call rfl rfl rfl (save_s hpr.ok hsmp (by omega) w3.heap.size b 4 (by decide) (by decide) more hl2 hok2 A2 c2 C2 w5 (hG.ext x5) hdev5 (hs2.ext x5)) ?_
              rintro _ w6 ⟨rfl, hdev6, tm6⟩
              refine OW.val rfl rfl (EX.assign rfl) ?_
              refine OW.nil ?_
              refine KW.seq (KW.seq ?_)
              have x6 : Ext w w6 := Tm.below x5 tm6 x5.size x3.size
              have hok6 := save_ok hpr.ok 4 more
              have hsm6 := save_sm hsmp 4 more
              generalize saveC P 4 more = r at ht hdev6 hok6 hsm6
              obtain ⟨D6, e6⟩ := r
              simp only at ht hdev6 hok6 hsm6
              obtain ⟨t1, t2, t3, t4⟩ := ht
              refine KW.region ?_
              refine OW.val rfl rfl (EX.move rfl) ?_
              refine OW.val rfl rfl (by first | exact EX.eqlN (b := 0) rfl rfl | exact EX.eqlZ rfl rfl) ?_
              refine OW.val rfl rfl (EX.move rfl) ?_
              refine OW.call rfl rfl rfl (dead_d hdev6 hok6) ?_
              rintro _ _ ⟨rfl, rfl⟩
              refine OW.val rfl rfl (EX.eqlB Tryd.underlying4 rfl rfl) ?_
              refine OW.val rfl rfl (EX.move rfl) ?_
              refine OW.as 61 (.bool false) rfl (by rcases t1 with ⟨q1, q2⟩ | ⟨q1, q2⟩ <;> simp [q1, q2]) ?_
              refine OW.val rfl rfl (EX.move rfl) ?_
              refine OW.call rfl rfl rfl (up_d hdev6 hok6) ?_
              rintro _ w7 ⟨rfl, hdev7, tm7⟩
              refine OW.val rfl rfl (by first | exact EX.neqN (b := 0) rfl rfl | exact EX.neqZ rfl rfl) ?_
              refine OW.val rfl rfl (EX.pickF rfl rfl) ?_
              refine OW.nil ?_
              have x7 : Ext w w7 := Tm.below x6 tm7 x6.size x3.size
              refine KW.as 65 (.bool false) rfl (congrArg Value.bool (decide_eq_false (fun z => z rfl))) ?_
              refine KW.condF rfl (KW.skip (KW.seq (KW.region ?_)))
              refine OW.val rfl rfl (EX.move rfl) ?_
              have hsm7 : Sm { D6 with dead := false } 30 := ⟨hsm6.calls, hsm6.pend, hsm6.at_, hsm6.keep⟩
              have cl := cload_s t2.ok hsm7 (by omega) w3.heap.size b w7 (hG.ext x7) (Nat.lt_of_lt_of_le hgl x3.size) hdev7
              have tn := fun g hg => torn_next t2 t3 hC2 (g := g) hg
              have hokL := loaded_ok t2.ok
              have hsmL := loaded_sm hsm7
              generalize ({ D6 with dead := false } : Dv) = D7 at t4 cl tn hokL hsmL
              rcases t4 with ⟨t4, t5⟩ | t4
              · rw [t4] at cl
                refine OW.call rfl rfl rfl (cl) ?_
                rintro _ w8 ⟨⟨u8, rfl, own8⟩, hdev8, tm8⟩
                obtain ⟨A8, c8, rfl, _, sl8⟩ := own8.slice
                refine OW.val rfl rfl (EX.move rfl) ?_
                refine OW.val rfl rfl (EX.extract rfl rfl) ?_
                refine OW.val rfl rfl (EX.extract rfl rfl) ?_
                refine OW.val rfl rfl (EX.extract rfl rfl) ?_
                refine OW.val rfl rfl (EX.assign rfl) ?_
                refine OW.val rfl rfl (EX.assign rfl) ?_
                refine OW.val rfl rfl (EX.assign rfl) ?_
                refine OW.nil ?_
                refine KW.seq ?_
                have x8 : Ext w w8 := Tm.below x7 tm8 x7.size x3.size
                have cs := same_s l l A8 A c8 c w8 _ _ sl8 (hs.ext x8) hl16
                rw [decide_eq_true rfl] at cs
                refine KW.region ?_
                refine OW.val rfl rfl (EX.move rfl) ?_
                refine OW.val rfl rfl (by first | exact EX.eqlN (b := 3) rfl rfl | exact EX.eqlZ rfl rfl) ?_
                refine OW.val rfl rfl (EX.move rfl) ?_
                refine OW.as 74 (.bool true) rfl (congrArg Value.bool (decide_eq_true (rfl))) ?_
                refine OW.val rfl rfl (EX.move rfl) ?_
                refine OW.val rfl rfl (EX.move rfl) ?_
                refine OW.call rfl rfl rfl (cs) ?_
                rintro _ w9 ⟨rfl, hx9⟩
                refine OW.val rfl rfl (EX.pickT rfl rfl) ?_
                refine OW.val rfl rfl (EX.move rfl) ?_
                have x9 := x8.trans hx9
                refine OW.val rfl rfl (EX.move rfl) ?_
                refine OW.val rfl rfl (by first | exact EX.neqN (b := 0) rfl rfl | exact EX.neqZ rfl rfl) ?_
                refine OW.val rfl rfl (EX.pickT rfl rfl) ?_
                refine OW.val rfl rfl (EX.assign rfl) ?_
                refine OW.nil ?_
                refine KW.seq ?_
                refine KW.as 14 (.bool true) rfl (congrArg Value.bool (decide_eq_true (by omega))) ?_
                refine KW.region ?_
                refine OW.val rfl rfl (EX.move rfl) ?_
                refine OW.val rfl rfl (by first | exact EX.eqlN (b := 4) rfl rfl | exact EX.eqlZ rfl rfl) ?_
                refine OW.val rfl rfl (EX.move rfl) ?_
                refine OW.as 85 (.bool false) rfl (congrArg Value.bool (decide_eq_false (by decide))) ?_
                refine OW.pass rfl rfl ?_
                refine OW.pass rfl rfl ?_
                refine OW.pass rfl rfl ?_
                refine OW.val rfl rfl (EX.pickF rfl rfl) ?_
                refine OW.val rfl rfl (EX.assign rfl) ?_
                refine OW.nil ?_
                refine KW.seq ?_
                refine KW.region ?_
                refine OW.val rfl rfl (EX.move rfl) ?_
                refine OW.val rfl rfl (by first | exact EX.eqlN (b := 0) rfl rfl | exact EX.eqlZ rfl rfl) ?_
                refine OW.val rfl rfl (EX.move rfl) ?_
                refine OW.as 92 (.bool true) rfl (congrArg Value.bool (decide_eq_true (rfl))) ?_
                refine OW.val rfl rfl (EX.move rfl) ?_
                refine OW.val rfl rfl (EX.move rfl) ?_
                refine OW.pass rfl rfl ?_
                refine OW.val rfl rfl (EX.pickT rfl rfl) ?_
                refine OW.val rfl rfl (EX.pickT rfl rfl) ?_
                refine OW.val rfl rfl (EX.move rfl) ?_
                refine OW.val rfl rfl (EX.move rfl) ?_
                refine OW.val rfl rfl (EX.buildS (pl := [(0, 1), (1, 1)]) (ks := []) (is := []) (zs := [.int .i64 0, .slice none 0 0]) Tryd.underlying39 ti39 (by kernel_rfl) rfl rfl rfl (by first | rfl | (simp only [List.all_cons, List.all_nil, Bool.and_true, Bool.true_and, Bool.and_eq_true, Value.oneCell']; repeat (first | assumption | exact Own.one (by assumption) | constructor))) (by simp only [setAll, List.set_cons_zero, List.set_cons_succ]; rfl)) ?_
                have cpl := plan_d (hdev8.ext hx9) hokL 0 (by decide) (by decide) none 0 0 [] (.inl rfl) (fun _ => rfl) (by decide)
                obtain ⟨n1, n2, n3⟩ := tn 4 (by decide)
                rw [n1] at cpl
                refine OW.call rfl rfl rfl (cpl) ?_
                rintro _ w10 ⟨rfl, hdev10, tm10⟩
                refine OW.val rfl rfl (by first | exact EX.eqlN (b := 0) rfl rfl | exact EX.eqlZ rfl rfl) ?_
                refine OW.val rfl rfl (EX.pickT rfl rfl) ?_
                refine OW.val rfl rfl (EX.move rfl) ?_
                have x10 : Ext w w10 := Tm.below x9 tm10 (x9).size x3.size
                have hsmE : Sm { loadedC D7 with at_ := 0, keep := [] } 40 := ⟨hsmL.calls, hsmL.pend, Nat.zero_le _, Nat.zero_le _⟩
                generalize ({ loadedC D7 with at_ := 0, keep := [] } : Dv) = DE at n2 n3 hdev10 hsmE
                have csv := save_s n3.ok hsmE (by omega) w3.heap.size b ((4 : Nat) : Int) (by decide) (by decide) more hl2 hok2 A2 c2 C2 w10 (hG.ext x10) hdev10 (hs2.ext x10)
                rw [n2] at csv
                refine OW.as 104 (.bool true) rfl (congrArg Value.bool (decide_eq_true (rfl))) ?_
                refine OW.val rfl rfl (EX.move rfl) ?_
                refine OW.val rfl rfl (EX.move rfl) ?_
                refine OW.val rfl rfl (by first | exact EX.addN (b := 1) (m := 9223372036854775807) rfl rfl rfl (by omega) | exact EX.addZ (m := 9223372036854775807) rfl rfl rfl rfl (by omega)) ?_
                refine OW.val rfl rfl (EX.move rfl) ?_
                refine OW.call rfl rfl rfl (csv) ?_
                rintro _ w11 ⟨rfl, hdev11, tm11⟩
                refine OW.val rfl rfl (by first | exact EX.eqlN (b := 0) rfl rfl | exact EX.eqlZ rfl rfl) ?_
                refine OW.val rfl rfl (EX.pickT rfl rfl) ?_
                refine OW.val rfl rfl (EX.move rfl) ?_
                have x11 : Ext w w11 := Tm.below x10 tm11 x10.size x3.size
                refine OW.as 112 (.bool true) rfl (congrArg Value.bool (decide_eq_true (rfl))) ?_
                refine OW.call rfl rfl rfl (bye w11 x11) ?_
                rintro _ w12 ⟨rfl, hx12⟩
                refine OW.val rfl rfl (EX.pickT rfl rfl) ?_
                refine OW.val rfl rfl (EX.assign rfl) ?_
                refine OW.nil ?_
                refine KW.ret (ret1 rfl rfl ?_)
                exact ⟨rfl, hx12⟩
              · rw [t4] at cl
                refine OW.call rfl rfl rfl (cl) ?_
                rintro _ w8 ⟨⟨u8, rfl, own8⟩, hdev8, tm8⟩
                obtain ⟨A8, c8, rfl, _, sl8⟩ := own8.slice
                refine OW.val rfl rfl (EX.move rfl) ?_
                refine OW.val rfl rfl (EX.extract rfl rfl) ?_
                refine OW.val rfl rfl (EX.extract rfl rfl) ?_
                refine OW.val rfl rfl (EX.extract rfl rfl) ?_
                refine OW.val rfl rfl (EX.assign rfl) ?_
                refine OW.val rfl rfl (EX.assign rfl) ?_
                refine OW.val rfl rfl (EX.assign rfl) ?_
                refine OW.nil ?_
                refine KW.seq ?_
                have x8 : Ext w w8 := Tm.below x7 tm8 x7.size x3.size
                have cs := same_s more more A8 A2 c8 c2 w8 _ _ sl8 (hs2.ext x8) hl162
                rw [decide_eq_true rfl] at cs
                refine KW.region ?_
                refine OW.val rfl rfl (EX.move rfl) ?_
                refine OW.val rfl rfl (by first | exact EX.eqlN (b := 3) rfl rfl | exact EX.eqlZ rfl rfl) ?_
                refine OW.val rfl rfl (EX.move rfl) ?_
                refine OW.as 74 (.bool false) rfl (congrArg Value.bool (decide_eq_false (by decide))) ?_
                refine OW.pass rfl rfl ?_
                refine OW.pass rfl rfl ?_
                refine OW.pass rfl rfl ?_
                refine OW.val rfl rfl (EX.pickF rfl rfl) ?_
                refine OW.val rfl rfl (EX.move rfl) ?_
                refine OW.pass rfl rfl ?_
                refine OW.pass rfl rfl ?_
                refine OW.val rfl rfl (EX.pickF rfl rfl) ?_
                refine OW.val rfl rfl (EX.assign rfl) ?_
                refine OW.nil ?_
                refine KW.seq ?_
                refine KW.region ?_
                refine OW.val rfl rfl (EX.move rfl) ?_
                refine OW.val rfl rfl (by first | exact EX.eqlN (b := 4) rfl rfl | exact EX.eqlZ rfl rfl) ?_
                refine OW.val rfl rfl (EX.move rfl) ?_
                refine OW.as 85 (.bool true) rfl (congrArg Value.bool (decide_eq_true (rfl))) ?_
                refine OW.val rfl rfl (EX.move rfl) ?_
                refine OW.val rfl rfl (EX.move rfl) ?_
                refine OW.call rfl rfl rfl (cs) ?_
                rintro _ w9 ⟨rfl, hx9⟩
                refine OW.val rfl rfl (EX.pickT rfl rfl) ?_
                refine OW.val rfl rfl (EX.assign rfl) ?_
                refine OW.nil ?_
                refine KW.seq ?_
                have x9 := x8.trans hx9
                refine KW.region ?_
                refine OW.val rfl rfl (EX.move rfl) ?_
                refine OW.val rfl rfl (by first | exact EX.eqlN (b := 0) rfl rfl | exact EX.eqlZ rfl rfl) ?_
                refine OW.val rfl rfl (EX.move rfl) ?_
                refine OW.as 92 (.bool true) rfl (congrArg Value.bool (decide_eq_true (rfl))) ?_
                refine OW.val rfl rfl (EX.move rfl) ?_
                refine OW.val rfl rfl (EX.move rfl) ?_
                refine OW.val rfl rfl (EX.move rfl) ?_
                refine OW.val rfl rfl (EX.pickF rfl rfl) ?_
                refine OW.val rfl rfl (EX.pickT rfl rfl) ?_
                refine OW.val rfl rfl (EX.move rfl) ?_
                refine OW.val rfl rfl (EX.move rfl) ?_
                refine OW.val rfl rfl (EX.buildS (pl := [(0, 1), (1, 1)]) (ks := []) (is := []) (zs := [.int .i64 0, .slice none 0 0]) Tryd.underlying39 ti39 (by kernel_rfl) rfl rfl rfl (by first | rfl | (simp only [List.all_cons, List.all_nil, Bool.and_true, Bool.true_and, Bool.and_eq_true, Value.oneCell']; repeat (first | assumption | exact Own.one (by assumption) | constructor))) (by simp only [setAll, List.set_cons_zero, List.set_cons_succ]; rfl)) ?_
                have cpl := plan_d (hdev8.ext hx9) hokL 0 (by decide) (by decide) none 0 0 [] (.inl rfl) (fun _ => rfl) (by decide)
                obtain ⟨n1, n2, n3⟩ := tn 5 (by decide)
                rw [n1] at cpl
                refine OW.call rfl rfl rfl (cpl) ?_
                rintro _ w10 ⟨rfl, hdev10, tm10⟩
                refine OW.val rfl rfl (by first | exact EX.eqlN (b := 0) rfl rfl | exact EX.eqlZ rfl rfl) ?_
                refine OW.val rfl rfl (EX.pickT rfl rfl) ?_
                refine OW.val rfl rfl (EX.move rfl) ?_
                have x10 : Ext w w10 := Tm.below x9 tm10 (x9).size x3.size
                have hsmE : Sm { loadedC D7 with at_ := 0, keep := [] } 40 := ⟨hsmL.calls, hsmL.pend, Nat.zero_le _, Nat.zero_le _⟩
                generalize ({ loadedC D7 with at_ := 0, keep := [] } : Dv) = DE at n2 n3 hdev10 hsmE
                have csv := save_s n3.ok hsmE (by omega) w3.heap.size b ((5 : Nat) : Int) (by decide) (by decide) more hl2 hok2 A2 c2 C2 w10 (hG.ext x10) hdev10 (hs2.ext x10)
                rw [n2] at csv
                refine OW.as 104 (.bool true) rfl (congrArg Value.bool (decide_eq_true (rfl))) ?_
                refine OW.val rfl rfl (EX.move rfl) ?_
                refine OW.val rfl rfl (EX.move rfl) ?_
                refine OW.val rfl rfl (by first | exact EX.addN (b := 1) (m := 9223372036854775807) rfl rfl rfl (by omega) | exact EX.addZ (m := 9223372036854775807) rfl rfl rfl rfl (by omega)) ?_
                refine OW.val rfl rfl (EX.move rfl) ?_
                refine OW.call rfl rfl rfl (csv) ?_
                rintro _ w11 ⟨rfl, hdev11, tm11⟩
                refine OW.val rfl rfl (by first | exact EX.eqlN (b := 0) rfl rfl | exact EX.eqlZ rfl rfl) ?_
                refine OW.val rfl rfl (EX.pickT rfl rfl) ?_
                refine OW.val rfl rfl (EX.move rfl) ?_
                have x11 : Ext w w11 := Tm.below x10 tm11 x10.size x3.size
                refine OW.as 112 (.bool true) rfl (congrArg Value.bool (decide_eq_true (rfl))) ?_
                refine OW.call rfl rfl rfl (bye w11 x11) ?_
                rintro _ w12 ⟨rfl, hx12⟩
                refine OW.val rfl rfl (EX.pickT rfl rfl) ?_
                refine OW.val rfl rfl (EX.assign rfl) ?_
                refine OW.nil ?_
                refine KW.ret (ret1 rfl rfl ?_)
                exact ⟨rfl, hx12⟩
end Go.Proofs.YthgfdpcpbghkpaaDoor
namespace Go.Proofs.YthgfdpcpbghkpaaDoor
open Go.ChangeShapes Go.WideShapes Go.ChangeAt Go.RowKit Go.Deep Rec
structure _root_.Go.Proofs.YthgfdpcpbghkpaaDoor.Rec.R.Ok (x : R) : Prop where
  kind : x.kind ≤ 255
  data : x.data.length ≤ 140737488351232
structure _root_.Go.Proofs.YthgfdpcpbghkpaaDoor.Rec.M.Wide (m : M) : Prop where
  path : m.path.length ≤ 140737488351232
  sum : m.sum ≤ 4294967295
theorem five {l : List Value} (h : l.length = 5) : ∃ a b c d e, l = [a, b, c, d, e] := by
  match l, h with
  | [a, b, c, d, e], _ => exact ⟨a, b, c, d, e, rfl⟩
end Go.Proofs.YthgfdpcpbghkpaaDoor
namespace Go.Proofs.YthgfdpcpbghkpaaDoor
open Go.ChangeShapes Go.WideShapes Go.ChangeAt Go.RowKit Go.Deep Rec
section
variable {H : Type} {enc : TypeId × Value → H} {W : World} {base : Nat} {v : Value} {d : DataW H} {p : List MemPlace} {r : Reach} {b0 : Nat}
set_option maxRecDepth 20000 in
theorem mem_stepU (n : Nat) (cs : List Value) (x : DataW H × List MemPlace) (h : DataW.trod enc Tryd.prog W base (fun _ => true) true n 50 cs = some x) (hw : Rows.uptoBulk x.1 ≤ 1048576) : ∃ a : M, cs = a.cells ∧ a.Ok := by
  obtain ⟨xs, m, rfl, rfl, hl, hlen, hf⟩ := DataW.trod_struct Tryd.underlying50 h
  obtain ⟨c0, c1, c2, c3, c4, rfl⟩ := five (hl.trans (by kernel_rfl))
  have g : ∀ i (hi : i < 5), ∃ y, xs[i]? = some y := fun i hi => ⟨_, List.getElem?_eq_getElem (by rw [hlen]; exact hi)⟩
  obtain ⟨y0, e0⟩ := g 0 (by omega)
  obtain ⟨y1, e1⟩ := g 1 (by omega)
  obtain ⟨y2, e2⟩ := g 2 (by omega)
  obtain ⟨y3, e3⟩ := g 3 (by omega)
  obtain ⟨y4, e4⟩ := g 4 (by omega)
  have f0 : DataW.trod enc Tryd.prog W base (fun _ => true) true m 9 ((([c0, c1, c2, c3, c4] : List Value).drop 0).take (Tryd.prog.cellsOf 9)) = some y0 := (hf 0 _ rfl).trans e0
  have f1 : DataW.trod enc Tryd.prog W base (fun _ => true) true m 3 ((([c0, c1, c2, c3, c4] : List Value).drop 1).take (Tryd.prog.cellsOf 3)) = some y1 := (hf 1 _ rfl).trans e1
  have f2 : DataW.trod enc Tryd.prog W base (fun _ => true) true m 3 ((([c0, c1, c2, c3, c4] : List Value).drop 2).take (Tryd.prog.cellsOf 3)) = some y2 := (hf 2 _ rfl).trans e2
  have f3 : DataW.trod enc Tryd.prog W base (fun _ => true) true m 3 ((([c0, c1, c2, c3, c4] : List Value).drop 3).take (Tryd.prog.cellsOf 3)) = some y3 := (hf 3 _ rfl).trans e3
  have f4 : DataW.trod enc Tryd.prog W base (fun _ => true) true m 48 ((([c0, c1, c2, c3, c4] : List Value).drop 4).take (Tryd.prog.cellsOf 48)) = some y4 := (hf 4 _ rfl).trans e4
  rw [show Tryd.prog.cellsOf 9 = 1 by kernel_rfl] at f0
  rw [show Tryd.prog.cellsOf 3 = 1 by kernel_rfl] at f1 f2 f3
  rw [show Tryd.prog.cellsOf 48 = 1 by kernel_rfl] at f4
  simp only [List.drop_zero, List.drop_succ_cons, List.take_succ_cons, List.take_zero] at f0 f1 f2 f3 f4
  obtain ⟨s0, h0, hy0, w0⟩ := DataW.trod_string Tryd.underlying9 f0
  obtain ⟨n1, h1, _, w1⟩ := DataW.trod_int Tryd.underlying3 f1
  obtain ⟨n2, h2, _, w2⟩ := DataW.trod_int Tryd.underlying3 f2
  obtain ⟨n3, h3, _, w3⟩ := DataW.trod_int Tryd.underlying3 f3
  obtain ⟨n4, h4, _, w4⟩ := DataW.trod_int Tryd.underlying48 f4
  simp only [List.cons.injEq, and_true] at h0 h1 h2 h3 h4
  obtain ⟨m4, rfl, hm4⟩ := wf_nat rfl w4
  subst h0 h1 h2 h3 h4
  refine ⟨⟨s0.data.toList, n1, n2, n3, m4⟩, rfl, ⟨?_, by simpa [maxN] using hm4⟩⟩
  match xs, e0 with
  | y :: xs, e0 =>
    simp only [List.getElem?_cons_zero, Option.some.injEq] at e0
    rw [e0, hy0] at hw
    simp only [List.map_cons, Rows.uptoBulk, Rows.uptoBulkAll] at hw
    show s0.data.toList.length ≤ 1000000000000
    omega
end
end Go.Proofs.YthgfdpcpbghkpaaDoor
namespace Go.Proofs.YthgfdpcpbghkpaaDoor
open Go.ChangeShapes Go.WideShapes Go.ChangeAt Go.RowKit Go.Deep Pth Rec Srt Cat Dsk Wal
section
variable {H : Type} {enc : TypeId × Value → H} {W : World} {base : Nat} {v : Value} {d : DataW H} {p : List MemPlace} {r : Reach} {b0 : Nat}
instance : Inhabited M := ⟨⟨[], 0, 0, 0, 0⟩⟩
theorem bulk_mem : ∀ {es : List (DataW H)} {x : DataW H}, x ∈ es → Rows.uptoBulk x ≤ Rows.uptoBulkAll es
  | y :: es, x, h => by
    simp only [Rows.uptoBulkAll]
    rcases List.mem_cons.1 h with rfl | h
    · omega
    · have := bulk_mem h; omega
set_option maxRecDepth 20000 in
theorem openUs_Member (hval : Value.okWide Tryd.prog W r b0 22 v) (hd : DataW.Trod enc Tryd.prog W base (fun _ => true) true 22 v d p)
    {ts : List TypeId} {ds : List (DataW H)} (hsz : (DataW.weightsEach Tryd.prog ts ds).all (· ≤ reachBytes) = true) {j : Nat} (hj : ts[j]? = some 22) (hdj : ds[j]? = some d) (hb : Rows.uptoBulk d ≤ 1048576) :
    ∃ (l : List M) (A : Option Addr) (cap : Nat), v = .slice A l.length cap ∧ ((∀ m ∈ l, m.Ok) ∧ l.length ≤ 140737488355328) ∧ Sl W W.heap.size A (memsV l) := by
  obtain ⟨l, A, cap, h1, h2, _, h4, _, h3⟩ := open_slG M.cells M.Ok (c := 5) (fun _ => rfl) Tryd.underlying22 (by kernel_rfl) (fun n cs x hx _ hm => mem_stepU n cs x hx (by
    obtain ⟨es, sp, rfl, hm⟩ := hm
    have h1 := bulk_mem hm
    simp only [Rows.uptoBulk] at hb
    omega)) hval hd hsz hj hdj
  rw [show Tryd.prog.bytesOf 50 = 48 by kernel_rfl] at h4
  simp only [reachBytes] at h4
  exact ⟨l, A, cap, h1, ⟨h2, by omega⟩, h3⟩
end
theorem mlen_of {w : World} (h : w.ShapedOpen Tryd.prog) : MLen w := Tryd.laysM219.s1_3 w h
theorem catalogBack_z (gen : Int) (g0 : -9223372036854775808 ≤ gen) (g1 : gen ≤ 9223372036854775807) (l : List M) (hok : (∀ m ∈ l, m.Ok) ∧ l.length ≤ 140737488355328) (A : Option Addr) (c : Nat) (old : List M) (hok2 : (∀ m ∈ old, m.Ok) ∧ old.length ≤ 140737488355328) (A2 : Option Addr) (c2 : Nat) (w : World) (C : Nat) (hs : Sl w C A (memsV l)) (C2 : Nat) (hs2 : Sl w C2 A2 (memsV old)) (hG : MLen w) :
    Ret Tryd.prog 3 [.int .i64 gen, .slice A l.length c, .slice A2 old.length c2] w fun v w' => v = .bool true ∧ Ext w w' := catalogBack_s gen g0 g1 l old hok.1 hok2.1 hok.2 hok2.2 A A2 c c2 C C2 w hs hs2 hG
theorem catalogTorn_z (l : List M) (hok : (∀ m ∈ l, m.Ok) ∧ l.length ≤ 140737488355328) (A : Option Addr) (c : Nat) (more : List M) (hok2 : (∀ m ∈ more, m.Ok) ∧ more.length ≤ 140737488355328) (A2 : Option Addr) (c2 : Nat) (f : Fl) (w : World) (C : Nat) (hs : Sl w C A (memsV l)) (C2 : Nat) (hs2 : Sl w C2 A2 (memsV more)) (C3 : Nat) (hf : f.Ok w C3) (hG : MLen w) :
    Ret Tryd.prog 4 [.slice A l.length c, .slice A2 more.length c2, .agg f.cells.toArray] w fun v w' => v = .bool true ∧ Ext w w' := catalogTorn_s l more hok.1 hok2.1 hok.2 hok2.2 A A2 c c2 C C2 C3 f w hf hs hs2 hG
end Go.Proofs.YthgfdpcpbghkpaaDoor
