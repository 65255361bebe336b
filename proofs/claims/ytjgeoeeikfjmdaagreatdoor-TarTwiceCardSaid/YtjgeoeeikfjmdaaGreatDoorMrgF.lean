/-
  What the statements rest on, part 6 of 7: many small texts, one behind the other.
-/
import Derived.Test.YtjgeoeeikfjmdaaGreatDoorMrgE
import Derived.ProofKit
import Derived.OpenShut
import Derived.ShutString
import Derived.SizedLaws
import Derived.SliceStrings
import Derived.Deep.Slices
import Derived.Deep.Grids
import Derived.Test.YtjgeoeeikfjmdaaGreatDoorRows
import Derived.Lib.LaidTab
import Derived.Stop.LaidErr
import Derived.Lib.Bytealg
import Derived.Lib.Split
import Derived.Lib.SplitLaws
import Derived.Lib.IndexBytes
import Derived.Lib.IndexLaws
import Derived.Lib.CountLaws
import Derived.Maps.RangeRun
import Derived.Carry
import Derived.MapKept
import Derived.ChangeMaps4
import Derived.Shelf.SlSortCmp.NoneTotal
import Derived.Sort.Statements
import Derived.Test.YtjgeoeeikfjmdaaGreatDoorProg
import Derived.Shelf.SlGeneric
import Derived.Ground.SlsfProg
/- tar: Pack; what the statements begin with. -/
namespace Go.Proofs.YtjgeoeeikfjmdaaGreatDoor
set_option linter.unnecessarySimpa false
open Go.RowKit Fld Ust Pax Pth Tar
set_option linter.unusedVariables false
set_option linter.unusedSimpArgs false

/-! ### In plain words -/
def hv : List En → Nat
  | [] => 0
  | x :: l => x.path.length + x.data.length + 1000 + hv l
theorem hv_append : ∀ (a b : List En), hv (a ++ b) = hv a + hv b
  | [], b => by simp [hv]
  | x :: a, b => by
    have := hv_append a b
    simp only [List.cons_append, hv]
    omega
theorem hv_take (l : List En) (i : Nat) : hv (l.take i) ≤ hv l := by
  have := hv_append (l.take i) (l.drop i)
  rw [List.take_append_drop] at this
  omega
theorem hv_mem : ∀ {l : List En} {x : En}, x ∈ l → x.path.length + x.data.length + 1000 ≤ hv l
  | y :: l, x, h => by
    simp only [hv]
    rcases List.mem_cons.1 h with rfl | h
    · omega
    · have := hv_mem h; omega
set_option maxRecDepth 20000 in
theorem hv_len : ∀ (l : List En), l.length * 1000 ≤ hv l
  | [] => by simp [hv]
  | x :: l => by
    have := hv_len l
    simp only [hv, List.length_cons]
    omega
def okL (l : List En) : Prop := ∀ x ∈ l, checkP x.path = 0 ∧ x.data.length ≤ 262144
set_option maxRecDepth 20000 in
theorem cat_le : ∀ (l : List En), okL l → (catT l).length ≤ 3 * hv l
  | [], _ => by simp [catT]
  | x :: l, h => by
    have h1 := ent_len (h x (by simp)).1 (h x (by simp)).2
    have h2 := cat_le l (fun y hy => h y (by simp [hy]))
    have e : (catT (x :: l)).length = (entT x).length + (catT l).length := by rw [show catT (x :: l) = entT x ++ catT l from rfl, List.length_append]
    have e2 : hv (x :: l) = x.path.length + x.data.length + 1000 + hv l := rfl
    generalize (catT (x :: l)).length = q1 at *
    generalize (catT l).length = q3 at *
    generalize (entT x).length = q4 at *
    generalize hv (x :: l) = q5 at *
    generalize hv l = q6 at *
    omega
theorem catT_snoc (l : List En) (x : En) : catT (l ++ [x]) = catT l ++ entT x := by simp [catT]
theorem errT_ok {l : List En} (h : okL l) : errT l = 0 := by
  induction l with
  | nil => rfl
  | cons x l ih =>
    have hx := h x (by simp)
    unfold errT
    rw [if_neg (by omega), if_neg (by omega)]
    exact ih fun y hy => h y (by simp [hy])
theorem errT_at {l : List En} {i : Nat} (hi : i < l.length) (h : okL (l.take i)) (he : (entE l[i]).2 ≠ 0) : errT l = (entE l[i]).2 := by
  induction l generalizing i with
  | nil => simp at hi
  | cons x l ih =>
    cases i with
    | zero =>
      simp only [List.getElem_cons_zero] at he ⊢
      unfold errT entE at *
      by_cases c : checkP x.path = 0
      · rw [if_neg (by omega)] at he ⊢
        by_cases c2 : 262144 < x.data.length
        · rw [if_pos c2] at he ⊢
          rw [if_neg (by omega), if_pos c2]
        · rw [if_neg c2] at he
          exact absurd rfl he
      · rw [if_pos c, if_pos c]
    | succ i =>
      have hx := h x (by simp)
      simp only [List.getElem_cons_succ] at he ⊢
      unfold errT
      rw [if_neg (by omega), if_neg (by omega)]
      exact ih (by simpa using hi) (fun y hy => h y (by simp [hy])) he
/-! ### The builder -/
theorem write_b (B b g : Nat) (l s : List UInt8) (w : World) (h : Bd w B b l) (hs : s ≠ []) (hg : Bk w g 5 (bytesV s)) (hlen : l.length + s.length ≤ 140737488355328) (hB : B ≤ w.heap.size) :
    Ret Tryz.prog 31 [.pointer (some ⟨b, 0, none⟩), .slice (some ⟨g, 0, none⟩) s.length s.length] w fun r w' => (∃ q, r = q) ∧ Bd w' B b (l ++ s) ∧ Below B w w' := by
  obtain ⟨hBb, p, v, hp, hb, hn, hown⟩ := h
  have hlb : (bytesV l).length = l.length := by simp [bytesV]
  have hls : (bytesV s).length = s.length := by simp [bytesV]
  have ngb : g ≠ b := hg.ne hb (by decide)
  refine Ret.enter Tryz.func31 rfl Tryz.ntmps31 (by kernel_rfl) rfl ?_
  refine KW.seq (KW.region ?_)
  refine OW.val rfl rfl (EX.assign rfl) ?_
  refine OW.val rfl rfl (EX.assign rfl) ?_
  refine OW.nil ?_
  refine KW.seq (KW.region ?_)
  refine OW.val rfl rfl (EX.move rfl) ?_
  refine OW.call rfl rfl rfl (copyCheck_b b p v w hp hb) ?_
  rintro _ w1 ⟨rfl, hb1, hm1⟩
  refine OW.nil ?_
  refine KW.seq (KW.region ?_)
  refine OW.val rfl rfl (EX.move rfl) ?_
  refine OW.val rfl rfl (EX.move rfl) ?_
  refine OW.val rfl rfl (EX.nilCheck rfl) ?_
  refine OW.val rfl rfl (EX.fieldAddr (off := 1) Tryz.underlying57 rfl rfl ti55 rfl rfl) ?_
  have hown1 := hown.mo hm1 (fun k hk => by simp; exact fun z => hown.ne hb (by decide) k hk z.symm)
  have b1 : Below B w w1 := below_mo (Below.refl B w) hm1 hB (fun k hk => by simp at hk; omega)
  have hB1 : B ≤ w1.heap.size := Nat.le_trans hB b1.size
  have hg1 := hg.mo hm1 (by simp; exact ngb)
  refine OW.val rfl rfl (EX.load Tryz.underlying55 rfl rfl (hb1.cell_of rfl)) ?_
  refine OW.val rfl rfl (EX.move rfl) ?_
  refine OW.append B rfl rfl Tryz.underlying55 ti5 rfl (by decide) rfl rfl hown1 (Src.of_sl Tryz.underlying55 (Sl.of_bk hg1 hg1.lt) (by omega) bytesV_one (by decide)) (by simp only [maxLen]; omega) (by omega) hB1 ?_
  rintro v2 w2 hown2 hg2 hv2
  refine OW.val rfl rfl (EX.nilCheck rfl) ?_
  refine OW.val rfl rfl (EX.fieldAddr (off := 1) Tryz.underlying57 rfl rfl ti55 rfl rfl) ?_
  have hb2 := hb1.grown hg2 (fun z => hown1.ne hb1 (by decide) b z.symm rfl)
  have b2 : Below B w w2 := below_mo b1 (Mo.grown hg2 (S := v.ownBlock.toList) (fun k e => by rw [e]; simp)) hB1 (fun k hk => (hown1.lt k (Option.mem_toList.1 hk)).1)
  have hB2 : B ≤ w2.heap.size := Nat.le_trans hB b2.size
  refine OW.storeB rfl ti55 rfl rfl (by first | rfl | assumption | exact Own.one (by assumption)) (hb2) (by simp) ?_
  rintro w3 hb3 hm3
  refine OW.nil ?_
  refine KW.seq (KW.region ?_)
  refine OW.val rfl rfl (EX.move rfl) ?_
  refine OW.val rfl rfl (EX.lenA Tryz.underlying55 rfl) ?_
  refine OW.val rfl rfl (EX.assign rfl) ?_
  refine OW.val rfl rfl (EX.assign rfl) ?_
  refine OW.nil ?_
  have b3 : Below B w w3 := below_mo b2 hm3 hB2 (fun k hk => by simp at hk; omega)
  have hown3 := hown2.mo hm3 (fun k hk => by simp; exact fun z => hown2.ne hb2 (by decide) k hk z.symm)
  refine KW.ret (ret2 rfl rfl rfl ?_)
  refine ⟨⟨_, rfl⟩, ⟨hBb, _, v2, .inr rfl, hb3, fun q => absurd q (by simp [hs]), ?_⟩, b3⟩
  rw [List.length_append]
  have e : bytesV (l ++ s) = bytesV l ++ bytesV s := by simp [bytesV]
  rw [e]
  exact hown3
theorem blen_b (B b : Nat) (l : List UInt8) (w : World) (h : Bd w B b l) :
    Ret Tryz.prog 29 [.pointer (some ⟨b, 0, none⟩)] w fun r w' => r = .int .i64 ((l.length : Nat) : Int) ∧ w = w' := by
  obtain ⟨hBb, p, v, hp, hb, hn, hown⟩ := h
  obtain ⟨A, c, rfl, _, _⟩ := hown.slice
  refine Ret.enter Tryz.func29 rfl Tryz.ntmps29 (by kernel_rfl) rfl ?_
  refine KW.seq (KW.region ?_)
  refine OW.val rfl rfl (EX.assign rfl) ?_
  refine OW.nil ?_
  refine KW.seq (KW.region ?_)
  refine OW.val rfl rfl (EX.move rfl) ?_
  refine OW.val rfl rfl (EX.nilCheck rfl) ?_
  refine OW.val rfl rfl (EX.fieldAddr (off := 1) Tryz.underlying57 rfl rfl ti55 rfl rfl) ?_
  refine OW.val rfl rfl (EX.load Tryz.underlying55 rfl rfl (hb.cell_of rfl)) ?_
  refine OW.val rfl rfl (EX.lenA Tryz.underlying55 rfl) ?_
  refine OW.val rfl rfl (EX.assign rfl) ?_
  refine OW.nil ?_
  refine KW.ret (ret1 rfl rfl ?_)
  exact ⟨rfl, rfl⟩
/-! ### Packing -/
set_option maxRecDepth 20000 in
theorem pack_s (l : List En) (hl : hv l ≤ 40000) (A : Option Addr) (c B : Nat) (w : World) (hG : Env w) (hs : Sl w B A (ensV l)) :
    Ret Tryz.prog 12 [.slice A l.length c] w fun v w' => v = .tuple #[str (packT l).1, .int .i64 (((packT l).2 : Nat) : Int)] ∧ Ext w w' := by
  have hll := hv_len l
  refine Ret.enter Tryz.func12 rfl Tryz.ntmps12 (by kernel_rfl) rfl ?_
  refine KW.seq (KW.region ?_)
  refine OW.val rfl rfl (EX.assign rfl) ?_
  refine OW.val rfl rfl (EX.assign rfl) ?_
  refine OW.nil ?_
  refine KW.seq (KW.region ?_)
  refine OW.allocB (l := [.pointer none, .slice none 0 0]) rfl rfl ti57 rfl ?_
  rintro bb w1 hge1 hb1 hx1
  refine OW.nil ?_
  refine KW.seq (KW.seq (KW.region ?_))
  refine OW.val rfl rfl (EX.move rfl) ?_
  refine OW.val rfl rfl (EX.lenA Tryz.underlying31 rfl) ?_
  refine OW.val rfl rfl (EX.move rfl) ?_
  refine OW.nil ?_
  refine KW.block ?_
  have hbd := Bd.new (B := w.heap.size) hge1 hb1
  refine KW.loop2 (fun (i : Nat) (wr : World) => i ≤ l.length ∧ okL (l.take i) ∧ Bd wr w.heap.size bb (catT (l.take i)) ∧ Ext w wr) (fun (i : Nat) (wr : World) => [(4, .pointer (some ⟨bb, 0, none⟩)), (9, .slice A l.length c), (10, .int .i64 ((l.length : Nat) : Int)), (11, .int .i64 ((i : Nat) : Int)), (0, .slice A l.length c)]) (fun (i : Nat) (wr : World) => wr) (fun (i : Nat) (wr : World) => l.length - i) (0) (w1) ⟨rfl, rfl, rfl, rfl, rfl, trivial⟩ rfl ?_ ?_
  · exact ⟨Nat.zero_le _, fun x hx => by simp at hx, hbd, hx1⟩
  · rintro i wr ⟨hi, hok, hbd, hx⟩
    have hcl := cat_le _ hok
    have hvt := hv_take l i
    refine KW.seq (KW.region ?_)
    refine OW.val rfl rfl (by first | exact EX.lssN rfl rfl | exact EX.lssZ rfl rfl) ?_
    refine OW.nil ?_
    refine KW.seq ?_
    refine KW.condD rfl (fun hlt => ?_) (fun hlt => ?_)
    · obtain ⟨b, o, rfl, _, hcell⟩ := (hs.ext hx).flat (c := 2) (fun _ => rfl) (by decide) hlt
      have hsn : l.take (i + 1) = l.take i ++ [l[i]] := (List.take_append_getElem hlt).symm
      have hvt1 := hv_take l (i + 1)
      have hmem := hv_mem (List.getElem_mem hlt)
      have hat := fun h => errT_at hlt hok h
      have hentE : (entE l[i]).2 = 0 → entE l[i] = (entT l[i], 0) ∧ checkP (l[i]).path = 0 ∧ (l[i]).data.length ≤ 262144 := fun h => by
        unfold entE at h ⊢
        by_cases c1 : checkP (l[i]).path = 0
        · rw [if_neg (by omega)] at h ⊢
          by_cases c2 : 262144 < (l[i]).data.length
          · rw [if_pos c2] at h; cases h
          · rw [if_neg c2]; exact ⟨rfl, c1, by omega⟩
        · rw [if_pos c1] at h; cases h
      generalize hx0 : l[i] = x at hcell hsn hmem hat hentE
      refine KW.skip (KW.seq (KW.block (KW.seq (KW.region ?_))))
      refine OW.val rfl rfl (EX.indexAddrS Tryz.underlying31 ti23 rfl rfl (by omega)) ?_
      refine OW.val rfl rfl (EX.loadA (l := x.cells) Tryz.underlying23 rfl ti23 rfl rfl hcell) ?_
      refine OW.allocB (l := [str [], str []]) rfl rfl ti23 rfl ?_
      rintro xb w2 hge2 hxb hx2
      refine OW.storeS rfl ti23 rfl rfl rfl (by first | rfl | (simp only [List.all_cons, List.all_nil, Bool.and_true, Bool.true_and, Bool.and_eq_true, Value.oneCell']; repeat (first | assumption | exact Own.one (by assumption) | constructor))) (hxb) (Nat.le_refl _) ?_
      rintro w3 hxb3 hm3
      refine OW.nil ?_
      refine KW.seq (KW.region ?_)
      replace hxb3 : Bk w3 xb 23 x.cells := hxb3
      have x3 : Ext wr w3 := below_mo hx2 hm3 hx2.size (fun k hk => by simp at hk; omega)
      refine OW.val rfl rfl (EX.loadBk Tryz.underlying23 rfl ti23 rfl (hxb3) (rfl)) ?_
      refine OW.call rfl rfl rfl (entry_s x (by omega) (by omega) w3 (hG.ext (hx.trans x3))) ?_
      rintro _ w4 ⟨rfl, hx4⟩
      refine OW.val rfl rfl (EX.move rfl) ?_
      refine OW.val rfl rfl (EX.extract rfl rfl) ?_
      refine OW.val rfl rfl (EX.extract rfl rfl) ?_
      refine OW.val rfl rfl (EX.assign rfl) ?_
      refine OW.val rfl rfl (EX.assign rfl) ?_
      refine OW.nil ?_
      refine KW.seq (KW.seq (KW.region ?_))
      refine OW.val rfl rfl (EX.move rfl) ?_
      refine OW.val rfl rfl (by first | exact EX.neqN (b := 0) rfl rfl | exact EX.neqZ rfl rfl) ?_
      refine OW.nil ?_
      have x4 := (hx.trans x3).trans hx4
      refine KW.condD rfl (fun he => ?_) (fun he => ?_)
      · have e : packT l = ([], (entE x).2) := by
          unfold packT
          have := hat (by omega)
          rw [if_pos (by omega), this]
        refine KW.seq (KW.region ?_)
        refine OW.val rfl rfl (EX.move rfl) ?_
        refine OW.val rfl rfl (EX.assign rfl) ?_
        refine OW.val rfl rfl (EX.assign rfl) ?_
        refine OW.nil ?_
        refine KW.ret (ret2 rfl rfl rfl ?_)
        rw [e]
        exact ⟨rfl, x4⟩
      · obtain ⟨e1, e2, e3⟩ := hentE (by omega)
        have hel := ent_len e2 e3
        have hok2 : okL (l.take (i + 1)) := fun y hy => by
          rw [hsn] at hy
          rcases List.mem_append.1 hy with hy | hy
          · exact hok y hy
          · simp only [List.mem_singleton] at hy
            subst hy
            exact ⟨e2, e3⟩
        have hcl2 := cat_le _ hok2
        have hcs : catT (l.take (i + 1)) = catT (l.take i) ++ entT x := by rw [hsn, catT_snoc]
        have hbd4 := (hbd.ext x3).ext hx4
        have hcl3 : (catT (l.take (i + 1))).length = (catT (l.take i)).length + (entT x).length := by rw [hcs, List.length_append]
        rw [e1]
        refine KW.skip (KW.seq (KW.region ?_))
        refine OW.val rfl rfl (EX.move rfl) ?_
        refine OW.call rfl rfl rfl (writeString_b w.heap.size bb (catT (l.take i)) (entT x) w4 hbd4 (fun q => by rw [q] at hel; simp at hel) (by omega) x4.size) ?_
        rintro _ w5 ⟨⟨q, rfl⟩, hbd5, hbl5⟩
        refine OW.nil ?_
        refine KW.seq (KW.region ?_)
        rw [← hcs] at hbd5
        have x5 : Ext w w5 := Below.trans x4 hbl5
        refine OW.call rfl rfl rfl (blen_b w.heap.size bb (catT (l.take (i + 1))) w5 hbd5) ?_
        rintro _ _ ⟨rfl, rfl⟩
        refine OW.val rfl rfl (by first | exact EX.addN (b := 1024) (m := 9223372036854775807) rfl rfl rfl (by omega) | exact EX.addZ (m := 9223372036854775807) rfl rfl rfl rfl (by omega)) ?_
        refine OW.val rfl rfl (by first | exact EX.gtrN (b := 524288) rfl rfl | exact EX.gtrZ rfl rfl) ?_
        refine OW.nil ?_
        refine KW.condD rfl (fun hbig => ?_) (fun hbig => ?_)
        · omega
        · refine KW.skip (KW.leave (KW.region ?_))
          refine OW.val rfl rfl (by first | exact EX.addN (b := 1) (m := 9223372036854775807) rfl rfl rfl (by omega) | exact EX.addZ (m := 9223372036854775807) rfl rfl rfl rfl (by omega)) ?_
          refine OW.val rfl rfl (EX.move rfl) ?_
          refine OW.nil ?_
          refine KW.back2 (i + 1) (w5) ⟨rfl, rfl, rfl, rfl, rfl, trivial⟩ rfl ?_ (by omega)
          exact ⟨by omega, hok2, hbd5, x5⟩
    · obtain rfl : i = l.length := by omega
      rw [List.take_length] at hok hbd hcl
      have e : packT l = (catT l ++ nul 1024, 0) := by
        unfold packT
        rw [if_neg (by rw [errT_ok hok]; decide)]
      refine KW.exit rfl (KW.seq (KW.region ?_))
      refine OW.makeB (len := 1024) rfl rfl Tryz.underlying55 ti5 rfl rfl rfl (by omega) (by omega) ?_
      rintro gb w2 hge2 hg2 hx2
      have hg3 : Bk w2 gb 5 (bytesV (nul 1024)) := by rw [bytesV_nul]; exact hg2
      have x2 := hx.trans hx2
      refine OW.call rfl rfl rfl (write_b w.heap.size bb gb (catT l) (nul 1024) w2 (hbd.ext hx2) (by decide) hg3 (by have : (nul 1024).length = 1024 := nul_length _; omega) x2.size) ?_
      rintro _ w3 ⟨⟨q, rfl⟩, hbd3, hbl3⟩
      refine OW.nil ?_
      refine KW.seq (KW.region ?_)
      have x3 : Ext w w3 := Below.trans x2 hbl3
      refine OW.call rfl rfl rfl (bstring_b w.heap.size bb (catT l ++ nul 1024) w3 hbd3 (by have : (nul 1024).length = 1024 := nul_length _; rw [List.length_append]; omega) x3.size) ?_
      rintro _ w4 ⟨rfl, hbl4⟩
      refine OW.val rfl rfl (EX.assign rfl) ?_
      refine OW.val rfl rfl (EX.assign rfl) ?_
      refine OW.nil ?_
      refine KW.ret (ret2 rfl rfl rfl ?_)
      rw [e]
      exact ⟨rfl, Below.trans x3 hbl4⟩
/-! ### What the statements begin with -/
theorem en_ne (a b : En) : (!([decide (a.path = b.path), decide (a.data = b.data)].all id)) = decide (a ≠ b) := by
  obtain ⟨a1, a2⟩ := a
  obtain ⟨b1, b2⟩ := b
  rw [Bool.eq_iff_iff]
  by_cases c1 : a1 = b1 <;> by_cases c2 : a2 = b2 <;> simp [c1, c2]
theorem en_eq (a b : En) : ([decide (a.path = b.path), decide (a.data = b.data)].all id) = decide (a = b) := by
  obtain ⟨a1, a2⟩ := a
  obtain ⟨b1, b2⟩ := b
  rw [Bool.eq_iff_iff]
  by_cases c1 : a1 = b1 <;> by_cases c2 : a2 = b2 <;> simp [c1, c2]
set_option maxRecDepth 20000 in
theorem sameE_s (l1 l2 : List En) (A1 A2 : Option Addr) (k1 k2 : Nat) (w : World) (B1 B2 : Nat) (h1 : Sl w B1 A1 (ensV l1)) (h2 : Sl w B2 A2 (ensV l2)) (hn : l1.length ≤ 140737488355328) :
    Ret Tryz.prog 16 [.slice A1 l1.length k1, .slice A2 l2.length k2] w fun v w' => v = .bool (decide (l1 = l2)) ∧ Ext w w' := by
  refine Ret.enter Tryz.func16 rfl Tryz.ntmps16 (by kernel_rfl) rfl ?_
  refine KW.seq (KW.region ?_)
  refine OW.val rfl rfl (EX.assign rfl) ?_
  refine OW.nil ?_
  refine KW.seq (KW.seq (KW.region ?_))
  refine OW.val rfl rfl (EX.move rfl) ?_
  refine OW.val rfl rfl (EX.lenA Tryz.underlying31 rfl) ?_
  refine OW.val rfl rfl (EX.move rfl) ?_
  refine OW.val rfl rfl (EX.lenA Tryz.underlying31 rfl) ?_
  refine OW.val rfl rfl (by first | exact EX.neqN rfl rfl | exact EX.neqZ rfl rfl) ?_
  refine OW.nil ?_
  refine KW.condD rfl (fun hl => ?_) (fun hl => ?_)
  · refine KW.seq (KW.region ?_)
    refine OW.val rfl rfl (EX.assign rfl) ?_
    refine OW.nil ?_
    refine KW.ret (ret1 rfl rfl ?_)
    refine ⟨congrArg Value.bool (decide_eq_false (fun e => hl (by rw [e]))).symm, Ext.refl _⟩
  · have hll : l1.length = l2.length := by omega
    refine KW.skip (KW.seq (KW.seq (KW.region ?_)))
    refine OW.val rfl rfl (EX.assign rfl) ?_
    refine OW.nil ?_
    refine KW.block ?_
    refine KW.loop2 (fun (i : Nat) (wr : World) => i ≤ l1.length ∧ (∀ j, j < i → l1[j]? = l2[j]?) ∧ Ext w wr) (fun (i : Nat) (wr : World) => [(0, .slice A1 l1.length k1), (1, .slice A2 l2.length k2), (5, .int .i64 ((i : Nat) : Int))]) (fun (i : Nat) (wr : World) => wr) (fun (i : Nat) (wr : World) => l1.length - i) (0) (w) ⟨rfl, rfl, rfl, trivial⟩ rfl ?_ ?_
    · exact ⟨by omega, fun j hj => by omega, Ext.refl _⟩
    · rintro i wr ⟨hi, he, hx⟩
      refine KW.seq (KW.seq (KW.region ?_))
      refine OW.val rfl rfl (EX.move rfl) ?_
      refine OW.val rfl rfl (EX.move rfl) ?_
      refine OW.val rfl rfl (EX.lenA Tryz.underlying31 rfl) ?_
      refine OW.val rfl rfl (by first | exact EX.lssN rfl rfl | exact EX.lssZ rfl rfl) ?_
      refine OW.nil ?_
      refine KW.condD rfl (fun hlt => ?_) (fun hlt => ?_)
      · have hlt2 : i < l2.length := by omega
        obtain ⟨b1, o1, rfl, _, hc1⟩ := (h1.ext hx).flat (c := 2) (fun _ => rfl) (by decide) hlt
        obtain ⟨b2, o2, rfl, _, hc2⟩ := (h2.ext hx).flat (c := 2) (fun _ => rfl) (by decide) hlt2
        refine KW.skip (KW.seq (KW.block (KW.seq ?_)))
        refine KW.regionQ (by kernel_rfl) (by kernel_rfl) ?_
        refine QW.val rfl rfl (fun _ => EX.move rfl) ?_
        refine QW.val rfl rfl (fun _ => EX.move rfl) ?_
        refine QW.val rfl rfl (fun _ => EX.indexAddrS Tryz.underlying31 ti23 rfl rfl (by omega)) ?_
        refine QW.val rfl rfl (fun _ => EX.loadA (w := wr.drewN _) (l := (l1[i]).cells) Tryz.underlying23 rfl ti23 rfl rfl hc1) ?_
        refine QW.val rfl rfl (fun _ => EX.move rfl) ?_
        refine QW.val rfl rfl (fun _ => EX.move rfl) ?_
        refine QW.val rfl rfl (fun _ => EX.indexAddrS Tryz.underlying31 ti23 rfl rfl (by omega)) ?_
        refine QW.val rfl rfl (fun _ => EX.loadA (w := wr.drewN _) (l := (l2[i]).cells) Tryz.underlying23 rfl ti23 rfl rfl hc2) ?_
        refine QW.val rfl rfl (fun _ => EX.neqG Tryz.underlying23 (by kernel_rfl) (by kernel_rfl) rfl rfl (.cons (by decide) Tryz.underlying9 rfl rfl rfl (eq_str Tryz.underlying9) (.cons (by decide) Tryz.underlying9 rfl rfl rfl (eq_str Tryz.underlying9) .nil)) rfl) ?_
        refine QW.nil (fun nq => ?_)
        refine KW.as 25 (.bool (decide (l1[i] ≠ l2[i]))) rfl (congrArg Value.bool (en_ne _ _)) ?_
        refine KW.condD rfl (fun hne => ?_) (fun hne => ?_)
        · refine KW.seq (KW.region ?_)
          refine OW.val rfl rfl (EX.assign rfl) ?_
          refine OW.nil ?_
          refine KW.ret (ret1 rfl rfl ?_)
          refine ⟨congrArg Value.bool (decide_eq_false (fun e => hne ?_)).symm, hx.trans (Ext.drewN wr nq)⟩
          subst e
          rfl
        · refine KW.skip (KW.leave (KW.region ?_))
          refine OW.val rfl rfl (EX.move rfl) ?_
          refine OW.val rfl rfl (by first | exact EX.addN (b := 1) (m := 9223372036854775807) rfl rfl rfl (by omega) | exact EX.addZ (m := 9223372036854775807) rfl rfl rfl rfl (by omega)) ?_
          refine OW.val rfl rfl (EX.assign rfl) ?_
          refine OW.nil ?_
          refine KW.back2 (i + 1) (wr.drewN nq) ⟨rfl, rfl, rfl, trivial⟩ rfl ?_ (by omega)
          refine ⟨by omega, fun j hj => ?_, hx.trans (Ext.drewN wr nq)⟩
          by_cases e : j = i
          · subst e
            rw [List.getElem?_eq_getElem hlt, List.getElem?_eq_getElem hlt2]
            exact congrArg some (by simpa using hne)
          · exact he j (by omega)
      · obtain rfl : i = l1.length := by omega
        refine KW.exit rfl (KW.seq (KW.region ?_))
        refine OW.val rfl rfl (EX.assign rfl) ?_
        refine OW.nil ?_
        refine KW.ret (ret1 rfl rfl ?_)
        refine ⟨congrArg Value.bool (decide_eq_true ?_).symm, hx⟩
        apply List.ext_getElem?
        intro j
        by_cases hj : j < l1.length
        · exact he j hj
        · rw [List.getElem?_eq_none (by omega), List.getElem?_eq_none (by omega)]
/-- entries among a law's arguments -/
structure EnOk (x : En) : Prop where
  path : x.path.length ≤ 140737488351232
  data : x.data.length ≤ 140737488351232
set_option maxRecDepth 20000 in
theorem light_s (l : List En) (hok : ∀ x ∈ l, EnOk x) (hl : l.length ≤ 140737488355328) (A : Option Addr) (c B : Nat) (w : World) (hs : Sl w B A (ensV l)) :
    Ret Tryz.prog 11 [.slice A l.length c] w fun v w' => v = .bool (decide (hv l ≤ 40000)) ∧ Ext w w' := by
  refine Ret.enter Tryz.func11 rfl Tryz.ntmps11 (by kernel_rfl) rfl ?_
  refine KW.seq (KW.region ?_)
  refine OW.val rfl rfl (EX.assign rfl) ?_
  refine OW.nil ?_
  refine KW.seq (KW.region ?_)
  refine OW.val rfl rfl (EX.assign rfl) ?_
  refine OW.nil ?_
  refine KW.seq (KW.seq (KW.region ?_))
  refine OW.val rfl rfl (EX.assign rfl) ?_
  refine OW.nil ?_
  refine KW.block ?_
  refine KW.loop2 (fun (i : Nat) (wr : World) => i ≤ l.length ∧ hv (l.take i) ≤ 40000 ∧ Ext w wr) (fun (i : Nat) (wr : World) => [(0, .slice A l.length c), (3, .int .i64 (((hv (l.take i)) : Nat) : Int)), (4, .int .i64 ((i : Nat) : Int))]) (fun (i : Nat) (wr : World) => wr) (fun (i : Nat) (wr : World) => l.length - i) (0) (w) ⟨rfl, rfl, rfl, trivial⟩ rfl ?_ ?_
  · exact ⟨Nat.zero_le _, by simp [hv], Ext.refl _⟩
  · rintro i wr ⟨hi, hn, hx⟩
    refine KW.seq (KW.seq (KW.region ?_))
    refine OW.val rfl rfl (EX.move rfl) ?_
    refine OW.val rfl rfl (EX.move rfl) ?_
    refine OW.val rfl rfl (EX.lenA Tryz.underlying31 rfl) ?_
    refine OW.val rfl rfl (by first | exact EX.lssN rfl rfl | exact EX.lssZ rfl rfl) ?_
    refine OW.nil ?_
    refine KW.condD rfl (fun hlt => ?_) (fun hlt => ?_)
    · obtain ⟨b, o, rfl, _, hcell⟩ := (hs.ext hx).flat (c := 2) (fun _ => rfl) (by decide) hlt
      have hsn : l.take (i + 1) = l.take i ++ [l[i]] := (List.take_append_getElem hlt).symm
      have hxk := hok l[i] (List.getElem_mem hlt)
      have q1 := hxk.path
      have q2 := hxk.data
      have hvs : hv (l.take (i + 1)) = hv (l.take i) + ((l[i]).path.length + (l[i]).data.length + 1000) := by rw [hsn, hv_append]; simp [hv]
      have hvt := hv_take l (i + 1)
      refine KW.skip (KW.seq (KW.block (KW.seq ?_)))
      refine KW.regionQ (by kernel_rfl) (by kernel_rfl) ?_
      refine QW.val rfl rfl (fun _ => EX.move rfl) ?_
      refine QW.val rfl rfl (fun _ => EX.move rfl) ?_
      refine QW.val rfl rfl (fun _ => EX.move rfl) ?_
      refine QW.val rfl rfl (fun _ => EX.indexAddrS Tryz.underlying31 ti23 rfl rfl (by omega)) ?_
      refine QW.val rfl rfl (fun _ => EX.fieldAddr (off := 0) Tryz.underlying23 rfl rfl ti9 rfl rfl) ?_
      refine QW.val rfl rfl (fun _ => EX.load Tryz.underlying9 rfl rfl (hcell 0 _ rfl)) ?_
      refine QW.val rfl rfl (fun _ => EX.lenS Tryz.underlying9 rfl) ?_
      refine QW.val rfl rfl (fun _ => EX.move rfl) ?_
      refine QW.val rfl rfl (fun _ => EX.move rfl) ?_
      refine QW.val rfl rfl (fun _ => EX.indexAddrS Tryz.underlying31 ti23 rfl rfl (by omega)) ?_
      refine QW.val rfl rfl (fun _ => EX.fieldAddr (off := 1) Tryz.underlying23 rfl rfl ti9 rfl rfl) ?_
      refine QW.val rfl rfl (fun _ => EX.load Tryz.underlying9 rfl rfl (hcell 1 _ rfl)) ?_
      refine QW.val rfl rfl (fun _ => EX.lenS Tryz.underlying9 rfl) ?_
      refine QW.val rfl rfl (fun _ => by first | exact EX.addN (m := 9223372036854775807) rfl rfl rfl (by omega) | exact EX.addZ (m := 9223372036854775807) rfl rfl rfl rfl (by omega)) ?_
      refine QW.val rfl rfl (fun _ => by first | exact EX.addN (b := 1000) (m := 9223372036854775807) rfl rfl rfl (by omega) | exact EX.addZ (m := 9223372036854775807) rfl rfl rfl rfl (by omega)) ?_
      refine QW.val rfl rfl (fun _ => by first | exact EX.addN (m := 9223372036854775807) rfl rfl rfl (by omega) | exact EX.addZ (m := 9223372036854775807) rfl rfl rfl rfl (by omega)) ?_
      refine QW.val rfl rfl (fun _ => EX.assign rfl) ?_
      refine QW.nil (fun nq => ?_)
      refine KW.seq (KW.region ?_)
      refine OW.val rfl rfl (EX.move rfl) ?_
      refine OW.val rfl rfl (by first | exact EX.gtrN (b := 40000) rfl rfl | exact EX.gtrZ rfl rfl) ?_
      refine OW.nil ?_
      have hx1 : Ext w (wr.drewN nq) := hx.trans (Ext.drewN wr nq)
      generalize wr.drewN nq = wq at hx1
      refine KW.as 3 (.int .i64 (((hv (l.take (i + 1))) : Nat) : Int)) rfl (congrArg (Value.int .i64) (by rw [hvs])) ?_
      refine KW.condD rfl (fun hbig => ?_) (fun hbig => ?_)
      · refine KW.seq (KW.region ?_)
        refine OW.val rfl rfl (EX.assign rfl) ?_
        refine OW.nil ?_
        refine KW.ret (ret1 rfl rfl ?_)
        exact ⟨congrArg Value.bool (decide_eq_false (by omega)).symm, hx1⟩
      · refine KW.skip (KW.leave (KW.region ?_))
        refine OW.val rfl rfl (EX.move rfl) ?_
        refine OW.val rfl rfl (by first | exact EX.addN (b := 1) (m := 9223372036854775807) rfl rfl rfl (by omega) | exact EX.addZ (m := 9223372036854775807) rfl rfl rfl rfl (by omega)) ?_
        refine OW.val rfl rfl (EX.assign rfl) ?_
        refine OW.nil ?_
        refine KW.back2 (i + 1) (wq) ⟨rfl, rfl, rfl, trivial⟩ rfl ?_ (by omega)
        exact ⟨by omega, by omega, hx1⟩
    · obtain rfl : i = l.length := by omega
      rw [List.take_length] at hn
      refine KW.exit rfl (KW.seq (KW.region ?_))
      refine OW.val rfl rfl (EX.assign rfl) ?_
      refine OW.nil ?_
      refine KW.ret (ret1 rfl rfl ?_)
      exact ⟨congrArg Value.bool (decide_eq_true hn).symm, hx⟩
def awx : En := ⟨[97], [104, 101, 108, 108, 111]⟩
theorem awx_ok : checkP awx.path = 0 ∧ awx.data.length ≤ 262144 := ⟨by decide +kernel, by decide⟩
theorem awx_okL : okL [awx] := fun x hx => by
  simp only [List.mem_singleton] at hx
  subst hx
  exact awx_ok
theorem awx_split : (splitP awx.path).2.2 = true := short_split (by decide)
theorem awx_len : (entT awx).length = 1024 := by
  unfold entT
  rw [if_pos awx_split, sect_len (good_one awx_ok.1 awx_ok.2 awx_split)]
  rfl
theorem awx_entE : entE awx = (entT awx, 0) := by
  unfold entE
  rw [if_neg (by rw [awx_ok.1]; decide), if_neg (by decide)]
theorem awx_pack : packT [awx] = (catT [awx] ++ nul 1024, 0) := by
  unfold packT
  rw [if_neg (by rw [errT_ok awx_okL]; decide)]
theorem awx_cat : (catT [awx]).length = 1024 := by
  have : catT [awx] = entT awx := by simp [catT]
  rw [this, awx_len]
theorem awx_unpack : unpackT (catT [awx] ++ nul 1024) = ([awx], 0) := by
  have h := unpack_back awx_okL (n := 1024) (by decide) [] (by rw [List.length_append, awx_cat, List.append_nil, nul_len]; decide)
  rwa [List.append_nil] at h
theorem unpack_nil : unpackT [] = ([], 180) := by
  unfold unpackT
  rw [if_neg (by decide)]
  exact unp_fail (.inl ⟨head_short (by decide), by decide⟩)
set_option maxRecDepth 20000 in
theorem awake18_s (w : World) (hG : Env w) : Ret Tryz.prog 8 [] w fun v w' => v = .bool true ∧ Ext w w' := by
  refine Ret.enter Tryz.func8 rfl Tryz.ntmps8 (by kernel_rfl) rfl ?_
  refine KW.seq (KW.region ?_)
  refine OW.val rfl rfl (EX.assign rfl) ?_
  refine OW.nil ?_
  refine KW.seq (KW.region ?_)
  refine OW.val rfl rfl (EX.buildS (pl := [(0, 1), (1, 1)]) (ks := [0, 1]) (is := [0, 1]) (zs := [str [], str []]) Tryz.underlying23 ti23 (by kernel_rfl) rfl rfl rfl (by first | rfl | (simp only [List.all_cons, List.all_nil, Bool.and_true, Bool.true_and, Bool.and_eq_true, Value.oneCell']; repeat (first | assumption | exact Own.one (by assumption) | constructor))) (by simp only [setAll, List.set_cons_zero, List.set_cons_succ]; rfl)) ?_
  have c1 := entry_s awx (by decide) (by decide) w hG
  rw [awx_entE] at c1
  refine OW.call rfl rfl rfl (c1) ?_
  rintro _ w1 ⟨rfl, hx1⟩
  refine OW.val rfl rfl (EX.move rfl) ?_
  refine OW.val rfl rfl (EX.extract rfl rfl) ?_
  refine OW.val rfl rfl (EX.extract rfl rfl) ?_
  refine OW.val rfl rfl (EX.assign rfl) ?_
  refine OW.val rfl rfl (EX.assign rfl) ?_
  refine OW.nil ?_
  refine KW.seq (KW.region ?_)
  refine OW.val rfl rfl (EX.buildS (pl := [(0, 1), (1, 1)]) (ks := [0, 1]) (is := [0, 1]) (zs := [str [], str []]) Tryz.underlying23 ti23 (by kernel_rfl) rfl rfl rfl (by first | rfl | (simp only [List.all_cons, List.all_nil, Bool.and_true, Bool.true_and, Bool.and_eq_true, Value.oneCell']; repeat (first | assumption | exact Own.one (by assumption) | constructor))) (by simp only [setAll, List.set_cons_zero, List.set_cons_succ]; rfl)) ?_
  refine OW.buildG 1 ([awx.cells]) rfl rfl Tryz.underlying31 ti23 rfl (by decide) rfl rfl rfl (by repeat' (first | exact List.forall_mem_nil _ | refine List.forall_mem_cons.2 ⟨by first | rfl | assumption, ?_⟩)) (by decide) ?_
  rintro sb w2 hge2 hb2 hx2
  replace hb2 : Bk w2 sb 23 (ensV [awx]) := hb2
  have x2 := hx1.trans hx2
  have c2 := pack_s [awx] (by decide) (some ⟨sb, 0, none⟩) 1 _ w2 (hG.ext x2) (Sl.of_bk hb2 hb2.lt)
  rw [awx_pack] at c2
  refine OW.call rfl rfl rfl (c2) ?_
  rintro _ w3 ⟨rfl, hx3⟩
  refine OW.val rfl rfl (EX.move rfl) ?_
  refine OW.val rfl rfl (EX.extract rfl rfl) ?_
  refine OW.val rfl rfl (EX.extract rfl rfl) ?_
  refine OW.val rfl rfl (EX.assign rfl) ?_
  refine OW.val rfl rfl (EX.assign rfl) ?_
  refine OW.nil ?_
  refine KW.seq (KW.region ?_)
  refine OW.val rfl rfl (EX.move rfl) ?_
  have x3 := x2.trans hx3
  have hl2 : (catT [awx] ++ nul 1024).length = 2048 := by rw [List.length_append, awx_cat, nul_len]
  have c3 := unpack_s (catT [awx] ++ nul 1024) (by omega) w3 (hG.ext x3)
  rw [awx_unpack] at c3
  have hl1 := awx_len
  generalize entT awx = t1 at hl1
  generalize catT [awx] ++ nul 1024 = t2 at hl2 c3
  refine OW.call rfl rfl rfl (c3) ?_
  rintro _ w4 ⟨u, rfl, hown, hx4⟩
  refine OW.val rfl rfl (EX.move rfl) ?_
  refine OW.val rfl rfl (EX.extract rfl rfl) ?_
  refine OW.val rfl rfl (EX.extract rfl rfl) ?_
  refine OW.val rfl rfl (EX.assign rfl) ?_
  refine OW.val rfl rfl (EX.assign rfl) ?_
  refine OW.nil ?_
  refine KW.seq (KW.region ?_)
  have x4 := x3.trans hx4
  have c4 := unpack_s [] (by decide) w4 (hG.ext x4)
  rw [unpack_nil] at c4
  refine OW.call rfl rfl rfl (c4) ?_
  rintro _ w5 ⟨u2, rfl, hown2, hx5⟩
  refine OW.val rfl rfl (EX.move rfl) ?_
  refine OW.val rfl rfl (EX.extract rfl rfl) ?_
  refine OW.val rfl rfl (EX.extract rfl rfl) ?_
  refine OW.val rfl rfl (EX.assign rfl) ?_
  refine OW.val rfl rfl (EX.assign rfl) ?_
  refine OW.nil ?_
  refine KW.seq ?_
  have x5 := x4.trans hx5
  obtain ⟨A, c, eu, _, hsl⟩ := (hown.ext hx5).slice
  obtain rfl : u = .slice A 1 c := eu
  obtain ⟨b, o, rfl, _, hcell⟩ := hsl.flat (l := [awx]) (i := 0) (c := 2) (fun _ => rfl) (by decide) (by decide)
  refine KW.region ?_
  refine OW.val rfl rfl (EX.move rfl) ?_
  refine OW.val rfl rfl (EX.lenS Tryz.underlying9 rfl) ?_
  refine OW.val rfl rfl (by first | exact EX.eqlN (b := 1024) rfl rfl | exact EX.eqlZ rfl rfl) ?_
  refine OW.val rfl rfl (EX.move rfl) ?_
  refine OW.as 32 (.bool true) rfl (congrArg Value.bool (decide_eq_true (hl1))) ?_
  refine OW.val rfl rfl (EX.move rfl) ?_
  refine OW.val rfl rfl (by first | exact EX.eqlN (b := 0) rfl rfl | exact EX.eqlZ rfl rfl) ?_
  refine OW.val rfl rfl (EX.pickT rfl rfl) ?_
  refine OW.val rfl rfl (EX.move rfl) ?_
  refine OW.as 36 (.bool true) rfl (congrArg Value.bool (decide_eq_true (rfl))) ?_
  refine OW.val rfl rfl (EX.move rfl) ?_
  refine OW.val rfl rfl (EX.lenS Tryz.underlying9 rfl) ?_
  refine OW.val rfl rfl (by first | exact EX.eqlN (b := 2048) rfl rfl | exact EX.eqlZ rfl rfl) ?_
  refine OW.val rfl rfl (EX.pickT rfl rfl) ?_
  refine OW.val rfl rfl (EX.move rfl) ?_
  refine OW.as 41 (.bool true) rfl (congrArg Value.bool (decide_eq_true (hl2))) ?_
  refine OW.val rfl rfl (EX.move rfl) ?_
  refine OW.val rfl rfl (by first | exact EX.eqlN (b := 0) rfl rfl | exact EX.eqlZ rfl rfl) ?_
  refine OW.val rfl rfl (EX.pickT rfl rfl) ?_
  refine OW.val rfl rfl (EX.move rfl) ?_
  refine OW.as 45 (.bool true) rfl (congrArg Value.bool (decide_eq_true (rfl))) ?_
  refine OW.val rfl rfl (EX.move rfl) ?_
  refine OW.val rfl rfl (EX.lenA Tryz.underlying31 rfl) ?_
  refine OW.val rfl rfl (by first | exact EX.eqlN (b := 1) rfl rfl | exact EX.eqlZ rfl rfl) ?_
  refine OW.val rfl rfl (EX.pickT rfl rfl) ?_
  refine OW.val rfl rfl (EX.move rfl) ?_
  refine OW.as 50 (.bool true) rfl (congrArg Value.bool (decide_eq_true (rfl))) ?_
  refine OW.val rfl rfl (EX.move rfl) ?_
  refine OW.val rfl rfl (EX.indexAddrS (i := 0) Tryz.underlying31 ti23 rfl rfl (by omega)) ?_
  refine OW.val rfl rfl (EX.loadA (l := awx.cells) Tryz.underlying23 rfl ti23 rfl rfl hcell) ?_
  refine OW.val rfl rfl (EX.buildS (pl := [(0, 1), (1, 1)]) (ks := [0, 1]) (is := [0, 1]) (zs := [str [], str []]) Tryz.underlying23 ti23 (by kernel_rfl) rfl rfl rfl (by first | rfl | (simp only [List.all_cons, List.all_nil, Bool.and_true, Bool.true_and, Bool.and_eq_true, Value.oneCell']; repeat (first | assumption | exact Own.one (by assumption) | constructor))) (by simp only [setAll, List.set_cons_zero, List.set_cons_succ]; rfl)) ?_
  refine OW.val rfl rfl (EX.eqlG Tryz.underlying23 (by kernel_rfl) (by kernel_rfl) rfl rfl (.cons (by decide) Tryz.underlying9 rfl rfl rfl (eq_str Tryz.underlying9) (.cons (by decide) Tryz.underlying9 rfl rfl rfl (eq_str Tryz.underlying9) .nil)) rfl) ?_
  refine OW.val rfl rfl (EX.pickT rfl rfl) ?_
  refine OW.val rfl rfl (EX.move rfl) ?_
  refine OW.as 57 (.bool true) rfl (congrArg Value.bool (by simp [awx])) ?_
  refine OW.val rfl rfl (EX.move rfl) ?_
  refine OW.val rfl rfl (by first | exact EX.eqlN (b := 0) rfl rfl | exact EX.eqlZ rfl rfl) ?_
  refine OW.val rfl rfl (EX.pickT rfl rfl) ?_
  refine OW.val rfl rfl (EX.move rfl) ?_
  refine OW.as 61 (.bool true) rfl (congrArg Value.bool (decide_eq_true (rfl))) ?_
  refine OW.val rfl rfl (EX.move rfl) ?_
  refine OW.val rfl rfl (by first | exact EX.eqlN (b := 180) rfl rfl | exact EX.eqlZ rfl rfl) ?_
  refine OW.val rfl rfl (EX.pickT rfl rfl) ?_
  refine OW.val rfl rfl (EX.assign rfl) ?_
  refine OW.nil ?_
  refine KW.as 0 (.bool true) rfl (congrArg Value.bool (decide_eq_true (rfl))) ?_
  refine KW.ret (ret1 rfl rfl ?_)
  exact ⟨rfl, x5⟩
end Go.Proofs.YtjgeoeeikfjmdaaGreatDoor
/- From a walk to a law's row: the call returned true, and all that was there is as it was. No program is spoken of. -/
namespace Go.Proofs.YtjgeoeeikfjmdaaGreatDoor
set_option linter.unnecessarySimpa false
set_option linter.unusedVariables false
set_option linter.unusedSimpArgs false
open Go.ChangeShapes Go.WideShapes Go.ChangeAt Go.RowKit
section
variable {H : Type} {enc : TypeId × Value → H} {P : Program}
theorem trodAll_stays (hl : laidOutB P = true) {W W' : World} (hx : Ext W W') : ∀ {ts : List TypeId} {vs : List Value} {ds : List (DataW H)} {ps : List MemPlace},
    (∀ t ∈ ts, P.readableRec t = true ∧ t < P.types.size) → DataW.TrodAll enc P W 0 (fun _ => true) true ts vs ds ps → (∀ p ∈ ps, p.block < W.heap.size) →
    DataW.TrodAll enc P W' 0 (fun b => decide (b < W.heap.size)) true ts vs ds ps
  | [], vs, ds, ps, _, h, _ => by
    obtain ⟨rfl, rfl, rfl⟩ := trodAll_nil h
    exact trodAll_mk0
  | t :: ts, vs, ds, ps, hr, h, hlt => by
    obtain ⟨v, vs', d, ds', p, q, rfl, rfl, rfl, h1, h2⟩ := trodAll_cons h
    refine trodAll_cons_mk (WideElems.Trod_stays hl (hr t (by simp)).1 (hr t (by simp)).2 h1 (fun x hx' => hx.same (hlt x (by simp [hx']))) (fun x hx' => by simpa using hlt x (by simp [hx']))) ?_
    exact trodAll_stays hl hx (fun u hu => hr u (by simp [hu])) h2 (fun x hx' => hlt x (by simp [hx']))
theorem law_post {f : Func} {s : ChangeSpec} {W W' : World} {args : Array Value} {ds gs : List (DataW H)} {before : List MemPlace} {T : TypeId}
    (hW : DataW.Whole enc P f.params.toList s.vars false W args.toList ds gs before) (hv : s.vars = []) (hspec : s.fn H (ds ++ gs) = { results := [.lit (.bool true)], args := ds }) (hrt : f.resultTypes = #[T]) (hu : P.underlying T = some .bool)
    (hl : laidOutB P = true) (hr : ∀ t ∈ f.params.toList, P.readableRec t = true ∧ t < P.types.size) (hx : Ext W W') : s.post enc P f false true false false W args (.bool true) W' := by
  have hlt : ∀ p ∈ before, p.block < W.heap.size := fun p hp => hW.lt p hp
  have hW0 := hW
  obtain ⟨p, q, hA, hV, rfl, _, _⟩ := hW
  rw [hv] at hV
  refine ⟨ds, gs, _, [], p, [], hW0, ?_, ?_, ?_, hx.frame _, fun h => by cases h⟩
  · rw [hspec, hrt]
    exact trodAll_cons_mk (p := []) (p' := []) (shut_bool hu _) trodAll_mk0
  · rw [hspec]
    exact trodAll_stays hl hx hr hA (fun x hx' => hlt x (by simp [hx']))
  · rw [hspec, hv]
    exact rfl
end
end Go.Proofs.YtjgeoeeikfjmdaaGreatDoor
/- A law's arguments, as the walks take them. No program is spoken of. -/
namespace Go.Proofs.YtjgeoeeikfjmdaaGreatDoor
set_option linter.unnecessarySimpa false
open Go.ChangeShapes Go.WideShapes Go.ChangeAt Go.RowKit
set_option linter.unusedSimpArgs false
set_option linter.unusedVariables false
/-- a listed variable's cells, as its initialiser lays them -/
def layCells (cs : List Value) : Obj → Obj
  | .cells _ t frozen => .cells cs.toArray t frozen
  | o => o
section
variable {H : Type} {enc : TypeId × Value → H} {P : Program} {W : World} {base : Nat} {t e : TypeId} {v : Value} {d : DataW H} {p : List MemPlace} {r : Reach} {b0 : Nat}
theorem wf_nat {k : IntKind} {n : Int} (hs : k.signed = false) (h : (Lit.int k n).wf = true) : ∃ m : Nat, n = m ∧ m ≤ maxN k := by
  cases k <;> simp [IntKind.signed] at hs <;> (simp [Lit.wf, IntKind.min, IntKind.max, IntKind.signed, IntKind.bits] at h; exact ⟨n.toNat, by omega, by simp [maxN]; omega⟩)
theorem wf_int {n : Int} (h : (Lit.int .i64 n).wf = true) : -9223372036854775808 ≤ n ∧ n ≤ 9223372036854775807 := by
  simp [Lit.wf, IntKind.min, IntKind.max, IntKind.signed, IntKind.bits] at h
  omega
theorem open_nat {k : IntKind} (ht : P.underlying t = some (.int k)) (hs : k.signed = false) (hval : Value.okWide P W r b0 t v) (hd : DataW.Trod enc P W base (fun _ => true) true t v d p) : ∃ m : Nat, v = .int k (m : Int) ∧ m ≤ maxN k := by
  obtain ⟨n, rfl, _, _, hw⟩ := open_int ht hval hd
  obtain ⟨m, rfl, hm⟩ := wf_nat hs hw
  exact ⟨m, rfl, hm⟩
theorem open_i64 (ht : P.underlying t = some (.int .i64)) (hval : Value.okWide P W r b0 t v) (hd : DataW.Trod enc P W base (fun _ => true) true t v d p) : ∃ n : Int, v = .int .i64 n ∧ -9223372036854775808 ≤ n ∧ n ≤ 9223372036854775807 := by
  obtain ⟨n, rfl, _, _, hw⟩ := open_int ht hval hd
  exact ⟨n, rfl, wf_int hw⟩
theorem open_str (ht : P.underlying t = some .string) (hval : Value.okWide P W r b0 t v) (hd : DataW.Trod enc P W base (fun _ => true) true t v d p) : ∃ s : List UInt8, v = str s ∧ d = .lit (.string s) := by
  obtain ⟨s, rfl, rfl, _, hs⟩ := ChangeMaps.open_string ht hval hd
  exact ⟨s.data.toList, rfl, rfl⟩
theorem reach_str {ts : List TypeId} {ds : List (DataW H)} (h : (DataW.weightsEach P ts ds).all (· ≤ reachBytes) = true) {j : Nat} {s : List UInt8} (ht : ts[j]? = some t) (hd : ds[j]? = some (.lit (.string s))) : s.length ≤ 140737488351232 :=
  Nat.le_trans (sized_string h ht hd) (by decide)
/-- a slice's cells, wherever they start -/
theorem sl_of_cells {a : Addr} {xs : List Value} (h : ∀ j u, xs[j]? = some u → W.cell? (a.add j) = some u) : Sl W W.heap.size (some a) xs := by
  by_cases hx : xs = []
  · exact .inl hx
  · have h0 : 0 < xs.length := List.length_pos_iff.2 hx
    have hc := h 0 xs[0] (List.getElem?_eq_getElem h0)
    have ha : a.add 0 = a := by unfold Addr.add; simp
    rw [ha] at hc
    obtain ⟨b, o, sp⟩ := a
    have hsp : sp = none := by
      unfold World.cell? at hc
      split at hc
      · cases sp with
        | none => rfl
        | some _ => simp at hc
      · simp at hc
    subst hsp
    refine .inr ⟨b, o, rfl, World.block_lt_of_cell? W _ hc, fun j u hu => ?_⟩
    have := h j u hu
    have hadd : (⟨b, o, none⟩ : Addr).add j = ⟨b, o + j, none⟩ := by unfold Addr.add; split <;> simp_all
    rwa [hadd] at this
theorem nats_of {k : IntKind} (hs : k.signed = false) : ∀ (zs : List Int), (∀ n ∈ zs, (Lit.int k n).wf = true) → ∃ ms : List Nat, zs = ms.map (fun (m : Nat) => (m : Int)) ∧ ∀ m ∈ ms, m ≤ maxN k
  | [], _ => ⟨[], rfl, by simp⟩
  | z :: zs, h => by
    obtain ⟨m, rfl, hm⟩ := wf_nat hs (h z (by simp))
    obtain ⟨ms, rfl, hms⟩ := nats_of hs zs (fun n hn => h n (by simp [hn]))
    exact ⟨m :: ms, rfl, by simpa using ⟨hm, hms⟩⟩
/-- a slice of unsigned numbers -/
theorem open_slN {k : IntKind} (ht : P.underlying t = some (.slice e)) (he : P.underlying e = some (.int k)) (hs : k.signed = false) (hc : P.cellsOf e = 1) (hval : Value.okWide P W r b0 t v) (hd : DataW.Trod enc P W base (fun _ => true) true t v d p) :
    ∃ (l : List Nat) (A : Option Addr) (c : Nat), v = .slice A l.length c ∧ (∀ x ∈ l, x ≤ maxN k) ∧ l.length ≤ 9223372036854775807 ∧ Sl W W.heap.size A (ints k l) := by
  obtain ⟨A, len, cap, rfl⟩ := okWide_slice ht hval
  obtain ⟨fuel, hf⟩ := hd
  rcases open_ints ht he hc hf with ⟨hcs, _⟩ | ⟨a, len', cap', zs, hcs, _, hl, hm, hz, _, hcell, hwz⟩
  · simp [Value.cells] at hcs
    obtain ⟨rfl, rfl, rfl⟩ := hcs
    exact ⟨[], none, 0, rfl, by simp, by simp, .inl rfl⟩
  · simp [Value.cells] at hcs
    obtain ⟨rfl, rfl, rfl⟩ := hcs
    simp only [if_true] at hz
    obtain ⟨ms, hms, hle⟩ := nats_of hs zs hwz
    have hmz : ms.length = zs.length := by rw [hms]; simp
    refine ⟨ms.take len, some a, cap, ?_, fun x hx => hle x (List.mem_of_mem_take hx), ?_, sl_of_cells fun j u hu => ?_⟩
    · rw [List.length_take, Nat.min_eq_left (by omega)]
    · rw [List.length_take]; simp only [maxLen] at hm; omega
    · have hjl : j < (ints k (ms.take len)).length := (List.getElem?_eq_some_iff.1 hu).1
      rw [ints_length, List.length_take] at hjl
      have hj : j < ms.length := by omega
      rw [hcell j (by omega), ← hu, hms]
      simp [ints, List.getElem?_take, show j < len by omega, hj, List.getD]
def strsV (l : List (List UInt8)) : List Value := l.map fun s => str s
theorem strsV_get {l : List (List UInt8)} {i : Nat} (h : i < l.length) : (strsV l)[i]? = some (str l[i]) := by simp [strsV, h]
theorem strsV_length (l : List (List UInt8)) : (strsV l).length = l.length := by simp [strsV]
theorem strsV_append (l m : List (List UInt8)) : strsV (l ++ m) = strsV l ++ strsV m := by simp [strsV]
theorem strsV_one {l : List (List UInt8)} : ∀ u ∈ strsV l, u.oneCell' = true := by
  intro u hu
  obtain ⟨_, _, rfl⟩ := List.mem_map.1 hu
  rfl
theorem weightsAll_mem : ∀ {l : List (DataW H)} {x : DataW H}, x ∈ l → ∀ n ∈ x.weights P e, n ∈ DataW.weightsAll P e l
  | y :: l, x, hx, n, hn => by
    simp only [DataW.weightsAll, List.mem_append]
    rcases List.mem_cons.1 hx with rfl | hx
    · exact .inl hn
    · exact .inr (weightsAll_mem hx n hn)
  | [], _, hx, _, _ => by simp at hx
/-- a slice of texts -/
theorem open_slS (ht : P.underlying t = some (.slice e)) (he : P.underlying e = some .string) (hc : P.cellsOf e = 1) (hval : Value.okWide P W r b0 t v) (hd : DataW.Trod enc P W base (fun _ => true) true t v d p)
    {ts : List TypeId} {ds : List (DataW H)} (hsz : (DataW.weightsEach P ts ds).all (· ≤ reachBytes) = true) {j : Nat} (hj : ts[j]? = some t) (hdj : ds[j]? = some d) :
    ∃ (l : List (List UInt8)) (A : Option Addr) (c : Nat), v = .slice A l.length c ∧ (∀ s ∈ l, s.length ≤ 140737488351232) ∧ l.length ≤ 9223372036854775807 ∧ Sl W W.heap.size A (strsV l) := by
  obtain ⟨A, len, cap, rfl⟩ := okWide_slice ht hval
  obtain ⟨fuel, hf⟩ := hd
  rcases open_strings ht he hc hf with ⟨hcs, _⟩ | ⟨a, len', cap', ss, hcs, _, hl, hm, hz, hx, hcell, hws⟩
  · simp [Value.cells] at hcs
    obtain ⟨rfl, rfl, rfl⟩ := hcs
    exact ⟨[], none, 0, rfl, by simp, by simp, .inl rfl⟩
  · simp [Value.cells] at hcs
    obtain ⟨rfl, rfl, rfl⟩ := hcs
    simp only [if_true] at hz
    simp only [Prod.mk.injEq] at hx
    obtain ⟨rfl, rfl⟩ := hx
    have hlen : (ss.take len).length = len := by rw [List.length_take]; omega
    refine ⟨(ss.take len).map fun s => s.data.toList, some a, cap, by simp [hlen]; omega, ?_, ?_, sl_of_cells fun i u hu => ?_⟩
    · intro s hs
      obtain ⟨s', hs', rfl⟩ := List.mem_map.1 hs
      have hmem : (DataW.lit (.string s'.data.toList) : DataW H) ∈ strs (ss.take len) := List.mem_map.2 ⟨s', hs', rfl⟩
      have h1 : s'.data.toList.length ∈ (DataW.slice (strs (ss.take len)) (strs (ss.drop len)) : DataW H).weights P t := by
        simp only [DataW.weights, ht, List.mem_cons, List.mem_append]
        exact .inr (.inl (weightsAll_mem hmem _ (by simp [DataW.weights])))
      have := List.all_eq_true.1 hsz _ (DataW.weights_mem_each hj hdj _ h1)
      simp only [decide_eq_true_eq] at this
      exact Nat.le_trans this (by decide)
    · rw [List.length_map, hlen]; simp only [maxLen] at hm; omega
    · have hjl : i < (strsV ((ss.take len).map fun s => s.data.toList)).length := (List.getElem?_eq_some_iff.1 hu).1
      rw [strsV_length, List.length_map, hlen] at hjl
      rw [hcell i (by omega), ← hu]
      simp [strsV, List.getElem?_take, hjl, show i < ss.length by omega, List.getD]
end
end Go.Proofs.YtjgeoeeikfjmdaaGreatDoor
/- A law's arguments that are slices of structs or of bools, as the walks take them. No program is spoken of. -/
namespace Go.Proofs.YtjgeoeeikfjmdaaGreatDoor
set_option linter.unnecessarySimpa false
open Go.ChangeShapes Go.WideShapes Go.ChangeAt Go.RowKit Go.Deep
set_option linter.unusedSimpArgs false
set_option linter.unusedVariables false
theorem flatMap_at {α : Type} {cells : α → List Value} {c : Nat} (hc : ∀ a, (cells a).length = c) : ∀ (l : List α) (j : Nat) (u : Value), (l.flatMap cells)[j]? = some u → ∃ i r, ∃ hi : i < l.length, r < c ∧ j = i * c + r ∧ (cells l[i])[r]? = some u
  | [], j, u, h => by simp at h
  | a :: l, j, u, h => by
    rw [List.flatMap_cons] at h
    by_cases hj : j < c
    · rw [List.getElem?_append_left (by rw [hc]; exact hj)] at h
      exact ⟨0, j, by simp, hj, by omega, h⟩
    · rw [List.getElem?_append_right (by rw [hc]; omega), hc] at h
      obtain ⟨i, r, hi, hr, he, hu⟩ := flatMap_at hc l _ u h
      exact ⟨i + 1, r, by simpa using hi, hr, by rw [Nat.succ_mul]; omega, by simpa using hu⟩
section
variable {H : Type} {enc : TypeId × Value → H} {P : Program} {W : World} {base : Nat} {t e : TypeId} {v : Value} {d : DataW H} {p : List MemPlace} {r : Reach} {b0 : Nat}
/-- a slice whose elements are some cells each -/
theorem open_slG {α : Type} [Inhabited α] (cells : α → List Value) (ok : α → Prop) {c : Nat} (hcl : ∀ a, (cells a).length = c) (ht : P.underlying t = some (.slice e)) (hc : P.cellsOf e = c)
    (step : ∀ n cs x, DataW.trod enc P W base (fun _ => true) true n e cs = some x → (∀ m ∈ x.1.weights P e, m ≤ reachBytes) → (∃ es sp, d = .slice es sp ∧ x.1 ∈ es) → ∃ a, cs = cells a ∧ ok a)
    (hval : Value.okWide P W r b0 t v) (hd : DataW.Trod enc P W base (fun _ => true) true t v d p)
    {ts : List TypeId} {ds : List (DataW H)} (hsz : (DataW.weightsEach P ts ds).all (· ≤ reachBytes) = true) {j : Nat} (hj : ts[j]? = some t) (hdj : ds[j]? = some d) :
    ∃ (l : List α) (A : Option Addr) (cap : Nat), v = .slice A l.length cap ∧ (∀ a ∈ l, ok a) ∧ (A = none → l = []) ∧ l.length * P.bytesOf e ≤ reachBytes ∧ l.length ≤ cap ∧ Sl W W.heap.size A (l.flatMap cells) := by
  obtain ⟨A, len, cap, rfl⟩ := okWide_slice ht hval
  obtain ⟨fuel, hf⟩ := hd
  rcases open_slice ht hf with ⟨hcs, _⟩ | ⟨a, len', cap', m, n, D, Pl, hcs, _, hl, hm, hmm, hx, hel⟩
  · simp [Value.cells] at hcs
    obtain ⟨rfl, rfl, rfl⟩ := hcs
    exact ⟨[], none, 0, rfl, by simp, fun _ => rfl, by simp, by simp, .inl rfl⟩
  · simp [Value.cells] at hcs
    obtain ⟨rfl, rfl, rfl⟩ := hcs
    simp only [if_true] at hmm
    subst hmm
    simp only [Prod.mk.injEq] at hx
    obtain ⟨rfl, rfl⟩ := hx
    obtain ⟨B, hB⟩ := choose_lt (α := α) (p := fun i b => W.cells? base (a.add (i * c)) c = some (cells b) ∧ ok b) (n := len) (fun i hi => by
      obtain ⟨cs', h1, h2⟩ := hel i (by omega)
      have hw : ∀ k ∈ (D i).weights P e, k ≤ reachBytes := fun k hk => by
        have hmem : D i ∈ (List.range len).map D := List.mem_map.2 ⟨i, List.mem_range.2 hi, rfl⟩
        have h1 : k ∈ (DataW.slice ((List.range len).map D) ((List.range (m - len)).map fun j => D (len + j)) : DataW H).weights P t := by
          simp only [DataW.weights, ht, List.mem_cons, List.mem_append]
          exact .inr (.inl (weightsAll_mem hmem _ hk))
        have := List.all_eq_true.1 hsz _ (DataW.weights_mem_each hj hdj _ h1)
        simpa using this
      obtain ⟨b, rfl, hb⟩ := step n cs' _ h2 hw ⟨_, _, rfl, List.mem_map.2 ⟨i, List.mem_range.2 hi, rfl⟩⟩
      rw [hc] at h1
      exact ⟨b, h1, hb⟩)
    have hln : ((List.range len).map B).length = len := by simp
    refine ⟨(List.range len).map B, some a, m, by rw [hln], ?_, fun q => (by cases q), ?_, by rw [hln]; exact hl, sl_of_cells fun i u hu => ?_⟩
    · intro b hb
      obtain ⟨i, hi, rfl⟩ := List.mem_map.1 hb
      exact (hB i (List.mem_range.1 hi)).2
    · rw [hln]
      have := sized_slice hsz hj hdj ht
      simp only [List.length_map, List.length_range] at this
      exact Nat.le_trans (Nat.mul_le_mul_right _ (by omega)) this
    · obtain ⟨q, s, hq, hs, rfl, hu'⟩ := flatMap_at hcl _ _ _ hu
      have hq' : q < len := by simpa using hq
      have hg : ((List.range len).map B)[q] = B q := by simp
      rw [hg] at hu'
      rw [← add_add, (World.cells?_some (hB q hq').1).2.2 s hs]
      exact hu'
/-- a slice of bools -/
theorem open_slB (ht : P.underlying t = some (.slice e)) (he : P.underlying e = some .bool) (hc : P.cellsOf e = 1) (hb1 : P.bytesOf e = 1) (hval : Value.okWide P W r b0 t v) (hd : DataW.Trod enc P W base (fun _ => true) true t v d p)
    {ts : List TypeId} {ds : List (DataW H)} (hsz : (DataW.weightsEach P ts ds).all (· ≤ reachBytes) = true) {j : Nat} (hj : ts[j]? = some t) (hdj : ds[j]? = some d) :
    ∃ (l : List Bool) (A : Option Addr) (cap : Nat), v = .slice A l.length cap ∧ (A = none → l = []) ∧ l.length ≤ 140737488351232 ∧ Sl W W.heap.size A (l.map fun b => .bool b) := by
  obtain ⟨l, A, cap, h1, _, h2, h3, _, h4⟩ := open_slG (fun b : Bool => [Value.bool b]) (fun _ => True) (c := 1) (fun _ => rfl) ht hc (fun n cs x hx _ _ => by
    obtain ⟨b, rfl, _⟩ := DataW.trod_bool he hx
    exact ⟨b, rfl, trivial⟩) hval hd hsz hj hdj
  refine ⟨l, A, cap, h1, h2, ?_, ?_⟩
  · rw [hb1, Nat.mul_one] at h3
    exact Nat.le_trans h3 (by decide)
  · have e : ∀ l : List Bool, (l.flatMap fun b => [Value.bool b]) = l.map fun b => .bool b := fun l => by
      induction l with
      | nil => rfl
      | cons b l ih => simp only [List.flatMap_cons, List.map_cons, ih]; rfl
    rwa [e] at h4
/-- two numbers with a sign -/
theorem open_arr2 (ht : P.underlying t = some (.array 2 e)) (he : P.underlying e = some (.int .i64)) (hc : P.cellsOf e = 1) (hC : P.cellsOf t = 2) (hval : Value.okWide P W r b0 t v) (hd : DataW.Trod enc P W base (fun _ => true) true t v d p) :
    ∃ a b : Int, v = .agg [.int .i64 a, .int .i64 b].toArray := by
  obtain ⟨cs, rfl, hs⟩ : ∃ cs, v = .agg cs ∧ cs.size = P.cellsOf t := by
    simp only [Value.okWide, ht] at hval
    obtain ⟨cs, h1, h2, _⟩ := hval
    exact ⟨cs, h1, h2⟩
  obtain ⟨fuel, hf⟩ := hd
  obtain ⟨xs, m, rfl, _, hl, hlen, hx⟩ := DataW.trod_array ht hf
  obtain ⟨l⟩ := cs
  have hs' : l.length = 2 := by simpa [hC] using hs
  match l, hs' with
  | [u0, u1], _ =>
    have g : ∀ i, i < 2 → ∃ y, xs[i]? = some y := fun i hi => ⟨_, List.getElem?_eq_getElem (by rw [hlen]; exact hi)⟩
    obtain ⟨y0, e0⟩ := g 0 (by omega)
    obtain ⟨y1, e1⟩ := g 1 (by omega)
    have f0 := (hx 0 (by omega)).trans e0
    have f1 := (hx 1 (by omega)).trans e1
    rw [hc] at f0 f1
    simp only [Value.cells, Nat.zero_mul, Nat.one_mul, List.drop_zero, List.drop_succ_cons, List.take_succ_cons, List.take_zero] at f0 f1
    obtain ⟨n0, h0, _⟩ := DataW.trod_int he f0
    obtain ⟨n1, h1, _⟩ := DataW.trod_int he f1
    simp only [List.cons.injEq, and_true] at h0 h1
    subst h0 h1
    exact ⟨n0, n1, rfl⟩
/-- a struct by value -/
theorem open_stG {α : Type} (cells : α → List Value) (ok : α → Prop) {fs : Array Field} (ht : P.underlying t = some (.struct fs))
    (step : ∀ n cs x, DataW.trod enc P W base (fun _ => true) true n t cs = some x → (∀ m ∈ x.1.weights P t, m ≤ reachBytes) → ∃ a, cs = cells a ∧ ok a)
    (hval : Value.okWide P W r b0 t v) (hd : DataW.Trod enc P W base (fun _ => true) true t v d p)
    {ts : List TypeId} {ds : List (DataW H)} (hsz : (DataW.weightsEach P ts ds).all (· ≤ reachBytes) = true) {j : Nat} (hj : ts[j]? = some t) (hdj : ds[j]? = some d) :
    ∃ a : α, v = .agg (cells a).toArray ∧ ok a := by
  obtain ⟨⟨l⟩, rfl, hs⟩ := okWide_struct ht hval
  obtain ⟨fuel, hf⟩ := hd
  obtain ⟨a, h1, h2⟩ := step fuel _ _ hf (fun m hm => by
    have := List.all_eq_true.1 hsz _ (DataW.weights_mem_each hj hdj _ hm)
    simpa using this)
  simp only [Value.cells] at h1
  exact ⟨a, by rw [← h1], h2⟩
end
end Go.Proofs.YtjgeoeeikfjmdaaGreatDoor
/- tar: the statements without the document's answer. -/
namespace Go.Proofs.YtjgeoeeikfjmdaaGreatDoor
set_option linter.unnecessarySimpa false
open Go.ChangeShapes Go.WideShapes Go.ChangeAt Go.RowKit Go.Deep Fld Ust Pax Pth Tar
set_option linter.unusedVariables false
set_option linter.unusedSimpArgs false

section
variable {H : Type} {enc : TypeId × Value → H} {W : World} {base : Nat} {v : Value} {d : DataW H} {p : List MemPlace} {r : Reach} {b0 : Nat}
instance : Inhabited En := ⟨⟨[], []⟩⟩
theorem two_cells {l : List Value} (h : l.length = 2) : ∃ a b, l = [a, b] := by
  match l, h with
  | [a, b], _ => exact ⟨a, b, rfl⟩
theorem weight_at {P : Program} {ts : List TypeId} {ds : List (DataW H)} {j : Nat} {t : TypeId} {s : List UInt8} (h : ∀ m ∈ DataW.weightsEach P ts ds, m ≤ reachBytes) (ht : ts[j]? = some t) (hd : ds[j]? = some (.lit (.string s))) : s.length ≤ 140737488351232 :=
  Nat.le_trans (h _ (DataW.weights_mem_each ht hd _ (by simp [DataW.weights]))) (by decide)
set_option maxRecDepth 20000 in
theorem en_shape (n : Nat) (cs : List Value) (x : DataW H × List MemPlace) (h : DataW.trod enc Tryz.prog W base (fun _ => true) true n 23 cs = some x) : ∃ a : En, cs = a.cells ∧ ∃ xs : List (DataW H), x.1 = .agg xs ∧ xs[0]? = some (.lit (.string a.path)) ∧ xs[1]? = some (.lit (.string a.data)) := by
  obtain ⟨xs, m, rfl, rfl, hl, hlen, hf⟩ := DataW.trod_struct Tryz.underlying23 h
  obtain ⟨c0, c1, rfl⟩ := two_cells (hl.trans (by kernel_rfl))
  have g : ∀ i (hi : i < 2), ∃ y, xs[i]? = some y := fun i hi => ⟨_, List.getElem?_eq_getElem (by rw [hlen]; exact hi)⟩
  obtain ⟨y0, e0⟩ := g 0 (by omega)
  obtain ⟨y1, e1⟩ := g 1 (by omega)
  have f0 : DataW.trod enc Tryz.prog W base (fun _ => true) true m 9 ((([c0, c1] : List Value).drop 0).take (Tryz.prog.cellsOf 9)) = some y0 := (hf 0 _ rfl).trans e0
  have f1 : DataW.trod enc Tryz.prog W base (fun _ => true) true m 9 ((([c0, c1] : List Value).drop 1).take (Tryz.prog.cellsOf 9)) = some y1 := (hf 1 _ rfl).trans e1
  rw [show Tryz.prog.cellsOf 9 = 1 by kernel_rfl] at f0 f1
  simp only [List.drop_zero, List.drop_succ_cons, List.take_succ_cons, List.take_zero] at f0 f1
  obtain ⟨s0, h0, hy0, w0⟩ := DataW.trod_string Tryz.underlying9 f0
  obtain ⟨s1, h1, hy1, w1⟩ := DataW.trod_string Tryz.underlying9 f1
  simp only [List.cons.injEq, and_true] at h0 h1
  subst h0 h1
  refine ⟨⟨s0.data.toList, s1.data.toList⟩, rfl, xs.map (·.1), rfl, ?_, ?_⟩
  · rw [List.getElem?_map, e0, hy0]; rfl
  · rw [List.getElem?_map, e1, hy1]; rfl
set_option maxRecDepth 20000 in
theorem en_step (n : Nat) (cs : List Value) (x : DataW H × List MemPlace) (h : DataW.trod enc Tryz.prog W base (fun _ => true) true n 23 cs = some x) (hw : ∀ m ∈ x.1.weights Tryz.prog 23, m ≤ reachBytes) : ∃ a : En, cs = a.cells ∧ EnOk a := by
  obtain ⟨a, h1, xs, h2, h3, h4⟩ := en_shape n cs x h
  have hwe : ∀ k ∈ DataW.weightsEach Tryz.prog [9, 9] xs, k ≤ reachBytes := fun k hk => hw k (by
    rw [h2]
    simp only [DataW.weights, Tryz.underlying23]
    exact hk)
  exact ⟨a, h1, ⟨weight_at (j := 0) hwe rfl h3, weight_at (j := 1) hwe rfl h4⟩⟩
set_option maxRecDepth 20000 in
theorem open_Entry (hval : Value.okWide Tryz.prog W r b0 31 v) (hd : DataW.Trod enc Tryz.prog W base (fun _ => true) true 31 v d p)
    {ts : List TypeId} {ds : List (DataW H)} (hsz : (DataW.weightsEach Tryz.prog ts ds).all (· ≤ reachBytes) = true) {j : Nat} (hj : ts[j]? = some 31) (hdj : ds[j]? = some d) :
    ∃ (l : List En) (A : Option Addr) (cap : Nat), v = .slice A l.length cap ∧ ((∀ x ∈ l, EnOk x) ∧ l.length ≤ 140737488355328) ∧ Sl W W.heap.size A (ensV l) := by
  obtain ⟨l, A, cap, h1, h2, _, h4, _, h3⟩ := open_slG (α := En) En.cells EnOk (c := 2) (fun _ => rfl) Tryz.underlying31 (by kernel_rfl) (fun n cs x hx hw _ => en_step n cs x hx hw) hval hd hsz hj hdj
  refine ⟨l, A, cap, h1, ⟨h2, ?_⟩, h3⟩
  rw [show Tryz.prog.bytesOf 23 = 32 by kernel_rfl] at h4
  simp only [reachBytes] at h4
  omega
end
theorem mlen_of {w : World} (h : w.ShapedOpen Tryz.prog) : ∃ m : Int, w.cell? ⟨0, 0, none⟩ = some (.int .i64 m) := Tryz.laysM219.s1_3 w h
theorem tab_of {W : World} (h : laidMetH Tryz.prog Rows.tarEntriesRow.laid W) : Tab W := by
  have h2 : laidMet Tryz.prog [("internal/strconv.uint64pow10", Lib.tabData .u64 Lib.pow10Tab)] W := laidMet.tail (laidMet.tail h)
  exact Lib.tabBelow_of_tabIs (Lib.tabIs_of_head (rest := []) (g := 1) (by kernel_rfl) (by kernel_rfl) Tryz.underlying179 Tryz.underlying142 (by kernel_rfl) (by kernel_rfl) h2)
def okB (l : List En) : Bool := l.all fun x => decide (checkP x.path = 0)
theorem okB_snoc (l : List En) (x : En) : okB (l ++ [x]) = (okB l && decide (checkP x.path = 0)) := by simp [okB]
theorem okB_true {l : List En} : okB l = true ↔ ∀ x ∈ l, checkP x.path = 0 := by simp [okB]
theorem light_data {l : List En} (h : hv l ≤ 40000) : ∀ x ∈ l, x.path.length ≤ 40000 ∧ x.data.length ≤ 40000 := fun x hx => by
  have := hv_mem hx
  omega
theorem packT_bad {l : List En} (h : hv l ≤ 40000) (hm : ¬ ∀ x ∈ l, checkP x.path = 0) : packT l = ([], 140) := by
  have key : ∀ l : List En, hv l ≤ 40000 → (¬ ∀ x ∈ l, checkP x.path = 0) → errT l = 140 := by
    intro l
    induction l with
    | nil => intro _ hm; exact absurd (fun x hx => by cases hx) hm
    | cons x l ih =>
      intro h hm
      simp only [hv] at h
      unfold errT
      by_cases c : checkP x.path = 0
      · rw [if_neg (by omega), if_neg (by omega)]
        refine ih (by omega) fun q => hm fun y hy => ?_
        rcases List.mem_cons.1 hy with rfl | hy
        · exact c
        · exact q y hy
      · rw [if_pos c]
  unfold packT
  rw [key l h hm, if_pos (by decide)]
theorem packT_good {l : List En} (h : okL l) : packT l = (catT l ++ nul 1024, 0) := by
  unfold packT
  rw [if_neg (by rw [errT_ok h]; decide)]
end Go.Proofs.YtjgeoeeikfjmdaaGreatDoor
/- tar: the document's sectors. -/
namespace Go.Proofs.YtjgeoeeikfjmdaaGreatDoor
set_option linter.unnecessarySimpa false
open Go.RowKit Fld Ust Pax Pth Tar
set_option linter.unusedVariables false
set_option linter.unusedSimpArgs false

theorem digit_at18 (d : Nat) (h : d < 10) : (List.drop d ([48, 49, 50, 51, 52, 53, 54, 55, 56, 57] : List UInt8)).take (d + 1 - d) = [dgt d] := by
  have : ∀ d : Fin 10, (List.drop d.val ([48, 49, 50, 51, 52, 53, 54, 55, 56, 57] : List UInt8)).take (d.val + 1 - d.val) = [dgt d.val] := by decide +kernel
  exact this ⟨d, h⟩
theorem nDigits_len18 (n : Nat) (h : n < 18446744073709551616) : (Lib.decDigits n).length ≤ 20 := by
  rw [Lib.decDigits_length]
  exact Lib.nDigits_le20 n h
theorem rdigits_s (m : Nat) (h1 : m ≤ 9223372036854775807) (w : World) :
    Ret Tryz.prog 82 [.int .i64 (m : Int)] w fun v w' => v = str (Lib.decDigits m) ∧ w = w' := by
  have hlen := nDigits_len18 m (by omega)
  refine Ret.enter Tryz.func82 rfl Tryz.ntmps82 (by kernel_rfl) rfl ?_
  refine KW.seq (KW.region ?_)
  refine OW.val rfl rfl (EX.assign rfl) ?_
  refine OW.nil ?_
  refine KW.seq (KW.seq (KW.region ?_))
  refine OW.val rfl rfl (EX.move rfl) ?_
  refine OW.val rfl rfl (by first | exact EX.lssN (b := 0) rfl rfl | exact EX.lssZ rfl rfl) ?_
  refine OW.nil ?_
  refine KW.condD rfl (fun h => ?_) (fun h => ?_)
  · omega
  · refine KW.skip (KW.seq (KW.region ?_))
    refine OW.val rfl rfl (EX.move rfl) ?_
    refine OW.val rfl rfl (by first | exact EX.remN (b := 10) rfl rfl (by omega) | exact EX.remZ rfl rfl (by decide)) ?_
    refine OW.val rfl rfl (EX.assign rfl) ?_
    refine OW.nil ?_
    refine KW.seq (KW.region ?_)
    refine OW.val rfl rfl (EX.move rfl) ?_
    refine OW.val rfl rfl (EX.move rfl) ?_
    refine OW.val rfl rfl (by first | exact EX.addN (b := 1) (m := 9223372036854775807) rfl rfl rfl (by omega) | exact EX.addZ (m := 9223372036854775807) rfl rfl rfl rfl (by omega)) ?_
    refine OW.val rfl rfl (EX.sliceLH (s := [48, 49, 50, 51, 52, 53, 54, 55, 56, 57]) Tryz.underlying9 rfl rfl rfl (by simp only [List.length_cons, List.length_nil]; omega)) ?_
    refine OW.val rfl rfl (EX.assign rfl) ?_
    refine OW.nil ?_
    refine KW.seq (KW.block ?_)
    refine KW.as 4 (str ([dgt (m % 10)])) rfl (by rw [digit_at18 _ (by omega)]) ?_
    refine KW.loop2 (fun (x : Nat) (l : List UInt8) => x ≤ m ∧ Lib.decDigits m = Lib.decDigits x ++ l) (fun (x : Nat) (l : List UInt8) => [(0, .int .i64 ((x : Nat) : Int)), (4, str ((dgt (x % 10) :: l)))]) (fun (x : Nat) (l : List UInt8) => w) (fun (x : Nat) (l : List UInt8) => x) (m) ([]) ⟨rfl, rfl, trivial⟩ rfl ?_ ?_
    · exact ⟨by omega, by simp⟩
    · rintro x l ⟨hx, he⟩
      have hl : l.length ≤ 20 := by rw [he, List.length_append] at hlen; omega
      refine KW.seq (KW.seq (KW.region ?_))
      refine OW.val rfl rfl (EX.move rfl) ?_
      refine OW.val rfl rfl (by first | exact EX.geqN (b := 10) rfl rfl | exact EX.geqZ rfl rfl) ?_
      refine OW.nil ?_
      refine KW.condD rfl (fun h2 => ?_) (fun h2 => ?_)
      · refine KW.skip (KW.block (KW.seq (KW.region ?_)))
        refine OW.val rfl rfl (EX.move rfl) ?_
        refine OW.val rfl rfl (EX.quoN (b := 10) (m := 9223372036854775807) rfl rfl rfl (by omega)) ?_
        refine OW.val rfl rfl (EX.assign rfl) ?_
        refine OW.nil ?_
        refine KW.seq (KW.region ?_)
        refine OW.val rfl rfl (EX.move rfl) ?_
        refine OW.val rfl rfl (by first | exact EX.remN (b := 10) rfl rfl (by omega) | exact EX.remZ rfl rfl (by decide)) ?_
        refine OW.val rfl rfl (EX.assign rfl) ?_
        refine OW.nil ?_
        refine KW.region ?_
        refine OW.val rfl rfl (EX.move rfl) ?_
        refine OW.val rfl rfl (EX.move rfl) ?_
        refine OW.val rfl rfl (by first | exact EX.addN (b := 1) (m := 9223372036854775807) rfl rfl rfl (by omega) | exact EX.addZ (m := 9223372036854775807) rfl rfl rfl rfl (by omega)) ?_
        refine OW.val rfl rfl (EX.sliceLH (s := [48, 49, 50, 51, 52, 53, 54, 55, 56, 57]) Tryz.underlying9 rfl rfl rfl (by simp only [List.length_cons, List.length_nil]; omega)) ?_
        refine OW.val rfl rfl (EX.move rfl) ?_
        refine OW.val rfl rfl (EX.addS rfl rfl (by first | omega | (simp only [List.length_append, List.length_cons, List.length_nil, List.length_take, List.length_drop, List.length_replicate]; omega))) ?_
        refine OW.val rfl rfl (EX.assign rfl) ?_
        refine OW.nil ?_
        refine KW.leave ?_
        refine KW.as 4 (str ((dgt (x / 10 % 10) :: dgt (x % 10) :: l))) rfl (by rw [digit_at18 _ (by omega)]; rfl) ?_
        refine KW.back2 (x / 10) (dgt (x % 10) :: l) ⟨rfl, rfl, trivial⟩ rfl ?_ (by omega)
        refine ⟨by omega, ?_⟩
        rw [he, dec_step (by omega : ¬ x < 10), List.append_assoc]
        rfl
      · refine KW.exit rfl (KW.seq (KW.region ?_))
        refine OW.val rfl rfl (EX.move rfl) ?_
        refine OW.val rfl rfl (EX.assign rfl) ?_
        refine OW.nil ?_
        refine KW.ret (ret1 rfl rfl ?_)
        rw [he, dec_small (by omega : x < 10), Nat.mod_eq_of_lt (by omega : x < 10)]
        exact ⟨rfl, rfl⟩
theorem pmay_s (key : List UInt8) (hk : key.length ≤ 140737488355328) (w : World) : Ret Tryz.prog 51 [str key] w fun v w' => v = .bool (okK key) ∧ w = w' := by
  refine Ret.enter Tryz.func51 rfl Tryz.ntmps51 (by kernel_rfl) rfl ?_
  refine KW.seq (KW.region ?_)
  refine OW.val rfl rfl (EX.assign rfl) ?_
  refine OW.nil ?_
  refine KW.seq (KW.seq (KW.region ?_))
  refine OW.val rfl rfl (EX.assign rfl) ?_
  refine OW.nil ?_
  refine KW.block ?_
  refine KW.loop1 (fun (i : Nat) => i ≤ key.length ∧ (61 : UInt8) ∉ key.take i) (fun (i : Nat) => [(0, str (key)), (3, .int .i64 ((i : Nat) : Int))]) (fun (i : Nat) => w) (fun (i : Nat) => key.length - i) (0) ⟨rfl, rfl, trivial⟩ rfl ?_ ?_
  · exact ⟨Nat.zero_le _, by simp⟩
  · rintro i ⟨hi, hn⟩
    refine KW.seq (KW.seq (KW.region ?_))
    refine OW.val rfl rfl (EX.move rfl) ?_
    refine OW.val rfl rfl (EX.move rfl) ?_
    refine OW.val rfl rfl (EX.lenS Tryz.underlying9 rfl) ?_
    refine OW.val rfl rfl (by first | exact EX.lssN rfl rfl | exact EX.lssZ rfl rfl) ?_
    refine OW.nil ?_
    refine KW.condD rfl (fun hl => ?_) (fun hl => ?_)
    · refine KW.skip (KW.seq (KW.block (KW.seq (KW.region ?_))))
      refine OW.val rfl rfl (EX.move rfl) ?_
      refine OW.val rfl rfl (EX.move rfl) ?_
      refine OW.val rfl rfl (EX.indexS Tryz.underlying9 rfl rfl (List.getElem?_eq_getElem (by omega))) ?_
      refine OW.val rfl rfl (by first | exact EX.eqlN (b := 61) rfl rfl | exact EX.eqlZ rfl rfl) ?_
      refine OW.nil ?_
      refine KW.condD rfl (fun h61 => ?_) (fun h61 => ?_)
      · have hc : key[i] = 61 := UInt8.toNat_inj.1 (by rw [h61]; rfl)
        have e : okK key = false := by
          unfold okK
          rw [decide_eq_false_iff_not]
          exact fun z => z.2 (hc ▸ List.getElem_mem hl)
        refine KW.seq (KW.region ?_)
        refine OW.val rfl rfl (EX.assign rfl) ?_
        refine OW.nil ?_
        refine KW.ret (ret1 rfl rfl ?_)
        rw [e]
        exact ⟨rfl, rfl⟩
      · refine KW.skip (KW.leave (KW.region ?_))
        refine OW.val rfl rfl (EX.move rfl) ?_
        refine OW.val rfl rfl (by first | exact EX.addN (b := 1) (m := 9223372036854775807) rfl rfl rfl (by omega) | exact EX.addZ (m := 9223372036854775807) rfl rfl rfl rfl (by omega)) ?_
        refine OW.val rfl rfl (EX.assign rfl) ?_
        refine OW.nil ?_
        refine KW.back1 (i + 1) ⟨rfl, rfl, trivial⟩ rfl ?_ (by omega)
        refine ⟨by omega, ?_⟩
        rw [← List.take_append_getElem hl]
        simp only [List.mem_append, List.mem_singleton, not_or]
        exact ⟨hn, fun z => h61 (by rw [← z]; rfl)⟩
    · obtain rfl : i = key.length := by omega
      rw [List.take_length] at hn
      refine KW.exit rfl (KW.seq (KW.region ?_))
      refine OW.val rfl rfl (EX.move rfl) ?_
      refine OW.val rfl rfl (EX.neqS (r := []) rfl rfl) ?_
      refine OW.val rfl rfl (EX.assign rfl) ?_
      refine OW.nil ?_
      refine KW.ret (ret1 rfl rfl ?_)
      refine ⟨congrArg Value.bool ?_, rfl⟩
      unfold okK
      exact decide_eq_decide.2 ⟨fun h => ⟨h, hn⟩, fun h => h.1⟩
theorem first_small : ∀ r, r < 200 → ∀ d, d < 4 → (1 ≤ d ∧ d < dOf r → dl (d + r) ≠ d) := by decide +kernel
theorem precord_s (p : Pr) (h : rest p < 200) (w : World) : Ret Tryz.prog 52 [.agg p.cells.toArray] w fun v w' => v = str (recT p) ∧ Ext w w' := by
  have hfx := fix_small _ h
  have hfi := first_small _ h
  have hr0 : rest p = p.key.length + p.val.length + 3 := rfl
  obtain ⟨R, hR⟩ : ∃ R, R = [32] ++ p.key ++ [61] ++ p.val ++ [10] := ⟨_, rfl⟩
  have hRl : R.length = rest p := by rw [hR, hr0]; simp; omega
  have hrt : recT p = Lib.decDigits (dOf (rest p) + rest p) ++ R := by rw [hR]; simp [recT, sizeP]
  have hdl : (Lib.decDigits (dOf (rest p) + rest p)).length = dOf (rest p) := hfx.1
  refine Ret.enter Tryz.func52 rfl Tryz.ntmps52 (by kernel_rfl) rfl ?_
  refine KW.seq (KW.region ?_)
  refine OW.boxS rfl rfl rfl ?_
  rintro pb w1 hge1 hp1 hx1
  refine OW.val rfl rfl (EX.assign rfl) ?_
  refine OW.nil ?_
  refine KW.seq (KW.region ?_)
  refine OW.val rfl rfl (EX.fieldAddr (off := 0) Tryz.underlying49 rfl rfl ti9 rfl rfl) ?_
  replace hp1 : Bk w1 pb 49 p.cells := hp1
  refine OW.val rfl rfl (EX.load Tryz.underlying9 rfl rfl (hp1.cell_of rfl)) ?_
  refine OW.val rfl rfl (EX.addS (s := [32]) rfl rfl (by first | omega | (simp only [List.length_append, List.length_cons, List.length_nil, List.length_take, List.length_drop, List.length_replicate]; omega))) ?_
  refine OW.val rfl rfl (EX.addS (r := [61]) rfl rfl (by first | omega | (simp only [List.length_append, List.length_cons, List.length_nil, List.length_take, List.length_drop, List.length_replicate]; omega))) ?_
  refine OW.val rfl rfl (EX.fieldAddr (off := 1) Tryz.underlying49 rfl rfl ti9 rfl rfl) ?_
  refine OW.val rfl rfl (EX.load Tryz.underlying9 rfl rfl (hp1.cell_of rfl)) ?_
  refine OW.val rfl rfl (EX.addS rfl rfl (by first | omega | (simp only [List.length_append, List.length_cons, List.length_nil, List.length_take, List.length_drop, List.length_replicate]; omega))) ?_
  refine OW.val rfl rfl (EX.addS (r := [10]) rfl rfl (by first | omega | (simp only [List.length_append, List.length_cons, List.length_nil, List.length_take, List.length_drop, List.length_replicate]; omega))) ?_
  refine OW.val rfl rfl (EX.assign rfl) ?_
  refine OW.nil ?_
  refine KW.seq (KW.seq (KW.region ?_))
  refine OW.val rfl rfl (EX.assign rfl) ?_
  refine OW.nil ?_
  refine KW.block ?_
  refine KW.as 3 (str (R)) rfl (by rw [hR]) ?_
  refine KW.loop1 (fun (d : Nat) => 1 ≤ d ∧ d ≤ dOf (rest p)) (fun (d : Nat) => [(3, str (R)), (4, .int .i64 ((d : Nat) : Int))]) (fun (d : Nat) => w1) (fun (d : Nat) => 20 - d) (1) ⟨rfl, rfl, trivial⟩ rfl ?_ ?_
  · exact ⟨Nat.le_refl _, hfx.2.1⟩
  · rintro d ⟨hd1, hd2⟩
    have c1 := rdigits_s (d + R.length) (by omega) w1
    have hlr : ∀ q, (Lib.decDigits q).length = dl q := fun _ => rfl
    have hsm : d < dOf (rest p) → dl (d + rest p) ≠ d := fun z => hfi d (by omega) ⟨hd1, z⟩
    rw [← hRl] at hsm hrt hdl
    refine KW.seq (KW.seq (KW.region ?_))
    refine OW.val rfl rfl (EX.move rfl) ?_
    refine OW.val rfl rfl (by first | exact EX.lssN (b := 20) rfl rfl | exact EX.lssZ rfl rfl) ?_
    refine OW.nil ?_
    refine KW.condD rfl (fun h20 => ?_) (fun h20 => ?_)
    · refine KW.skip (KW.seq (KW.block (KW.seq (KW.region ?_))))
      refine OW.val rfl rfl (EX.move rfl) ?_
      refine OW.val rfl rfl (EX.move rfl) ?_
      refine OW.val rfl rfl (EX.lenS Tryz.underlying9 rfl) ?_
      refine OW.val rfl rfl (by first | exact EX.addN (m := 9223372036854775807) rfl rfl rfl (by omega) | exact EX.addZ (m := 9223372036854775807) rfl rfl rfl rfl (by omega)) ?_
      refine OW.call rfl rfl rfl (c1) ?_
      rintro _ _ ⟨rfl, rfl⟩
      refine OW.val rfl rfl (EX.assign rfl) ?_
      refine OW.nil ?_
      refine KW.seq (KW.region ?_)
      refine OW.val rfl rfl (EX.move rfl) ?_
      refine OW.val rfl rfl (EX.lenS Tryz.underlying9 rfl) ?_
      refine OW.val rfl rfl (EX.move rfl) ?_
      refine OW.val rfl rfl (by first | exact EX.eqlN rfl rfl | exact EX.eqlZ rfl rfl) ?_
      refine OW.nil ?_
      refine KW.condD rfl (fun heq => ?_) (fun heq => ?_)
      · have hde : d = dOf R.length := by
          rw [hRl]
          rcases Nat.lt_or_ge d (dOf (rest p)) with q | q
          · exact absurd heq (by rw [hRl]; have := hsm (by rw [hRl]; exact q); rwa [hRl] at this)
          · omega
        refine KW.seq (KW.region ?_)
        refine OW.val rfl rfl (EX.move rfl) ?_
        refine OW.val rfl rfl (EX.move rfl) ?_
        refine OW.val rfl rfl (EX.addS rfl rfl (by first | omega | (simp only [List.length_append, List.length_cons, List.length_nil, List.length_take, List.length_drop, List.length_replicate]; omega))) ?_
        refine OW.val rfl rfl (EX.assign rfl) ?_
        refine OW.nil ?_
        refine KW.ret (ret1 rfl rfl ?_)
        rw [hrt, ← hde]
        exact ⟨rfl, hx1⟩
      · refine KW.skip (KW.leave (KW.region ?_))
        refine OW.val rfl rfl (EX.move rfl) ?_
        refine OW.val rfl rfl (by first | exact EX.addN (b := 1) (m := 9223372036854775807) rfl rfl rfl (by omega) | exact EX.addZ (m := 9223372036854775807) rfl rfl rfl rfl (by omega)) ?_
        refine OW.val rfl rfl (EX.assign rfl) ?_
        refine OW.nil ?_
        refine KW.back1 (d + 1) ⟨rfl, rfl, trivial⟩ rfl ?_ (by omega)
        refine ⟨by omega, ?_⟩
        rcases Nat.lt_or_ge d (dOf (rest p)) with q | q
        · omega
        · exfalso
          have e : d = dOf (rest p) := by omega
          apply heq
          rw [e, ← hRl]
          exact hdl
    · omega
set_option maxRecDepth 20000 in
theorem rpencode_s (p : Pr) (h : rest p < 200) (hk : okK p.key = true) (A : Option Addr) (c B : Nat) (w : World) (hs : Sl w B A (prsV [p])) :
    Ret Tryz.prog 27 [.slice A 1 c] w fun v w' => v = .tuple #[str (recT p), .int .i64 ((0 : Nat) : Int)] ∧ Ext w w' := by
  have hr0 : rest p = p.key.length + p.val.length + 3 := rfl
  have hrl := rec_len h
  have hfx := fix_small _ h
  have hsz : sizeP p = dOf (rest p) + rest p := rfl
  have m1 := fun w => pmay_s p.key (by omega) w
  rw [hk] at m1
  refine Ret.enter Tryz.func27 rfl Tryz.ntmps27 (by kernel_rfl) rfl ?_
  refine KW.seq (KW.region ?_)
  refine OW.val rfl rfl (EX.assign rfl) ?_
  refine OW.val rfl rfl (EX.assign rfl) ?_
  refine OW.nil ?_
  refine KW.seq (KW.seq (KW.region ?_))
  refine OW.val rfl rfl (EX.assign rfl) ?_
  refine OW.nil ?_
  refine KW.cut1 (fun (wr : World) => Ext w wr) (fun (wr : World) => [(0, .slice A 1 c)]) (fun (wr : World) => wr) ?_ ?_
  · refine KW.block ?_
    refine KW.loop2 (fun (i : Nat) (wr : World) => i ≤ 1 ∧ Ext w wr) (fun (i : Nat) (wr : World) => [(0, .slice A 1 c), (4, .int .i64 ((i : Nat) : Int))]) (fun (i : Nat) (wr : World) => wr) (fun (i : Nat) (wr : World) => 1 - i) (0) (w) ⟨rfl, rfl, trivial⟩ rfl ?_ ?_
    · exact ⟨Nat.zero_le _, Ext.refl _⟩
    · rintro i wr ⟨hi, hx⟩
      refine KW.seq (KW.seq (KW.region ?_))
      refine OW.val rfl rfl (EX.move rfl) ?_
      refine OW.val rfl rfl (EX.move rfl) ?_
      refine OW.val rfl rfl (EX.lenA Tryz.underlying50 rfl) ?_
      refine OW.val rfl rfl (by first | exact EX.lssN rfl rfl | exact EX.lssZ rfl rfl) ?_
      refine OW.nil ?_
      refine KW.condD rfl (fun hlt => ?_) (fun hlt => ?_)
      · obtain rfl : i = 0 := by omega
        obtain ⟨b, o, rfl, _, hcell⟩ := (hs.ext hx).flat (l := [p]) (i := 0) (c := 2) (fun _ => rfl) (by decide) (Nat.zero_lt_succ _)
        refine KW.skip (KW.seq (KW.block (KW.seq (KW.region ?_))))
        refine OW.val rfl rfl (EX.move rfl) ?_
        refine OW.val rfl rfl (EX.move rfl) ?_
        refine OW.val rfl rfl (EX.indexAddrS Tryz.underlying50 ti49 rfl rfl (by omega)) ?_
        refine OW.val rfl rfl (EX.fieldAddr (off := 0) Tryz.underlying49 rfl rfl ti9 rfl rfl) ?_
        refine OW.val rfl rfl (EX.load Tryz.underlying9 rfl rfl (hcell 0 _ rfl)) ?_
        refine OW.call rfl rfl rfl (m1 wr) ?_
        rintro _ _ ⟨rfl, rfl⟩
        refine OW.val rfl rfl (by first | exact EX.notD rfl | exact EX.notB rfl) ?_
        refine OW.nil ?_
        refine KW.condF rfl (KW.skip (KW.leave (KW.region ?_)))
        refine OW.val rfl rfl (EX.move rfl) ?_
        refine OW.val rfl rfl (by first | exact EX.addN (b := 1) (m := 9223372036854775807) rfl rfl rfl (by omega) | exact EX.addZ (m := 9223372036854775807) rfl rfl rfl rfl (by omega)) ?_
        refine OW.val rfl rfl (EX.assign rfl) ?_
        refine OW.nil ?_
        refine KW.back2 (1) (wr) ⟨rfl, rfl, trivial⟩ rfl ?_ (by omega)
        exact ⟨by omega, hx⟩
      · refine KW.exit rfl ?_
        refine KW.meet1 (wr) ⟨rfl, trivial⟩ rfl ?_
        exact hx
  · rintro wr hx
    refine KW.seq (KW.region ?_)
    refine OW.val rfl rfl (EX.assign rfl) ?_
    refine OW.nil ?_
    refine KW.seq (KW.seq (KW.region ?_))
    refine OW.val rfl rfl (EX.assign rfl) ?_
    refine OW.nil ?_
    refine KW.block ?_
    refine KW.loop3 (fun (i : Nat) (out : (List UInt8)) (wr : World) => ((i = 0 ∧ out = []) ∨ (i = 1 ∧ out = recT p)) ∧ Ext w wr) (fun (i : Nat) (out : (List UInt8)) (wr : World) => [(0, .slice A 1 c), (5, str (out)), (6, .int .i64 ((i : Nat) : Int))]) (fun (i : Nat) (out : (List UInt8)) (wr : World) => wr) (fun (i : Nat) (out : (List UInt8)) (wr : World) => 1 - i) (0) ([]) (wr) ⟨rfl, rfl, rfl, trivial⟩ rfl ?_ ?_
    · exact ⟨.inl ⟨rfl, rfl⟩, hx⟩
    · rintro i out wr ⟨hi, hx⟩
      have hol : out.length ≤ 300 := by rcases hi with ⟨_, rfl⟩ | ⟨_, rfl⟩ <;> (try simp) <;> omega
      refine KW.seq (KW.seq (KW.region ?_))
      refine OW.val rfl rfl (EX.move rfl) ?_
      refine OW.val rfl rfl (EX.move rfl) ?_
      refine OW.val rfl rfl (EX.lenA Tryz.underlying50 rfl) ?_
      refine OW.val rfl rfl (by first | exact EX.lssN rfl rfl | exact EX.lssZ rfl rfl) ?_
      refine OW.nil ?_
      refine KW.condD rfl (fun hlt => ?_) (fun hlt => ?_)
      · obtain ⟨rfl, rfl⟩ : i = 0 ∧ out = [] := by
          rcases hi with h | ⟨h, _⟩
          · exact h
          · omega
        obtain ⟨b, o, rfl, _, hcell⟩ := (hs.ext hx).flat (l := [p]) (i := 0) (c := 2) (fun _ => rfl) (by decide) (Nat.zero_lt_succ _)
        refine KW.skip (KW.seq (KW.block (KW.seq (KW.region ?_))))
        refine OW.val rfl rfl (EX.move rfl) ?_
        refine OW.val rfl rfl (EX.move rfl) ?_
        refine OW.val rfl rfl (EX.move rfl) ?_
        refine OW.val rfl rfl (EX.indexAddrS Tryz.underlying50 ti49 rfl rfl (by omega)) ?_
        refine OW.val rfl rfl (EX.loadA (l := p.cells) Tryz.underlying49 rfl ti49 rfl rfl hcell) ?_
        refine OW.call rfl rfl rfl (precord_s p h wr) ?_
        rintro _ w2 ⟨rfl, hx2⟩
        refine OW.val rfl rfl (EX.addS rfl rfl (by first | omega | (simp only [List.length_append, List.length_cons, List.length_nil, List.length_take, List.length_drop, List.length_replicate]; omega))) ?_
        refine OW.val rfl rfl (EX.assign rfl) ?_
        refine OW.nil ?_
        refine KW.seq (KW.region ?_)
        refine OW.val rfl rfl (EX.move rfl) ?_
        refine OW.val rfl rfl (EX.lenS Tryz.underlying9 rfl) ?_
        refine OW.val rfl rfl (by first | exact EX.gtrN (b := 262144) rfl rfl | exact EX.gtrZ rfl rfl) ?_
        refine OW.nil ?_
        refine KW.condD rfl (fun hbig => ?_) (fun hbig => ?_)
        · simp only [List.nil_append] at hbig
          omega
        · refine KW.skip (KW.leave (KW.region ?_))
          refine OW.val rfl rfl (EX.move rfl) ?_
          refine OW.val rfl rfl (by first | exact EX.addN (b := 1) (m := 9223372036854775807) rfl rfl rfl (by omega) | exact EX.addZ (m := 9223372036854775807) rfl rfl rfl rfl (by omega)) ?_
          refine OW.val rfl rfl (EX.assign rfl) ?_
          refine OW.nil ?_
          refine KW.back3 (1) (recT p) (w2) ⟨rfl, rfl, rfl, trivial⟩ rfl ?_ (by omega)
          exact ⟨.inr ⟨rfl, rfl⟩, hx.trans hx2⟩
      · obtain ⟨rfl, rfl⟩ : i = 1 ∧ out = recT p := by
          rcases hi with ⟨h, _⟩ | h
          · omega
          · exact h
        refine KW.exit rfl (KW.seq (KW.region ?_))
        refine OW.val rfl rfl (EX.move rfl) ?_
        refine OW.val rfl rfl (EX.assign rfl) ?_
        refine OW.val rfl rfl (EX.assign rfl) ?_
        refine OW.nil ?_
        refine KW.ret (ret2 rfl rfl rfl ?_)
        exact ⟨rfl, hx⟩
theorem rfilled_s (s : List UInt8) (hs : s.length ≤ 1000000) (w : World) : Ret Tryz.prog 50 [str s] w fun v w' => v = str (s ++ nul (fil s.length - s.length)) ∧ Ext w w' := by
  refine Ret.enter Tryz.func50 rfl Tryz.ntmps50 (by kernel_rfl) rfl ?_
  refine KW.seq (KW.region ?_)
  refine OW.val rfl rfl (EX.assign rfl) ?_
  refine OW.nil ?_
  refine KW.seq (KW.region ?_)
  refine OW.val rfl rfl (EX.move rfl) ?_
  refine OW.val rfl rfl (EX.lenS Tryz.underlying9 rfl) ?_
  refine OW.val rfl rfl (by first | exact EX.remN (b := 512) rfl rfl (by omega) | exact EX.remZ rfl rfl (by decide)) ?_
  refine OW.val rfl rfl (EX.assign rfl) ?_
  refine OW.nil ?_
  refine KW.seq (KW.seq (KW.region ?_))
  refine OW.val rfl rfl (EX.move rfl) ?_
  refine OW.val rfl rfl (by first | exact EX.eqlN (b := 0) rfl rfl | exact EX.eqlZ rfl rfl) ?_
  refine OW.nil ?_
  refine KW.condD rfl (fun h0 => ?_) (fun h0 => ?_)
  · have e : s ++ nul (fil s.length - s.length) = s := by
      have : fil s.length - s.length = 0 := by unfold fil; omega
      rw [this]
      simp [nul]
    refine KW.seq (KW.region ?_)
    refine OW.val rfl rfl (EX.move rfl) ?_
    refine OW.val rfl rfl (EX.assign rfl) ?_
    refine OW.nil ?_
    refine KW.ret (ret1 rfl rfl ?_)
    rw [e]
    exact ⟨rfl, Ext.refl _⟩
  · have e : fil s.length - s.length = 512 - s.length % 512 := by unfold fil; omega
    rw [e]
    refine KW.skip (KW.seq (KW.region ?_))
    refine OW.val rfl rfl (EX.move rfl) ?_
    refine OW.val rfl rfl (EX.move rfl) ?_
    refine OW.val rfl rfl (by first | exact EX.subN (a := 512) (m := 9223372036854775807) rfl rfl rfl (by omega) | exact EX.subZ (m := 9223372036854775807) rfl rfl rfl rfl (by omega)) ?_
    refine OW.makeB rfl rfl Tryz.underlying55 ti5 rfl rfl rfl (by omega) (by omega) ?_
    rintro b w1 hge1 hb1 hx1
    rw [← bytesV_nul] at hb1
    have hnl := nul_length (512 - s.length % 512)
    refine OW.val rfl rfl (EX.strOf Tryz.underlying55 Tryz.underlying5 Tryz.underlying9 rfl (hb1.sl) (nul_length _)) ?_
    refine OW.val rfl rfl (EX.addS rfl rfl (by first | omega | (simp only [List.length_append, List.length_cons, List.length_nil, List.length_take, List.length_drop, List.length_replicate]; omega))) ?_
    refine OW.val rfl rfl (EX.assign rfl) ?_
    refine OW.nil ?_
    refine KW.ret (ret1 rfl rfl ?_)
    exact ⟨rfl, hx1⟩
theorem rpart_s (p : List UInt8) (k : Nat) (d : List UInt8) (g : Tar.Good p k d.length) (hp : p.length ≤ 1000000) (hk : k ≤ 255) (hd : d.length ≤ 1000000) (w : World) :
    Ret Tryz.prog 26 [str p, .int .u8 (k : Int), str d] w fun v w' => v = str (sect p k d) ∧ Ext w w' := by
  have c1 := rencode_s (hdOf p k d.length) (hdOf_ok hp hk (by omega)) w
  rw [g.enc] at c1
  have hl : (hdText (hdOf p k d.length)).length = 512 := g.len
  have hf := fil_ge d.length
  have hf2 := fil_le d.length
  have hnl : (nul (fil d.length - d.length)).length = fil d.length - d.length := nul_len _
  unfold sect
  generalize hdText (hdOf p k d.length) = h at c1 hl
  refine Ret.enter Tryz.func26 rfl Tryz.ntmps26 (by kernel_rfl) rfl ?_
  refine KW.seq (KW.region ?_)
  refine OW.val rfl rfl (EX.assign rfl) ?_
  refine OW.nil ?_
  refine KW.seq (KW.region ?_)
  refine OW.val rfl rfl (EX.move rfl) ?_
  refine OW.val rfl rfl (EX.move rfl) ?_
  refine OW.val rfl rfl (EX.move rfl) ?_
  refine OW.val rfl rfl (EX.lenS Tryz.underlying9 rfl) ?_
  refine OW.val rfl rfl (EX.buildS (pl := [(0, 1), (1, 1), (2, 1), (3, 1), (4, 1), (5, 1), (6, 2), (8, 2)]) (ks := [0, 2, 1, 3]) (is := [0, 2, 1, 3]) (zs := [str [], .int .i64 0, .int .u8 0, .int .i64 0, .int .i64 0, str [], str [], str [], .int .i64 0, .int .i64 0]) Tryz.underlying72 ti72 (by kernel_rfl) rfl rfl rfl (by first | rfl | (simp only [List.all_cons, List.all_nil, Bool.and_true, Bool.true_and, Bool.and_eq_true, Value.oneCell']; repeat (first | assumption | exact Own.one (by assumption) | constructor))) (by simp only [setAll, List.set_cons_zero, List.set_cons_succ]; rfl)) ?_
  refine OW.call rfl rfl rfl (c1) ?_
  rintro _ w1 ⟨rfl, hx1⟩
  refine OW.val rfl rfl (EX.move rfl) ?_
  refine OW.val rfl rfl (EX.extract rfl rfl) ?_
  refine OW.val rfl rfl (EX.extract rfl rfl) ?_
  refine OW.val rfl rfl (EX.assign rfl) ?_
  refine OW.val rfl rfl (EX.assign rfl) ?_
  refine OW.nil ?_
  refine KW.seq (KW.region ?_)
  refine OW.val rfl rfl (EX.move rfl) ?_
  refine OW.val rfl rfl (EX.move rfl) ?_
  refine OW.call rfl rfl rfl (rfilled_s d hd w1) ?_
  rintro _ w2 ⟨rfl, hx2⟩
  refine OW.val rfl rfl (EX.addS rfl rfl (by first | omega | (simp only [List.length_append, List.length_cons, List.length_nil, List.length_take, List.length_drop, List.length_replicate]; omega))) ?_
  refine OW.val rfl rfl (EX.assign rfl) ?_
  refine OW.nil ?_
  refine KW.ret (ret1 rfl rfl ?_)
  exact ⟨by rw [List.append_assoc], hx1.trans hx2⟩
set_option maxRecDepth 20000 in
theorem rentry_s (x : En) (hp : x.path.length ≤ 1000000000000) (hd : x.data.length ≤ 140737488355328) (w : World) :
    Ret Tryz.prog 10 [.agg x.cells.toArray] w fun v w' => v = .tuple #[str (entE x).1, .int .i64 (((entE x).2 : Nat) : Int)] ∧ Ext w w' := by
  refine Ret.enter Tryz.func10 rfl Tryz.ntmps10 (by kernel_rfl) rfl ?_
  refine KW.seq (KW.region ?_)
  refine OW.boxS rfl rfl rfl ?_
  rintro xb w1 hge1 hb1 hx1
  refine OW.val rfl rfl (EX.assign rfl) ?_
  refine OW.val rfl rfl (EX.assign rfl) ?_
  refine OW.nil ?_
  refine KW.seq (KW.seq (KW.region ?_))
  refine OW.val rfl rfl (EX.fieldAddr (off := 0) Tryz.underlying23 rfl rfl ti9 rfl rfl) ?_
  replace hb1 : Bk w1 xb 23 x.cells := hb1
  refine OW.val rfl rfl (EX.load Tryz.underlying9 rfl rfl (hb1.cell_of rfl)) ?_
  refine OW.call rfl rfl rfl (rcheck_s x.path hp w1) ?_
  rintro _ w2 ⟨rfl, hx2⟩
  refine OW.val rfl rfl (by first | exact EX.neqN (b := 0) rfl rfl | exact EX.neqZ rfl rfl) ?_
  refine OW.nil ?_
  have x2 := hx1.trans hx2
  have hb2 := hb1.ext hx2
  refine KW.condD rfl (fun hc => ?_) (fun hc => ?_)
  · have e : entE x = ([], 140) := by unfold entE; rw [if_pos (by omega)]
    refine KW.seq (KW.region ?_)
    refine OW.val rfl rfl (EX.assign rfl) ?_
    refine OW.val rfl rfl (EX.assign rfl) ?_
    refine OW.nil ?_
    refine KW.ret (ret2 rfl rfl rfl ?_)
    rw [e]
    exact ⟨rfl, x2⟩
  · have hc0 : checkP x.path = 0 := by omega
    obtain ⟨hcl, hne, h120, hz⟩ := check_clean hc0
    refine KW.skip (KW.seq (KW.seq (KW.region ?_)))
    refine OW.val rfl rfl (EX.fieldAddr (off := 1) Tryz.underlying23 rfl rfl ti9 rfl rfl) ?_
    refine OW.val rfl rfl (EX.load Tryz.underlying9 rfl rfl (hb2.cell_of rfl)) ?_
    refine OW.val rfl rfl (EX.lenS Tryz.underlying9 rfl) ?_
    refine OW.val rfl rfl (by first | exact EX.gtrN (b := 262144) rfl rfl | exact EX.gtrZ rfl rfl) ?_
    refine OW.nil ?_
    refine KW.condD rfl (fun hbig => ?_) (fun hbig => ?_)
    · have e : entE x = ([], 3) := by unfold entE; rw [if_neg (by omega), if_pos (by omega)]
      refine KW.seq (KW.region ?_)
      refine OW.val rfl rfl (EX.assign rfl) ?_
      refine OW.val rfl rfl (EX.assign rfl) ?_
      refine OW.nil ?_
      refine KW.ret (ret2 rfl rfl rfl ?_)
      rw [e]
      exact ⟨rfl, x2⟩
    · have hd2 : x.data.length ≤ 262144 := by omega
      have e : entE x = (entT x, 0) := by unfold entE; rw [if_neg (by omega), if_neg (by omega)]
      refine KW.skip (KW.seq (KW.region ?_))
      refine OW.val rfl rfl (EX.fieldAddr (off := 0) Tryz.underlying23 rfl rfl ti9 rfl rfl) ?_
      refine OW.val rfl rfl (EX.load Tryz.underlying9 rfl rfl (hb2.cell_of rfl)) ?_
      refine OW.call rfl rfl rfl (rsplit_s x.path (by omega) w2) ?_
      rintro _ w3 ⟨r, rfl, hr, hx3⟩
      refine OW.val rfl rfl (EX.move rfl) ?_
      refine OW.val rfl rfl (EX.extract rfl rfl) ?_
      refine OW.val rfl rfl (EX.extract rfl rfl) ?_
      refine OW.val rfl rfl (EX.extract rfl rfl) ?_
      refine OW.val rfl rfl (EX.assign rfl) ?_
      refine OW.val rfl rfl (EX.assign rfl) ?_
      refine OW.val rfl rfl (EX.assign rfl) ?_
      refine OW.nil ?_
      refine KW.seq (KW.seq (KW.region ?_))
      refine OW.val rfl rfl (EX.move rfl) ?_
      refine OW.nil ?_
      obtain rfl := split_val hr
      have x3 := x2.trans hx3
      have hb3 := hb2.ext hx3
      refine KW.cond rfl (fun hs => ?_) (fun hs => ?_)
      · have e2 : entT x = sect x.path 48 x.data := by unfold entT; rw [if_pos hs]
        have g := good_one hc0 hd2 hs
        refine KW.seq (KW.region ?_)
        refine OW.val rfl rfl (EX.fieldAddr (off := 0) Tryz.underlying23 rfl rfl ti9 rfl rfl) ?_
        refine OW.val rfl rfl (EX.load Tryz.underlying9 rfl rfl (hb3.cell_of rfl)) ?_
        refine OW.val rfl rfl (EX.fieldAddr (off := 1) Tryz.underlying23 rfl rfl ti9 rfl rfl) ?_
        refine OW.val rfl rfl (EX.load Tryz.underlying9 rfl rfl (hb3.cell_of rfl)) ?_
        refine OW.call rfl rfl rfl (rpart_s x.path 48 x.data g (by omega) (by decide) (by omega) w3) ?_
        rintro _ w4 ⟨rfl, hx4⟩
        refine OW.val rfl rfl (EX.assign rfl) ?_
        refine OW.val rfl rfl (EX.assign rfl) ?_
        refine OW.nil ?_
        refine KW.ret (ret2 rfl rfl rfl ?_)
        rw [e, e2]
        exact ⟨rfl, x3.trans hx4⟩
      · have hns : ¬ (splitP x.path).2.2 = true := by rw [hs]; decide
        have e2 : entT x = sect pname 120 (recT ⟨pkey, x.path⟩) ++ sect (x.path.take 100) 48 x.data := by unfold entT; rw [if_neg hns]
        have hl100 := not_split hns
        have hrl := rec_len (path_rest h120)
        have hfx := fix_small _ (path_rest h120)
        have hsz : sizeP ⟨pkey, x.path⟩ ≤ 300 := by unfold sizeP; have := path_rest h120; omega
        have g1 := good_pax (n := (recT ⟨pkey, x.path⟩).length) (by omega)
        have g2 := good_cut hc0 hd2
        have hl1 := sect_len g1
        have hl2 := sect_len g2
        have hf1 := fil_le (recT ⟨pkey, x.path⟩).length
        have hf2 := fil_le x.data.length
        refine KW.skip (KW.seq (KW.region ?_))
        refine OW.val rfl rfl (EX.fieldAddr (off := 0) Tryz.underlying23 rfl rfl ti9 rfl rfl) ?_
        refine OW.val rfl rfl (EX.load Tryz.underlying9 rfl rfl (hb3.cell_of rfl)) ?_
        refine OW.val rfl rfl (EX.buildS (pl := [(0, 1), (1, 1)]) (ks := [0, 1]) (is := [0, 1]) (zs := [str [], str []]) Tryz.underlying49 ti49 (by kernel_rfl) rfl rfl rfl (by first | rfl | (simp only [List.all_cons, List.all_nil, Bool.and_true, Bool.true_and, Bool.and_eq_true, Value.oneCell']; repeat (first | assumption | exact Own.one (by assumption) | constructor))) (by simp only [setAll, List.set_cons_zero, List.set_cons_succ]; rfl)) ?_
        refine OW.buildG 1 ([[str pkey, str x.path]]) rfl rfl Tryz.underlying50 ti49 rfl (by decide) rfl rfl rfl (by repeat' (first | exact List.forall_mem_nil _ | refine List.forall_mem_cons.2 ⟨by first | rfl | assumption, ?_⟩)) (by decide) ?_
        rintro pb w4 hge4 hp4 hx4
        replace hp4 : Bk w4 pb 49 (prsV [⟨pkey, x.path⟩]) := hp4
        have x4 := x3.trans hx4
        have c1 := rpencode_s ⟨pkey, x.path⟩ (path_rest h120) (show okK pkey = true by decide) (some ⟨pb, 0, none⟩) 1 _ w4 (Sl.of_bk hp4 hp4.lt)
        refine OW.call rfl rfl rfl (c1) ?_
        rintro _ w5 ⟨rfl, hx5⟩
        refine OW.val rfl rfl (EX.move rfl) ?_
        refine OW.val rfl rfl (EX.extract rfl rfl) ?_
        refine OW.val rfl rfl (EX.extract rfl rfl) ?_
        refine OW.val rfl rfl (EX.assign rfl) ?_
        refine OW.val rfl rfl (EX.assign rfl) ?_
        refine OW.nil ?_
        refine KW.seq ?_
        have hb5 := (hb3.ext hx4).ext hx5
        have x5 := x4.trans hx5
        have c2 := fun w => rpart_s pname 120 (recT ⟨pkey, x.path⟩) g1 (by decide) (by decide) (by omega) w
        have c3 := fun w => rpart_s (x.path.take 100) 48 x.data g2 (by rw [List.length_take]; omega) (by decide) (by omega) w
        refine KW.regionG (N := 11) (fun w' => Ext w w' ∧ Bk w' xb 23 x.cells) (by kernel_rfl) rfl ?_
        have hS := (⟨x5.trans (Ext.drew _), hb5.drew⟩ : Ext w w5.drew ∧ Bk w5.drew xb 23 x.cells)
        refine GW.val 0 rfl (by kernel_rfl) (by kernel_rfl) (by kernel_rfl) rfl rfl hS (fun w' hS' => EX.move rfl) ?_
        refine GW.val 2 rfl (by kernel_rfl) (by kernel_rfl) (by kernel_rfl) rfl rfl hS (fun w' hS' => EX.fieldAddr (off := 0) Tryz.underlying23 rfl rfl ti9 rfl rfl) ?_
        refine GW.val 3 rfl (by kernel_rfl) (by kernel_rfl) (by kernel_rfl) rfl rfl hS (fun w' hS' => EX.load Tryz.underlying9 rfl rfl (hS'.2.cell_of rfl)) ?_
        refine GW.val 4 rfl (by kernel_rfl) (by kernel_rfl) (by kernel_rfl) rfl rfl hS (fun w' hS' => EX.sliceFH (j := 100) Tryz.underlying9 rfl rfl (by omega)) ?_
        refine GW.val 5 rfl (by kernel_rfl) (by kernel_rfl) (by kernel_rfl) rfl rfl hS (fun w' hS' => EX.fieldAddr (off := 1) Tryz.underlying23 rfl rfl ti9 rfl rfl) ?_
        refine GW.val 6 rfl (by kernel_rfl) (by kernel_rfl) (by kernel_rfl) rfl rfl hS (fun w' hS' => EX.load Tryz.underlying9 rfl rfl (hS'.2.cell_of rfl)) ?_
        refine GW.call 1 rfl (by kernel_rfl) rfl rfl rfl (c2 _) ?_
        rintro _ w6 ⟨rfl, hx6⟩
        refine ⟨⟨hS.1.trans hx6, hS.2.ext hx6⟩, fun hS => ?_⟩
        refine GW.call 7 rfl (by kernel_rfl) rfl rfl rfl (c3 _) ?_
        rintro _ w7 ⟨rfl, hx7⟩
        refine ⟨⟨hS.1.trans hx7, hS.2.ext hx7⟩, fun hS => ?_⟩
        refine GW.val 8 rfl (by kernel_rfl) (by kernel_rfl) (by kernel_rfl) rfl rfl hS (fun w' hS' => EX.addS rfl rfl (by first | omega | (simp only [List.length_append, List.length_cons, List.length_nil, List.length_take, List.length_drop, List.length_replicate]; omega))) ?_
        refine GW.val 9 rfl (by kernel_rfl) (by kernel_rfl) (by kernel_rfl) rfl rfl hS (fun w' hS' => EX.assign rfl) ?_
        refine GW.val 10 rfl (by kernel_rfl) (by kernel_rfl) (by kernel_rfl) rfl rfl hS (fun w' hS' => EX.assign rfl) ?_
        refine GW.done (by kernel_rfl) ?_
        refine KW.ret (ret2 rfl rfl rfl ?_)
        rw [e, e2]
        exact ⟨rfl, hS.1⟩
end Go.Proofs.YtjgeoeeikfjmdaaGreatDoor
/- tar: any file's sectors, any files packed: the statements against the document's answer. -/
namespace Go.Proofs.YtjgeoeeikfjmdaaGreatDoor
set_option linter.unnecessarySimpa false
open Go.ChangeShapes Go.WideShapes Go.ChangeAt Go.RowKit Go.Deep Fld Ust Pax Pth Tar
set_option linter.unusedVariables false
set_option linter.unusedSimpArgs false

set_option maxRecDepth 20000 in
theorem rpack_s (l : List En) (hl : hv l ≤ 40000) (A : Option Addr) (c B : Nat) (w : World) (hs : Sl w B A (ensV l)) :
    Ret Tryz.prog 13 [.slice A l.length c] w fun v w' => v = .tuple #[str (packT l).1, .int .i64 (((packT l).2 : Nat) : Int)] ∧ Ext w w' := by
  have hll := hv_len l
  have hld := light_data hl
  refine Ret.enter Tryz.func13 rfl Tryz.ntmps13 (by kernel_rfl) rfl ?_
  refine KW.seq (KW.region ?_)
  refine OW.val rfl rfl (EX.assign rfl) ?_
  refine OW.val rfl rfl (EX.assign rfl) ?_
  refine OW.nil ?_
  refine KW.seq (KW.seq (KW.region ?_))
  refine OW.val rfl rfl (EX.assign rfl) ?_
  refine OW.nil ?_
  refine KW.cut1 (fun (wr : World) => okL l ∧ Ext w wr) (fun (wr : World) => [(0, .slice A l.length c)]) (fun (wr : World) => wr) ?_ ?_
  · refine KW.block ?_
    refine KW.loop2 (fun (i : Nat) (wr : World) => i ≤ l.length ∧ okL (l.take i) ∧ Ext w wr) (fun (i : Nat) (wr : World) => [(0, .slice A l.length c), (4, .int .i64 ((i : Nat) : Int))]) (fun (i : Nat) (wr : World) => wr) (fun (i : Nat) (wr : World) => l.length - i) (0) (w) ⟨rfl, rfl, trivial⟩ rfl ?_ ?_
    · exact ⟨Nat.zero_le _, fun x hx => by simp at hx, Ext.refl _⟩
    · rintro i wr ⟨hi, hok, hx⟩
      refine KW.seq (KW.seq (KW.region ?_))
      refine OW.val rfl rfl (EX.move rfl) ?_
      refine OW.val rfl rfl (EX.move rfl) ?_
      refine OW.val rfl rfl (EX.lenA Tryz.underlying31 rfl) ?_
      refine OW.val rfl rfl (by first | exact EX.lssN rfl rfl | exact EX.lssZ rfl rfl) ?_
      refine OW.nil ?_
      refine KW.condD rfl (fun hlt => ?_) (fun hlt => ?_)
      · obtain ⟨b, o, rfl, _, hcell⟩ := (hs.ext hx).flat (c := 2) (fun _ => rfl) (by decide) hlt
        have hsn : l.take (i + 1) = l.take i ++ [l[i]] := (List.take_append_getElem hlt).symm
        have hxd := hld l[i] (List.getElem_mem hlt)
        have hat := fun h => errT_at hlt hok h
        generalize hx0 : l[i] = x at hcell hsn hxd hat
        refine KW.skip (KW.seq (KW.block (KW.seq (KW.seq (KW.region ?_)))))
        refine OW.val rfl rfl (EX.move rfl) ?_
        refine OW.val rfl rfl (EX.move rfl) ?_
        refine OW.val rfl rfl (EX.indexAddrS Tryz.underlying31 ti23 rfl rfl (by omega)) ?_
        refine OW.val rfl rfl (EX.fieldAddr (off := 0) Tryz.underlying23 rfl rfl ti9 rfl rfl) ?_
        refine OW.val rfl rfl (EX.load Tryz.underlying9 rfl rfl (hcell 0 _ rfl)) ?_
        refine OW.call rfl rfl rfl (rcheck_s x.path (by omega) wr) ?_
        rintro _ w2 ⟨rfl, hx2⟩
        refine OW.val rfl rfl (by first | exact EX.neqN (b := 0) rfl rfl | exact EX.neqZ rfl rfl) ?_
        refine OW.nil ?_
        have x2 := hx.trans hx2
        refine KW.condD rfl (fun hc => ?_) (fun hc => ?_)
        · have e : entE x = ([], 140) := by unfold entE; rw [if_pos (by omega)]
          have e2 : packT l = ([], 140) := by
            unfold packT
            rw [hat (by rw [e]; decide), e, if_pos (by decide)]
          refine KW.seq (KW.region ?_)
          refine OW.val rfl rfl (EX.assign rfl) ?_
          refine OW.val rfl rfl (EX.assign rfl) ?_
          refine OW.nil ?_
          refine KW.ret (ret2 rfl rfl rfl ?_)
          rw [e2]
          exact ⟨rfl, x2⟩
        · obtain ⟨b', o', hbo, _, hcell2⟩ := (hs.ext x2).flat (i := i) (c := 2) (fun _ => rfl) (by decide) hlt
          cases hbo
          rw [hx0] at hcell2
          refine KW.skip (KW.seq (KW.region ?_))
          refine OW.val rfl rfl (EX.move rfl) ?_
          refine OW.val rfl rfl (EX.move rfl) ?_
          refine OW.val rfl rfl (EX.indexAddrS Tryz.underlying31 ti23 rfl rfl (by omega)) ?_
          refine OW.val rfl rfl (EX.fieldAddr (off := 1) Tryz.underlying23 rfl rfl ti9 rfl rfl) ?_
          refine OW.val rfl rfl (EX.load Tryz.underlying9 rfl rfl (hcell2 1 _ rfl)) ?_
          refine OW.val rfl rfl (EX.lenS Tryz.underlying9 rfl) ?_
          refine OW.val rfl rfl (by first | exact EX.gtrN (b := 262144) rfl rfl | exact EX.gtrZ rfl rfl) ?_
          refine OW.nil ?_
          refine KW.condD rfl (fun hbig => ?_) (fun hbig => ?_)
          · omega
          · refine KW.skip (KW.leave (KW.region ?_))
            refine OW.val rfl rfl (EX.move rfl) ?_
            refine OW.val rfl rfl (by first | exact EX.addN (b := 1) (m := 9223372036854775807) rfl rfl rfl (by omega) | exact EX.addZ (m := 9223372036854775807) rfl rfl rfl rfl (by omega)) ?_
            refine OW.val rfl rfl (EX.assign rfl) ?_
            refine OW.nil ?_
            refine KW.back2 (i + 1) (w2) ⟨rfl, rfl, trivial⟩ rfl ?_ (by omega)
            refine ⟨by omega, fun y hy => ?_, x2⟩
            rw [hsn] at hy
            rcases List.mem_append.1 hy with hy | hy
            · exact hok y hy
            · simp only [List.mem_singleton] at hy
              subst hy
              exact ⟨by omega, by omega⟩
      · obtain rfl : i = l.length := by omega
        rw [List.take_length] at hok
        refine KW.exit rfl ?_
        refine KW.meet1 (wr) ⟨rfl, trivial⟩ rfl ?_
        exact ⟨hok, hx⟩
  · rintro wr ⟨hok, hx⟩
    have e : packT l = (catT l ++ nul 1024, 0) := packT_good hok
    have hct : ∀ i, (catT (l.take i)).length ≤ 120000 := fun i => by
      have h1 := cat_le (l.take i) (fun x hx => hok x (List.mem_of_mem_take hx))
      have h2 := hv_take l i
      omega
    refine KW.seq (KW.region ?_)
    refine OW.val rfl rfl (EX.assign rfl) ?_
    refine OW.nil ?_
    refine KW.seq (KW.seq (KW.region ?_))
    refine OW.val rfl rfl (EX.assign rfl) ?_
    refine OW.nil ?_
    refine KW.cut1 (fun (wr : World) => Ext w wr) (fun (wr : World) => [(0, .slice A l.length c), (5, str ((catT l)))]) (fun (wr : World) => wr) ?_ ?_
    · refine KW.block ?_
      refine KW.loop2 (fun (i : Nat) (wr : World) => i ≤ l.length ∧ Ext w wr) (fun (i : Nat) (wr : World) => [(0, .slice A l.length c), (5, str ((catT (l.take i)))), (6, .int .i64 ((i : Nat) : Int))]) (fun (i : Nat) (wr : World) => wr) (fun (i : Nat) (wr : World) => l.length - i) (0) (wr) ⟨rfl, rfl, rfl, trivial⟩ rfl ?_ ?_
      · exact ⟨Nat.zero_le _, hx⟩
      · rintro i wr ⟨hi, hx⟩
        have hc1 := hct i
        have hc2 := hct (i + 1)
        refine KW.seq (KW.seq (KW.region ?_))
        refine OW.val rfl rfl (EX.move rfl) ?_
        refine OW.val rfl rfl (EX.move rfl) ?_
        refine OW.val rfl rfl (EX.lenA Tryz.underlying31 rfl) ?_
        refine OW.val rfl rfl (by first | exact EX.lssN rfl rfl | exact EX.lssZ rfl rfl) ?_
        refine OW.nil ?_
        refine KW.condD rfl (fun hlt => ?_) (fun hlt => ?_)
        · obtain ⟨b, o, rfl, _, hcell⟩ := (hs.ext hx).flat (c := 2) (fun _ => rfl) (by decide) hlt
          have hsn : l.take (i + 1) = l.take i ++ [l[i]] := (List.take_append_getElem hlt).symm
          have hxd := hld l[i] (List.getElem_mem hlt)
          have hxo := hok l[i] (List.getElem_mem hlt)
          generalize l[i] = x at hcell hsn hxd hxo
          have hcs : catT (l.take (i + 1)) = catT (l.take i) ++ entT x := by rw [hsn, catT_snoc]
          have hel := ent_len hxo.1 hxo.2
          have c1 := rentry_s x (by omega) (by omega) wr
          have hee : entE x = (entT x, 0) := by unfold entE; rw [if_neg (by omega), if_neg (by omega)]
          rw [hee] at c1
          simp only at c1
          rw [hcs] at hc2
          refine KW.skip (KW.seq (KW.block (KW.seq (KW.region ?_))))
          refine OW.val rfl rfl (EX.move rfl) ?_
          refine OW.val rfl rfl (EX.move rfl) ?_
          refine OW.val rfl rfl (EX.indexAddrS Tryz.underlying31 ti23 rfl rfl (by omega)) ?_
          refine OW.val rfl rfl (EX.loadA (l := x.cells) Tryz.underlying23 rfl ti23 rfl rfl hcell) ?_
          refine OW.call rfl rfl rfl (c1) ?_
          rintro _ w2 ⟨rfl, hx2⟩
          refine OW.val rfl rfl (EX.move rfl) ?_
          refine OW.val rfl rfl (EX.extract rfl rfl) ?_
          refine OW.val rfl rfl (EX.extract rfl rfl) ?_
          refine OW.val rfl rfl (EX.assign rfl) ?_
          refine OW.val rfl rfl (EX.assign rfl) ?_
          refine OW.nil ?_
          refine KW.seq (KW.region ?_)
          refine OW.val rfl rfl (EX.move rfl) ?_
          refine OW.val rfl rfl (EX.move rfl) ?_
          refine OW.val rfl rfl (EX.addS rfl rfl (by first | omega | (simp only [List.length_append, List.length_cons, List.length_nil, List.length_take, List.length_drop, List.length_replicate]; omega))) ?_
          refine OW.val rfl rfl (EX.assign rfl) ?_
          refine OW.nil ?_
          refine KW.seq (KW.region ?_)
          refine OW.val rfl rfl (EX.move rfl) ?_
          refine OW.val rfl rfl (EX.lenS Tryz.underlying9 rfl) ?_
          refine OW.val rfl rfl (by first | exact EX.addN (b := 1024) (m := 9223372036854775807) rfl rfl rfl (by omega) | exact EX.addZ (m := 9223372036854775807) rfl rfl rfl rfl (by omega)) ?_
          refine OW.val rfl rfl (by first | exact EX.gtrN (b := 524288) rfl rfl | exact EX.gtrZ rfl rfl) ?_
          refine OW.nil ?_
          refine KW.as 5 (str ((catT (l.take (i + 1))))) rfl (congrArg str hcs.symm) ?_
          refine KW.condD rfl (fun hbig => ?_) (fun hbig => ?_)
          · omega
          · refine KW.skip (KW.leave (KW.region ?_))
            refine OW.val rfl rfl (EX.move rfl) ?_
            refine OW.val rfl rfl (by first | exact EX.addN (b := 1) (m := 9223372036854775807) rfl rfl rfl (by omega) | exact EX.addZ (m := 9223372036854775807) rfl rfl rfl rfl (by omega)) ?_
            refine OW.val rfl rfl (EX.assign rfl) ?_
            refine OW.nil ?_
            refine KW.back2 (i + 1) (w2) ⟨rfl, rfl, rfl, trivial⟩ rfl ?_ (by omega)
            exact ⟨by omega, hx.trans hx2⟩
        · obtain rfl : i = l.length := by omega
          refine KW.exit rfl ?_
          refine KW.as 5 (str ((catT l))) rfl (by rw [List.take_length]) ?_
          refine KW.meet1 (wr) ⟨rfl, rfl, trivial⟩ rfl ?_
          exact hx
    · rintro wr hx
      have hc1 := hct l.length
      rw [List.take_length] at hc1
      refine KW.seq (KW.region ?_)
      refine OW.val rfl rfl (EX.move rfl) ?_
      refine OW.makeB (len := 1024) rfl rfl Tryz.underlying55 ti5 rfl rfl rfl (by omega) (by omega) ?_
      rintro gb w2 hge2 hg2 hx2
      rw [show List.replicate 1024 (Value.int .u8 0) = bytesV (nul 1024) from (bytesV_nul 1024).symm] at hg2
      have hnl : (nul 1024).length = 1024 := nul_len _
      refine OW.val rfl rfl (EX.strOf Tryz.underlying55 Tryz.underlying5 Tryz.underlying9 rfl (hg2.sl) (nul_len _)) ?_
      refine OW.val rfl rfl (EX.addS rfl rfl (by first | omega | (simp only [List.length_append, List.length_cons, List.length_nil, List.length_take, List.length_drop, List.length_replicate]; omega))) ?_
      refine OW.val rfl rfl (EX.assign rfl) ?_
      refine OW.val rfl rfl (EX.assign rfl) ?_
      refine OW.nil ?_
      refine KW.ret (ret2 rfl rfl rfl ?_)
      rw [e]
      exact ⟨rfl, hx.trans hx2⟩
set_option maxRecDepth 20000 in
theorem tarEntries_s (x : En) (hx : x.path.length ≤ 1048576 ∧ x.data.length ≤ 1048576) (w : World) (ht : Tab w) (hm : ∃ m : Int, w.cell? ⟨0, 0, none⟩ = some (.int .i64 m)) :
    Ret Tryz.prog 3 [.agg x.cells.toArray] w fun v w' => v = .bool true ∧ Ext w w' := by
  have hG : Env w := ⟨ht, hm⟩
  have bye : ∀ w', Ext w w' → Ret Tryz.prog 8 [] w' fun v w'' => v = .bool true ∧ Ext w w'' := fun w' hx => (awake18_s w' (hG.ext hx)).mono fun _ _ h => ⟨h.1, hx.trans h.2⟩
  obtain ⟨hxp, hxd⟩ := hx
  refine Ret.enter Tryz.func3 rfl Tryz.ntmps3 (by kernel_rfl) rfl ?_
  refine KW.seq (KW.region ?_)
  refine OW.boxS rfl rfl rfl ?_
  rintro xb w1 hge1 hb1 hx1
  refine OW.val rfl rfl (EX.assign rfl) ?_
  refine OW.nil ?_
  refine KW.seq (KW.seq ?_)
  replace hb1 : Bk w1 xb 23 x.cells := hb1
  refine KW.cut1 (fun (_u : Unit) => True) (fun (_u : Unit) => [(1, .pointer (some ⟨xb, 0, none⟩)), (16, .bool (decide (40000 < x.data.length ∧ x.data.length ≤ 262144)))]) (fun (_u : Unit) => w1) ?_ ?_
  · refine KW.region ?_
    refine OW.val rfl rfl (EX.fieldAddr (off := 1) Tryz.underlying23 rfl rfl ti9 rfl rfl) ?_
    refine OW.val rfl rfl (EX.load Tryz.underlying9 rfl rfl (hb1.cell_of rfl)) ?_
    refine OW.val rfl rfl (EX.lenS Tryz.underlying9 rfl) ?_
    refine OW.val rfl rfl (by first | exact EX.gtrN (b := 40000) rfl rfl | exact EX.gtrZ rfl rfl) ?_
    refine OW.val rfl rfl (EX.move rfl) ?_
    refine OW.splitD 11 rfl (fun h1 => ?_) (fun h1 => ?_)
    · refine OW.val rfl rfl (EX.fieldAddr (off := 1) Tryz.underlying23 rfl rfl ti9 rfl rfl) ?_
      refine OW.val rfl rfl (EX.load Tryz.underlying9 rfl rfl (hb1.cell_of rfl)) ?_
      refine OW.val rfl rfl (EX.lenS Tryz.underlying9 rfl) ?_
      refine OW.val rfl rfl (by first | exact EX.leqN (b := 262144) rfl rfl | exact EX.leqZ rfl rfl) ?_
      refine OW.val rfl rfl (EX.pickT rfl rfl) ?_
      refine OW.nil ?_
      refine KW.as 16 (.bool (decide (40000 < x.data.length ∧ x.data.length ≤ 262144))) rfl (congrArg Value.bool (decide_eq_decide.2 (by omega))) ?_
      refine KW.meet1 (()) ⟨rfl, rfl, trivial⟩ rfl ?_
      trivial
    · refine OW.pass rfl rfl ?_
      refine OW.pass rfl rfl ?_
      refine OW.pass rfl rfl ?_
      refine OW.pass rfl rfl ?_
      refine OW.val rfl rfl (EX.pickF rfl rfl) ?_
      refine OW.nil ?_
      refine KW.as 16 (.bool (decide (40000 < x.data.length ∧ x.data.length ≤ 262144))) rfl (congrArg Value.bool (decide_eq_false (by omega)).symm) ?_
      refine KW.meet1 (()) ⟨rfl, rfl, trivial⟩ rfl ?_
      trivial
  · rintro _ _
    refine KW.condD rfl (fun hmid => ?_) (fun hmid => ?_)
    · refine KW.seq (KW.region ?_)
      refine OW.call rfl rfl rfl (bye w1 hx1) ?_
      rintro _ w2 ⟨rfl, hx2⟩
      refine OW.val rfl rfl (EX.assign rfl) ?_
      refine OW.nil ?_
      refine KW.ret (ret1 rfl rfl ?_)
      exact ⟨rfl, hx2⟩
    · have c1 := entry_s x (by omega) (by omega) w1 (hG.ext hx1)
      have c2 := fun w => rentry_s x (by omega) (by omega) w
      generalize (entE x).1 = et at c1 c2
      generalize (entE x).2 = ee at c1 c2
      refine KW.skip (KW.seq (KW.region ?_))
      refine OW.val rfl rfl (EX.loadBk Tryz.underlying23 rfl ti23 rfl (hb1) (rfl)) ?_
      refine OW.call rfl rfl rfl (c1) ?_
      rintro _ w2 ⟨rfl, hx2⟩
      refine OW.val rfl rfl (EX.move rfl) ?_
      refine OW.val rfl rfl (EX.extract rfl rfl) ?_
      refine OW.val rfl rfl (EX.extract rfl rfl) ?_
      refine OW.val rfl rfl (EX.assign rfl) ?_
      refine OW.val rfl rfl (EX.assign rfl) ?_
      refine OW.nil ?_
      refine KW.seq (KW.region ?_)
      have hb2 := hb1.ext hx2
      refine OW.val rfl rfl (EX.loadBk Tryz.underlying23 rfl ti23 rfl (hb2) (rfl)) ?_
      refine OW.call rfl rfl rfl (c2 w2) ?_
      rintro _ w3 ⟨rfl, hx3⟩
      refine OW.val rfl rfl (EX.move rfl) ?_
      refine OW.val rfl rfl (EX.extract rfl rfl) ?_
      refine OW.val rfl rfl (EX.extract rfl rfl) ?_
      refine OW.val rfl rfl (EX.assign rfl) ?_
      refine OW.val rfl rfl (EX.assign rfl) ?_
      refine OW.nil ?_
      refine KW.seq ?_
      have x3 := (hx1.trans hx2).trans hx3
      refine KW.region ?_
      refine OW.val rfl rfl (EX.move rfl) ?_
      refine OW.val rfl rfl (EX.move rfl) ?_
      refine OW.val rfl rfl (EX.eqlS rfl rfl) ?_
      refine OW.val rfl rfl (EX.move rfl) ?_
      refine OW.as 31 (.bool true) rfl (congrArg Value.bool (decide_eq_true (rfl))) ?_
      refine OW.val rfl rfl (EX.move rfl) ?_
      refine OW.val rfl rfl (EX.move rfl) ?_
      refine OW.val rfl rfl (by first | exact EX.eqlN rfl rfl | exact EX.eqlZ rfl rfl) ?_
      refine OW.val rfl rfl (EX.pickT rfl rfl) ?_
      refine OW.val rfl rfl (EX.move rfl) ?_
      refine OW.as 36 (.bool true) rfl (congrArg Value.bool (decide_eq_true (rfl))) ?_
      refine OW.call rfl rfl rfl (bye w3 x3) ?_
      rintro _ w4 ⟨rfl, hx4⟩
      refine OW.val rfl rfl (EX.pickT rfl rfl) ?_
      refine OW.val rfl rfl (EX.assign rfl) ?_
      refine OW.nil ?_
      refine KW.ret (ret1 rfl rfl ?_)
      exact ⟨rfl, hx4⟩
set_option maxRecDepth 20000 in
theorem tarPacks_s (l : List En) (hl : (∀ x ∈ l, EnOk x) ∧ l.length ≤ 140737488355328) (A : Option Addr) (c : Nat) (w : World) (B : Nat) (hs : Sl w B A (ensV l)) (ht : Tab w) (hm : ∃ m : Int, w.cell? ⟨0, 0, none⟩ = some (.int .i64 m)) :
    Ret Tryz.prog 4 [.slice A l.length c] w fun v w' => v = .bool true ∧ Ext w w' := by
  have hG : Env w := ⟨ht, hm⟩
  have c0 := light_s l hl.1 hl.2 A c B w hs
  have bye : ∀ w', Ext w w' → Ret Tryz.prog 8 [] w' fun v w'' => v = .bool true ∧ Ext w w'' := fun w' hx => (awake18_s w' (hG.ext hx)).mono fun _ _ h => ⟨h.1, hx.trans h.2⟩
  refine Ret.enter Tryz.func4 rfl Tryz.ntmps4 (by kernel_rfl) rfl ?_
  refine KW.seq (KW.region ?_)
  refine OW.val rfl rfl (EX.assign rfl) ?_
  refine OW.nil ?_
  refine KW.seq (KW.seq (KW.region ?_))
  refine OW.val rfl rfl (EX.move rfl) ?_
  rcases Decidable.em (hv l ≤ 40000) with hlight | hlight
  · rw [decide_eq_true hlight] at c0
    refine OW.call rfl rfl rfl (c0) ?_
    rintro _ w1 ⟨rfl, hx1⟩
    refine OW.val rfl rfl (by first | exact EX.notD rfl | exact EX.notB rfl) ?_
    refine OW.nil ?_
    refine KW.condF rfl (KW.skip (KW.seq (KW.region ?_)))
    refine OW.val rfl rfl (EX.move rfl) ?_
    have c1 := pack_s l hlight A c B w1 (hG.ext hx1) (hs.ext hx1)
    have c2 := fun w hs => rpack_s l hlight A c B w hs
    generalize (packT l).1 = pt at c1 c2
    generalize (packT l).2 = pe at c1 c2
    refine OW.call rfl rfl rfl (c1) ?_
    rintro _ w2 ⟨rfl, hx2⟩
    refine OW.val rfl rfl (EX.move rfl) ?_
    refine OW.val rfl rfl (EX.extract rfl rfl) ?_
    refine OW.val rfl rfl (EX.extract rfl rfl) ?_
    refine OW.val rfl rfl (EX.assign rfl) ?_
    refine OW.val rfl rfl (EX.assign rfl) ?_
    refine OW.nil ?_
    refine KW.seq (KW.region ?_)
    refine OW.val rfl rfl (EX.move rfl) ?_
    have x2 := hx1.trans hx2
    refine OW.call rfl rfl rfl (c2 w2 (hs.ext x2)) ?_
    rintro _ w3 ⟨rfl, hx3⟩
    refine OW.val rfl rfl (EX.move rfl) ?_
    refine OW.val rfl rfl (EX.extract rfl rfl) ?_
    refine OW.val rfl rfl (EX.extract rfl rfl) ?_
    refine OW.val rfl rfl (EX.assign rfl) ?_
    refine OW.val rfl rfl (EX.assign rfl) ?_
    refine OW.nil ?_
    refine KW.seq ?_
    refine KW.region ?_
    refine OW.val rfl rfl (EX.move rfl) ?_
    refine OW.val rfl rfl (EX.move rfl) ?_
    refine OW.val rfl rfl (EX.eqlS rfl rfl) ?_
    refine OW.val rfl rfl (EX.move rfl) ?_
    refine OW.as 24 (.bool true) rfl (congrArg Value.bool (decide_eq_true (rfl))) ?_
    refine OW.val rfl rfl (EX.move rfl) ?_
    refine OW.val rfl rfl (EX.move rfl) ?_
    refine OW.val rfl rfl (by first | exact EX.eqlN rfl rfl | exact EX.eqlZ rfl rfl) ?_
    refine OW.val rfl rfl (EX.pickT rfl rfl) ?_
    refine OW.val rfl rfl (EX.move rfl) ?_
    refine OW.as 29 (.bool true) rfl (congrArg Value.bool (decide_eq_true (rfl))) ?_
    refine OW.call rfl rfl rfl (bye w3 (x2.trans hx3)) ?_
    rintro _ w4 ⟨rfl, hx4⟩
    refine OW.val rfl rfl (EX.pickT rfl rfl) ?_
    refine OW.val rfl rfl (EX.assign rfl) ?_
    refine OW.nil ?_
    refine KW.ret (ret1 rfl rfl ?_)
    exact ⟨rfl, hx4⟩
  · rw [decide_eq_false hlight] at c0
    refine OW.call rfl rfl rfl (c0) ?_
    rintro _ w1 ⟨rfl, hx1⟩
    refine OW.val rfl rfl (by first | exact EX.notD rfl | exact EX.notB rfl) ?_
    refine OW.nil ?_
    refine KW.condT rfl (KW.seq (KW.region ?_))
    refine OW.call rfl rfl rfl (bye w1 hx1) ?_
    rintro _ w2 ⟨rfl, hx2⟩
    refine OW.val rfl rfl (EX.assign rfl) ?_
    refine OW.nil ?_
    refine KW.ret (ret1 rfl rfl ?_)
    exact ⟨rfl, hx2⟩
section
variable {H : Type} {enc : TypeId × Value → H} {W : World} {base : Nat} {v : Value} {d : DataW H} {p : List MemPlace} {r : Reach} {b0 : Nat}
set_option maxRecDepth 20000 in
theorem openU_Entry (hval : Value.okWide Tryz.prog W r b0 23 v) (hd : DataW.Trod enc Tryz.prog W base (fun _ => true) true 23 v d p) (hb : Rows.uptoBulk d ≤ 1048576) : ∃ a : En, v = .agg a.cells.toArray ∧ (a.path.length ≤ 1048576 ∧ a.data.length ≤ 1048576) := by
  obtain ⟨⟨l⟩, rfl, hs⟩ := okWide_struct Tryz.underlying23 hval
  obtain ⟨fuel, hf⟩ := hd
  obtain ⟨a, h1, xs, h2, h3, h4⟩ := en_shape fuel _ _ hf
  simp only [Value.cells] at h1
  simp only at h2
  refine ⟨a, by rw [← h1], ?_⟩
  rw [h2] at hb
  match xs, h3, h4 with
  | [], h3, _ => cases h3
  | [_], _, h4 => cases h4
  | y :: z :: xs, h3, h4 =>
    simp only [List.getElem?_cons_zero, List.getElem?_cons_succ, Option.some.injEq] at h3 h4
    subst h3 h4
    simp only [Rows.uptoBulk, Rows.uptoBulkAll] at hb
    omega
end
end Go.Proofs.YtjgeoeeikfjmdaaGreatDoor
/- paths, in plain words: how paths are compared, parted, and lie within each other. No program is spoken of. -/
namespace Go.Proofs.YtjgeoeeikfjmdaaGreatDoor.Pth
set_option linter.unnecessarySimpa false
set_option linter.unusedSimpArgs false
set_option linter.unusedVariables false
open Go.Lib
theorem split_parts : ∀ (k : Nat) (s : List UInt8), count s [47] = k → splitK [47] 0 k s = parts s
  | 0, s, hk => by
    have hn : ∀ c ∈ s, c ≠ 47 := by
      intro c hc e
      subst e
      have hi := index_one s 47
      rcases Int.lt_or_le (index s [47]) 0 with h | h
      · have := index_ge s [47]
        have h1 : indexByte s 47 = -1 := by rw [← hi]; omega
        obtain ⟨j, hj⟩ := List.getElem?_of_mem hc
        exact indexByte_none h1 j hj
      · obtain ⟨i, hi'⟩ := Int.eq_ofNat_of_zero_le h
        have := count_hit (s := s) (sub := [47]) (by simp) hi'
        omega
    rw [splitK, parts_whole s hn]
  | k + 1, s, hk => by
    have hne : ¬ index s [47] = -1 := fun h => by rw [count_miss h] at hk; omega
    have hge := index_ge s [47]
    obtain ⟨i, hi⟩ := Int.eq_ofNat_of_zero_le (show 0 ≤ index s [47] by omega)
    have hc := count_hit (s := s) (sub := [47]) (by simp) hi
    have hb : indexByte s 47 = i := by rw [← index_one]; exact hi
    obtain ⟨h1, h2⟩ := indexByte_some hb
    have hlt : i < s.length := (List.getElem?_eq_some_iff.1 h1).1
    have hs : s = s.take i ++ 47 :: s.drop (i + 1) := by
      have e := List.take_append_drop i s
      rw [List.drop_eq_getElem_cons hlt] at e
      have e2 : s[i] = 47 := by
        have := List.getElem?_eq_getElem hlt
        rw [this] at h1
        exact Option.some.inj h1
      rw [e2] at e
      exact e.symm
    have hn : ∀ c ∈ s.take i, c ≠ 47 := by
      intro c hc' e
      subst e
      obtain ⟨j, hj⟩ := List.getElem?_of_mem hc'
      have hji : j < i := by
        have := (List.getElem?_eq_some_iff.1 hj).1
        rw [List.length_take] at this
        omega
      rw [List.getElem?_take_of_lt hji] at hj
      exact h2 j hji hj
    have hbe : ¬ (index s [47] == -1) = true := fun e => hne (beq_iff_eq.1 e)
    rw [splitK, if_neg hbe, show (index s [47]).toNat = i by omega, Nat.add_zero]
    have ih := split_parts k (s.drop (i + 1)) (by simp only [List.length_singleton] at hc; omega)
    rw [show i + [(47 : UInt8)].length = i + 1 from rfl, ih]
    conv => rhs; rw [hs]
    rw [parts_slash _ _ hn]
/-! ### In one order -/
def cmpL : Txts → Txts → Int
  | [], [] => 0
  | [], _ :: _ => -1
  | _ :: _, [] => 1
  | x :: xs, y :: ys => if x = y then cmpL xs ys else compareBytes x y
def cmpP (a b : List UInt8) : Int := cmpL (parts a) (parts b)
theorem cb_eq : ∀ x y : List UInt8, compareBytes x y = 0 ↔ x = y
  | [], [] => by simp [compareBytes]
  | [], _ :: _ => by simp [compareBytes]
  | _ :: _, [] => by simp [compareBytes]
  | a :: x, b :: y => by
    have ih := cb_eq x y
    unfold compareBytes
    split
    · rename_i h
      have : a ≠ b := fun e => by subst e; exact absurd h (by simp)
      simp [this]
    · split
      · rename_i h
        have : a ≠ b := fun e => by subst e; exact absurd h (by simp)
        simp [this]
      · rename_i h1 h2
        have : a = b := by
          have h1' : ¬ a.toNat < b.toNat := h1
          have h2' : ¬ b.toNat < a.toNat := h2
          exact UInt8.toNat_inj.1 (by omega)
        subst this
        rw [ih]
        simp
theorem cb_val : ∀ x y : List UInt8, compareBytes x y = -1 ∨ compareBytes x y = 0 ∨ compareBytes x y = 1
  | [], [] => by simp [compareBytes]
  | [], _ :: _ => by simp [compareBytes]
  | _ :: _, [] => by simp [compareBytes]
  | a :: x, b :: y => by
    unfold compareBytes
    split
    · simp
    · split
      · simp
      · exact cb_val x y
theorem cb_neg : ∀ x y : List UInt8, compareBytes y x = - compareBytes x y
  | [], [] => by simp [compareBytes]
  | [], _ :: _ => by simp [compareBytes]
  | _ :: _, [] => by simp [compareBytes]
  | a :: x, b :: y => by
    have ih := cb_neg x y
    unfold compareBytes
    by_cases h1 : a < b
    · have h1' : a.toNat < b.toNat := h1
      have h2 : ¬ b < a := fun h => by have h' : b.toNat < a.toNat := h; omega
      simp [h1, h2]
    · by_cases h2 : b < a
      · simp [h1, h2]
      · simp [h1, h2, ih]
theorem cb_trans : ∀ x y z : List UInt8, compareBytes x y ≤ 0 → compareBytes y z ≤ 0 → compareBytes x z ≤ 0
  | [], y, [], _, _ => by simp [compareBytes]
  | [], y, _ :: _, _, _ => by simp [compareBytes]
  | a :: x, [], z, h, _ => by simp [compareBytes] at h
  | a :: x, b :: y, [], _, h => by simp [compareBytes] at h
  | a :: x, b :: y, c :: z, h1, h2 => by
    have ih := cb_trans x y z
    unfold compareBytes at h1 h2 ⊢
    have lt : ∀ p q : UInt8, (p < q) = (p.toNat < q.toNat) := fun _ _ => rfl
    simp only [lt] at h1 h2 ⊢
    split at h1
    · split at h2
      · rw [if_pos (by omega)]; decide
      · split at h2
        · omega
        · rw [if_pos (by omega)]; decide
    · split at h1
      · omega
      · split at h2
        · rw [if_pos (by omega)]; decide
        · split at h2
          · omega
          · rw [if_neg (by omega), if_neg (by omega)]
            exact ih h1 h2
theorem cmpL_val : ∀ x y : Txts, cmpL x y = -1 ∨ cmpL x y = 0 ∨ cmpL x y = 1
  | [], [] => by simp [cmpL]
  | [], _ :: _ => by simp [cmpL]
  | _ :: _, [] => by simp [cmpL]
  | a :: x, b :: y => by
    unfold cmpL
    split
    · exact cmpL_val x y
    · exact cb_val a b
theorem cmpL_eq : ∀ x y : Txts, cmpL x y = 0 ↔ x = y
  | [], [] => by simp [cmpL]
  | [], _ :: _ => by simp [cmpL]
  | _ :: _, [] => by simp [cmpL]
  | a :: x, b :: y => by
    unfold cmpL
    split
    · rename_i h; rw [cmpL_eq x y]; simp [h]
    · rename_i h
      rw [cb_eq]
      simp [h]
theorem cmpL_neg : ∀ x y : Txts, cmpL y x = - cmpL x y
  | [], [] => by simp [cmpL]
  | [], _ :: _ => by simp [cmpL]
  | _ :: _, [] => by simp [cmpL]
  | a :: x, b :: y => by
    unfold cmpL
    by_cases h : a = b
    · rw [if_pos h.symm, if_pos h]; exact cmpL_neg x y
    · rw [if_neg (fun e => h e.symm), if_neg h]; exact cb_neg a b
theorem cmpL_trans : ∀ x y z : Txts, cmpL x y ≤ 0 → cmpL y z ≤ 0 → cmpL x z ≤ 0
  | [], y, [], _, _ => by simp [cmpL]
  | [], y, _ :: _, _, _ => by simp [cmpL]
  | a :: x, [], z, h, _ => by simp [cmpL] at h
  | a :: x, b :: y, [], _, h => by simp [cmpL] at h
  | a :: x, b :: y, c :: z, h1, h2 => by
    have ih := cmpL_trans x y z
    unfold cmpL at h1 h2 ⊢
    by_cases e1 : a = b
    · subst e1
      rw [if_pos rfl] at h1
      by_cases e2 : a = c
      · rw [if_pos e2] at h2 ⊢
        exact ih h1 h2
      · rw [if_neg e2] at h2 ⊢
        exact h2
    · rw [if_neg e1] at h1
      by_cases e2 : b = c
      · subst e2
        rw [if_neg e1]
        exact h1
      · rw [if_neg e2] at h2
        have h3 := cb_trans a b c h1 h2
        by_cases e3 : a = c
        · subst e3
          have h4 := cb_neg a b
          have h5 : compareBytes a b = 0 := by omega
          exact absurd ((cb_eq a b).1 h5) e1
        · rw [if_neg e3]
          exact h3
/-- texts from their parts -/
def glue : Txts → List UInt8
  | [] => []
  | [x] => x
  | x :: y :: l => x ++ 47 :: glue (y :: l)
theorem glue_parts : ∀ s, glue (parts s) = s
  | [] => rfl
  | c :: s => by
    have ih := glue_parts s
    rw [parts_cons]
    split
    · rename_i h
      subst h
      rcases hp : parts s with _ | ⟨p, r⟩
      · exact absurd hp (parts_ne s)
      · rw [hp] at ih
        simp [glue, ih]
    · rcases hp : parts s with _ | ⟨p, r⟩
      · exact absurd hp (parts_ne s)
      · rw [hp] at ih
        cases r with
        | nil => simp [glue] at ih ⊢; exact ih
        | cons q r => simp [glue] at ih ⊢; exact ih
theorem cmpP_eq (a b : List UInt8) : cmpP a b = 0 ↔ a = b := by
  unfold cmpP
  rw [cmpL_eq]
  constructor
  · intro h
    rw [← glue_parts a, ← glue_parts b, h]
  · rintro rfl; rfl
def underB (dir p : List UInt8) : Bool := decide (dir.length < p.length ∧ p.take dir.length = dir ∧ p[dir.length]? = some 47)
theorem under_iff (dir p : List UInt8) : underB dir p = true ↔ ∃ r, p = dir ++ 47 :: r := by
  unfold underB
  rw [decide_eq_true_eq]
  constructor
  · rintro ⟨h1, h2, h3⟩
    refine ⟨p.drop (dir.length + 1), ?_⟩
    have e := List.take_append_drop dir.length p
    rw [h2, List.drop_eq_getElem_cons h1] at e
    rw [List.getElem?_eq_getElem h1] at h3
    rw [Option.some.inj h3] at e
    exact e.symm
  · rintro ⟨r, rfl⟩
    refine ⟨by simp, by simp, by simp⟩
theorem parts_app : ∀ (a b : List UInt8), parts (a ++ 47 :: b) = parts a ++ parts b
  | [], b => by simp [parts]
  | c :: a, b => by
    rw [List.cons_append, parts_cons, parts_cons, parts_app a b]
    split
    · rfl
    · rcases hp : parts a with _ | ⟨p, r⟩
      · exact absurd hp (parts_ne a)
      · rfl
theorem cmpL_pre : ∀ (x r : Txts), r ≠ [] → cmpL x (x ++ r) = -1
  | [], [], h => absurd rfl h
  | [], _ :: _, _ => rfl
  | a :: x, r, h => by
    rw [List.cons_append, cmpL, if_pos rfl]
    exact cmpL_pre x r h
/-- what stands behind x, and does not begin with it, stands behind all that begins with x -/
theorem cmpL_between : ∀ (x r z : Txts), cmpL x z = -1 → ¬ (∃ t, z = x ++ t) → cmpL (x ++ r) z = -1
  | [], r, z, _, h => absurd ⟨z, rfl⟩ h
  | a :: x, r, [], h, _ => by simp [cmpL] at h
  | a :: x, r, c :: z, h, hn => by
    rw [List.cons_append]
    unfold cmpL at h ⊢
    by_cases e : a = c
    · rw [if_pos e] at h ⊢
      refine cmpL_between x r z h fun ⟨t, ht⟩ => hn ⟨t, by rw [ht, e]; rfl⟩
    · rw [if_neg e] at h ⊢
      exact h
/-- texts whose parts begin with another's -/
theorem glue_app : ∀ (x t : Txts), x ≠ [] → t ≠ [] → glue (x ++ t) = glue x ++ 47 :: glue t
  | [a], t, _, ht => by
    cases t with
    | nil => exact absurd rfl ht
    | cons b t => rfl
  | a :: b :: x, t, _, ht => by
    have ih := glue_app (b :: x) t (by simp) ht
    simp only [List.cons_append, glue] at ih ⊢
    rw [ih]
    simp
end Go.Proofs.YtjgeoeeikfjmdaaGreatDoor.Pth
/- paths: parts, comparisons, Split, Under, by the program and by the document. -/
namespace Go.Proofs.YtjgeoeeikfjmdaaGreatDoor
set_option linter.unnecessarySimpa false
open Go.RowKit Pth
set_option linter.unusedVariables false
set_option linter.unusedSimpArgs false

/-- what strings.Split asks of the world: a variable of the library holds a number -/
def MLen (w : World) : Prop := ∃ m : Int, w.cell? ⟨0, 0, none⟩ = some (.int .i64 m)
theorem MLen.ext {w w' : World} (h : MLen w) (hx : Ext w w') : MLen w' := by
  obtain ⟨m, hm⟩ := h
  refine ⟨m, ?_⟩
  have hlt : 0 < w.heap.size := World.block_lt_of_cell? w _ hm
  have := hx.block _ hlt
  unfold World.cell? at hm ⊢
  rwa [this]
theorem split_c (s : List UInt8) (hs : s.length ≤ 2000000) (w : World) (hG : MLen w) :
    Ret Tryz.prog 66 [str s, str [47]] w fun v w' => ∃ b, v = .slice (some ⟨b, 0, none⟩) (parts s).length (parts s).length ∧ w.heap.size ≤ b ∧ Bk w' b 9 (txtsV (parts s)) ∧ Ext w w' := by
  have hn : (!(Tryz.f66.name == "runtime.NumGoroutine") && Tryz.f66.body.isSome) = true := by kernel_rfl
  obtain ⟨m, hm⟩ := hG
  have h := Tryz.strings_Split ⟨s.toArray⟩ ⟨#[47]⟩ m w (by show s.length < _; omega) hm (by show 1 ≤ 1; omega)
  have hd := Go.Lib.splitB_data ⟨#[47]⟩ 0 (Go.Lib.countB ⟨s.toArray⟩ ⟨#[47]⟩) ⟨s.toArray⟩
  have hp : (Go.Lib.splitB ⟨#[47]⟩ 0 (Go.Lib.countB ⟨s.toArray⟩ ⟨#[47]⟩) ⟨s.toArray⟩).map (·.data.toList) = parts s := hd.trans (split_parts _ s rfl)
  have hlen := congrArg List.length hp
  rw [List.length_map, Go.Lib.splitB_all ⟨#[47]⟩ (by show 1 ≤ 1; omega) 0 _ ⟨s.toArray⟩ rfl] at hlen
  have hv : (Go.Lib.splitB ⟨#[47]⟩ 0 (Go.Lib.countB ⟨s.toArray⟩ ⟨#[47]⟩) ⟨s.toArray⟩).map Value.string = txtsV (parts s) := by
    rw [← hp, txtsV, List.map_map]
    rfl
  rw [hv, hlen] at h
  refine (Ret.of_calls Tryz.func66 hn (h.mono (fun e w' q => q))).mono ?_
  rintro v w' ⟨rfl, rfl⟩
  exact ⟨w.heap.size, rfl, Nat.le_refl _, Bk.new w _ _, Ext.alloc w _⟩
theorem parts_p (s : List UInt8) (hs : s.length ≤ 2000000) (w : World) (hG : MLen w) :
    Ret Tryz.prog 41 [str s] w fun v w' => ∃ b, v = .slice (some ⟨b, 0, none⟩) (parts s).length (parts s).length ∧ w.heap.size ≤ b ∧ Bk w' b 9 (txtsV (parts s)) ∧ Ext w w' := by
  refine Ret.enter Tryz.func41 rfl Tryz.ntmps41 (by kernel_rfl) rfl ?_
  refine KW.seq (KW.region ?_)
  refine OW.val rfl rfl (EX.assign rfl) ?_
  refine OW.nil ?_
  refine KW.seq (KW.region ?_)
  refine OW.val rfl rfl (EX.move rfl) ?_
  refine OW.call rfl rfl rfl (split_c s hs w hG) ?_
  rintro _ w1 ⟨b, rfl, hb⟩
  refine OW.val rfl rfl (EX.assign rfl) ?_
  refine OW.nil ?_
  refine KW.ret (ret1 rfl rfl ?_)
  exact ⟨b, rfl, hb⟩
theorem parts_len (s : List UInt8) : (parts s).length ≤ s.length + 1 := by
  have h1 := wt_len (parts s)
  rwa [wt_parts] at h1
/-! ### Comparisons -/
theorem compare_c (x y : List UInt8) (w : World) : Ret Tryz.prog 42 [str x, str y] w fun v w' => v = .int .i64 (Go.Lib.compareBytes x y) ∧ w = w' := by
  have hn : (!(Tryz.f42.name == "runtime.NumGoroutine") && Tryz.f42.body.isSome) = true := by kernel_rfl
  refine (Ret.of_calls Tryz.func42 hn ((Tryz.strings_Compare ⟨x.toArray⟩ ⟨y.toArray⟩ w).mono (fun e w' q => q))).mono ?_
  rintro v w' ⟨rfl, rfl⟩
  exact ⟨rfl, rfl⟩
theorem RetQ.of1 {P : Program} {f : FuncId} {args : List Value} {w : World} {v : Value} (h : Ret P f args w fun v' w' => v' = v ∧ w = w') : RetQ P f args w v :=
  h.mono fun _ _ ⟨h1, h2⟩ => ⟨h1, 0, by subst h2; rfl⟩
theorem cmpL_skip : ∀ (i : Nat) (x y : Txts), (∀ j, j < i → x[j]? = y[j]?) → i ≤ x.length → i ≤ y.length → cmpL x y = cmpL (x.drop i) (y.drop i)
  | 0, x, y, _, _, _ => rfl
  | i + 1, [], y, _, h, _ => by simp at h
  | i + 1, x, [], _, _, h => by simp at h
  | i + 1, a :: x, b :: y, h, h1, h2 => by
    have h0 := h 0 (by omega)
    simp only [List.getElem?_cons_zero, Option.some.injEq] at h0
    subst h0
    rw [cmpL, if_pos rfl]
    simp only [List.drop_succ_cons]
    exact cmpL_skip i x y (fun j hj => by have := h (j + 1) (by omega); simpa using this) (by simpa using h1) (by simpa using h2)
theorem cmpL_at {x y : Txts} {i : Nat} (hs : ∀ j, j < i → x[j]? = y[j]?) (h1 : i < x.length) (h2 : i < y.length) (hne : x[i] ≠ y[i]) : cmpL x y = Go.Lib.compareBytes x[i] y[i] := by
  rw [cmpL_skip i x y hs (by omega) (by omega), List.drop_eq_getElem_cons h1, List.drop_eq_getElem_cons h2, cmpL, if_neg hne]
theorem cmpL_end {x y : Txts} {i : Nat} (hs : ∀ j, j < i → x[j]? = y[j]?) (hi : i = min x.length y.length) : cmpL x y = if x.length < y.length then -1 else if y.length < x.length then 1 else 0 := by
  rw [cmpL_skip i x y hs (by omega) (by omega)]
  rcases hx : x.drop i with _ | ⟨a, x'⟩
  · rcases hy : y.drop i with _ | ⟨b, y'⟩
    · have e1 := congrArg List.length hx
      have e2 := congrArg List.length hy
      simp only [List.length_drop, List.length_nil] at e1 e2
      rw [if_neg (by omega), if_neg (by omega)]
      rfl
    · have e1 := congrArg List.length hx
      have e2 := congrArg List.length hy
      simp only [List.length_drop, List.length_nil, List.length_cons] at e1 e2
      rw [if_pos (by omega)]
      rfl
  · rcases hy : y.drop i with _ | ⟨b, y'⟩
    · have e1 := congrArg List.length hx
      have e2 := congrArg List.length hy
      simp only [List.length_drop, List.length_nil, List.length_cons] at e1 e2
      rw [if_neg (by omega), if_pos (by omega)]
      rfl
    · have e1 := congrArg List.length hx
      have e2 := congrArg List.length hy
      simp only [List.length_drop, List.length_cons] at e1 e2
      omega
theorem same_snoc {x y : Txts} {i : Nat} (hs : ∀ j, j < i → x[j]? = y[j]?) (h1 : i < x.length) (h2 : i < y.length) (h : x[i] = y[i]) : ∀ j, j < i + 1 → x[j]? = y[j]? := fun j hj => by
  by_cases e : j = i
  · subst e
    rw [List.getElem?_eq_getElem h1, List.getElem?_eq_getElem h2, h]
  · exact hs j (by omega)
set_option maxRecDepth 20000 in
theorem cmp_s (a b : List UInt8) (ha : a.length ≤ 2000000) (hb : b.length ≤ 2000000) (w : World) (hG : MLen w) :
    Ret Tryz.prog 19 [str a, str b] w fun v w' => v = .int .i64 (cmpP a b) ∧ Ext w w' := by
  have la := parts_len a
  have lb := parts_len b
  refine Ret.enter Tryz.func19 rfl Tryz.ntmps19 (by kernel_rfl) rfl ?_
  refine KW.seq (KW.region ?_)
  refine OW.val rfl rfl (EX.assign rfl) ?_
  refine OW.nil ?_
  refine KW.seq (KW.region ?_)
  refine OW.val rfl rfl (EX.move rfl) ?_
  refine OW.call rfl rfl rfl (parts_p a ha w hG) ?_
  rintro _ w1 ⟨ba, rfl, hga, hba, hx1⟩
  refine OW.val rfl rfl (EX.move rfl) ?_
  refine OW.call rfl rfl rfl (parts_p b hb w1 (hG.ext hx1)) ?_
  rintro _ w2 ⟨bb, rfl, hgb, hbb, hx2⟩
  refine OW.val rfl rfl (EX.assign rfl) ?_
  refine OW.val rfl rfl (EX.assign rfl) ?_
  refine OW.nil ?_
  refine KW.seq (KW.seq (KW.region ?_))
  refine OW.val rfl rfl (EX.move rfl) ?_
  refine OW.val rfl rfl (EX.lenA Tryz.underlying81 rfl) ?_
  refine OW.val rfl rfl (EX.move rfl) ?_
  refine OW.val rfl rfl (EX.lenA Tryz.underlying81 rfl) ?_
  refine OW.val rfl rfl (by first | exact EX.minN rfl rfl | exact EX.minZ rfl rfl) ?_
  refine OW.val rfl rfl (EX.move rfl) ?_
  refine OW.nil ?_
  refine KW.block ?_
  have x2 := hx1.trans hx2
  have hba2 := hba.ext hx2
  unfold cmpP
  generalize hX : parts a = X at hba2 la
  generalize hY : parts b = Y at hbb lb
  refine KW.loop2 (fun (i : Nat) (wr : World) => i ≤ min X.length Y.length ∧ (∀ j, j < i → X[j]? = Y[j]?) ∧ Ext w2 wr) (fun (i : Nat) (wr : World) => [(5, .slice (some ⟨ba, 0, none⟩) X.length X.length), (6, .slice (some ⟨bb, 0, none⟩) Y.length Y.length), (16, .int .i64 (((min X.length Y.length) : Nat) : Int)), (17, .int .i64 ((i : Nat) : Int))]) (fun (i : Nat) (wr : World) => wr) (fun (i : Nat) (wr : World) => min X.length Y.length - i) (0) (w2) ⟨rfl, rfl, rfl, rfl, trivial⟩ rfl ?_ ?_
  · exact ⟨by omega, fun j hj => by omega, Ext.refl _⟩
  · rintro i wr ⟨hi, hs, hxr⟩
    have xr := x2.trans hxr
    have hbr := hba2.ext hxr
    have hcr := hbb.ext hxr
    refine KW.seq (KW.region ?_)
    refine OW.val rfl rfl (by first | exact EX.lssN rfl rfl | exact EX.lssZ rfl rfl) ?_
    refine OW.nil ?_
    refine KW.seq ?_
    refine KW.condD rfl (fun hlt => ?_) (fun hlt => ?_)
    · have h1 : i < X.length := by omega
      have h2 : i < Y.length := by omega
      have g1 := txtsV_get h1
      have g2 := txtsV_get h2
      refine KW.skip (KW.seq (KW.block (KW.seq (KW.region ?_))))
      refine OW.val rfl rfl (EX.move rfl) ?_
      refine OW.val rfl rfl (EX.assign rfl) ?_
      refine OW.nil ?_
      refine KW.seq ?_
      refine KW.regionQ (by kernel_rfl) (by kernel_rfl) ?_
      refine QW.val rfl rfl (fun _ => EX.move rfl) ?_
      refine QW.val rfl rfl (fun _ => EX.move rfl) ?_
      refine QW.val rfl rfl (fun _ => by first | exact EX.indexAddrS0 Tryz.underlying81 ti9 rfl rfl (by omega) | exact EX.indexAddrS1 Tryz.underlying81 ti9 rfl rfl (by omega)) ?_
      refine QW.val rfl rfl (fun _ => EX.load Tryz.underlying9 rfl rfl ((hbr.drewN _).cell_of g1)) ?_
      refine QW.val rfl rfl (fun _ => EX.move rfl) ?_
      refine QW.val rfl rfl (fun _ => EX.move rfl) ?_
      refine QW.val rfl rfl (fun _ => by first | exact EX.indexAddrS0 Tryz.underlying81 ti9 rfl rfl (by omega) | exact EX.indexAddrS1 Tryz.underlying81 ti9 rfl rfl (by omega)) ?_
      refine QW.val rfl rfl (fun _ => EX.load Tryz.underlying9 rfl rfl ((hcr.drewN _).cell_of g2)) ?_
      refine QW.val rfl rfl (fun _ => EX.neqS rfl rfl) ?_
      refine QW.nil (fun nq => ?_)
      refine KW.condD rfl (fun hne => ?_) (fun hne => ?_)
      · have hcm := cmpL_at hs h1 h2 hne
        have hbd := hbr.drewN nq
        have hcd := hcr.drewN nq
        refine KW.seq ?_
        refine KW.regionQ (by kernel_rfl) (by kernel_rfl) ?_
        refine QW.val rfl rfl (fun _ => EX.move rfl) ?_
        refine QW.val rfl rfl (fun _ => EX.move rfl) ?_
        refine QW.val rfl rfl (fun _ => by first | exact EX.indexAddrS0 Tryz.underlying81 ti9 rfl rfl (by omega) | exact EX.indexAddrS1 Tryz.underlying81 ti9 rfl rfl (by omega)) ?_
        refine QW.val rfl rfl (fun _ => EX.load Tryz.underlying9 rfl rfl ((hbd.drewN _).cell_of g1)) ?_
        refine QW.val rfl rfl (fun _ => EX.move rfl) ?_
        refine QW.val rfl rfl (fun _ => EX.move rfl) ?_
        refine QW.val rfl rfl (fun _ => by first | exact EX.indexAddrS0 Tryz.underlying81 ti9 rfl rfl (by omega) | exact EX.indexAddrS1 Tryz.underlying81 ti9 rfl rfl (by omega)) ?_
        refine QW.val rfl rfl (fun _ => EX.load Tryz.underlying9 rfl rfl ((hcd.drewN _).cell_of g2)) ?_
        refine QW.call rfl rfl rfl (fun _ => RetQ.of1 (compare_c X[i] Y[i] _)) ?_
        refine QW.val rfl rfl (fun _ => EX.assign rfl) ?_
        refine QW.nil (fun nq => ?_)
        refine KW.ret (ret1 rfl rfl ?_)
        rw [hcm]
        exact ⟨rfl, (xr.trans (Ext.drewN _ _)).trans (Ext.drewN _ _)⟩
      · refine KW.skip (KW.leave (KW.region ?_))
        refine OW.val rfl rfl (by first | exact EX.addN (b := 1) (m := 9223372036854775807) rfl rfl rfl (by omega) | exact EX.addZ (m := 9223372036854775807) rfl rfl rfl rfl (by omega)) ?_
        refine OW.val rfl rfl (EX.move rfl) ?_
        refine OW.nil ?_
        refine KW.back2 (i + 1) (wr.drewN nq) ⟨rfl, rfl, rfl, rfl, trivial⟩ rfl ?_ (by omega)
        exact ⟨by omega, same_snoc hs h1 h2 (by simpa using hne), hxr.trans (Ext.drewN wr nq)⟩
    · have hce := cmpL_end hs (by omega)
      refine KW.exit rfl (KW.seq (KW.block (KW.seq (KW.region ?_))))
      refine OW.val rfl rfl (EX.move rfl) ?_
      refine OW.val rfl rfl (EX.lenA Tryz.underlying81 rfl) ?_
      refine OW.val rfl rfl (EX.move rfl) ?_
      refine OW.val rfl rfl (EX.lenA Tryz.underlying81 rfl) ?_
      refine OW.val rfl rfl (by first | exact EX.lssN rfl rfl | exact EX.lssZ rfl rfl) ?_
      refine OW.val rfl rfl (EX.assign rfl) ?_
      refine OW.nil ?_
      refine KW.condD rfl (fun k1 => ?_) (fun k1 => ?_)
      · rw [if_pos k1] at hce
        refine KW.seq (KW.region ?_)
        refine OW.val rfl rfl (EX.assign rfl) ?_
        refine OW.nil ?_
        refine KW.ret (ret1 rfl rfl ?_)
        rw [hce]
        exact ⟨rfl, xr⟩
      · rw [if_neg k1] at hce
        refine KW.seq (KW.region ?_)
        refine OW.val rfl rfl (EX.move rfl) ?_
        refine OW.val rfl rfl (EX.lenA Tryz.underlying81 rfl) ?_
        refine OW.val rfl rfl (EX.move rfl) ?_
        refine OW.val rfl rfl (EX.lenA Tryz.underlying81 rfl) ?_
        refine OW.val rfl rfl (by first | exact EX.gtrN rfl rfl | exact EX.gtrZ rfl rfl) ?_
        refine OW.val rfl rfl (EX.assign rfl) ?_
        refine OW.nil ?_
        refine KW.condD rfl (fun k2 => ?_) (fun k2 => ?_)
        · rw [if_pos (by omega)] at hce
          refine KW.seq (KW.region ?_)
          refine OW.val rfl rfl (EX.assign rfl) ?_
          refine OW.nil ?_
          refine KW.ret (ret1 rfl rfl ?_)
          rw [hce]
          exact ⟨rfl, xr⟩
        · rw [if_neg (by omega)] at hce
          refine KW.skip (KW.leave (KW.seq (KW.region ?_)))
          refine OW.val rfl rfl (EX.assign rfl) ?_
          refine OW.nil ?_
          refine KW.ret (ret1 rfl rfl ?_)
          rw [hce]
          exact ⟨rfl, xr⟩
theorem less_cb : ∀ x y : List UInt8, lessB x y = decide (Go.Lib.compareBytes x y = -1)
  | [], [] => rfl
  | [], _ :: _ => rfl
  | _ :: _, [] => rfl
  | a :: x, b :: y => by
    have ih := less_cb x y
    unfold lessB at ih ⊢
    unfold Op.bytesLess Go.Lib.compareBytes
    rw [ih]
    by_cases h1 : a < b
    · simp [h1]
    · by_cases h2 : b < a
      · have h3 : a ≠ b := fun e => h1 (by subst e; exact h2)
        simp [h1, h2, h3]
      · have h3 : a = b := by
          have h1' : ¬ a.toNat < b.toNat := h1
          have h2' : ¬ b.toNat < a.toNat := h2
          exact UInt8.toNat_inj.1 (by omega)
        subst h3
        simp
set_option maxRecDepth 20000 in
theorem rcmp_s (a b : List UInt8) (ha : a.length ≤ 2000000) (hb : b.length ≤ 2000000) (w : World) :
    Ret Tryz.prog 40 [str a, str b] w fun v w' => v = .int .i64 (cmpP a b) ∧ Ext w w' := by
  have la := parts_len a
  have lb := parts_len b
  have pa : 0 < (parts a).length := List.length_pos_iff.2 (parts_ne a)
  have pb : 0 < (parts b).length := List.length_pos_iff.2 (parts_ne b)
  refine Ret.enter Tryz.func40 rfl Tryz.ntmps40 (by kernel_rfl) rfl ?_
  refine KW.seq (KW.region ?_)
  refine OW.val rfl rfl (EX.assign rfl) ?_
  refine OW.nil ?_
  refine KW.seq (KW.region ?_)
  refine OW.val rfl rfl (EX.move rfl) ?_
  refine OW.call rfl rfl rfl (rparts_s a (by omega) w) ?_
  rintro va w1 ⟨hoa, hx1⟩
  refine OW.val rfl rfl (EX.move rfl) ?_
  refine OW.call rfl rfl rfl (rparts_s b (by omega) w1) ?_
  rintro vb w2 ⟨hob, hx2⟩
  refine OW.val rfl rfl (EX.assign rfl) ?_
  refine OW.val rfl rfl (EX.assign rfl) ?_
  refine OW.nil ?_
  refine KW.seq (KW.seq (KW.region ?_))
  refine OW.val rfl rfl (EX.assign rfl) ?_
  refine OW.nil ?_
  refine KW.block ?_
  obtain ⟨ga, ca, ra, rfl, _, hba, _, _, _⟩ := (hoa.ext hx2).blk (by rw [txtsV_length]; exact pa)
  obtain ⟨gb, cb, rb, rfl, _, hbb, _, _, _⟩ := hob.blk (by rw [txtsV_length]; exact pb)
  have x2 := hx1.trans hx2
  clear hoa hob
  unfold cmpP
  generalize hX : parts a = X at hba la
  generalize hY : parts b = Y at hbb lb
  refine KW.loop2 (fun (i : Nat) (wr : World) => i ≤ X.length ∧ i ≤ Y.length ∧ (∀ j, j < i → X[j]? = Y[j]?) ∧ Ext w2 wr) (fun (i : Nat) (wr : World) => [(5, .slice (some ⟨ga, 0, none⟩) X.length ca), (6, .slice (some ⟨gb, 0, none⟩) Y.length cb), (7, .int .i64 ((i : Nat) : Int))]) (fun (i : Nat) (wr : World) => wr) (fun (i : Nat) (wr : World) => X.length - i) (0) (w2) ⟨rfl, rfl, rfl, trivial⟩ rfl ?_ ?_
  · exact ⟨by omega, by omega, fun j hj => by omega, Ext.refl _⟩
  · rintro i wr ⟨hi, hi2, hs, hxr⟩
    have xr := x2.trans hxr
    have hbr := hba.ext hxr
    have hcr := hbb.ext hxr
    have hend : i = min X.length Y.length → cmpL X Y = if X.length < Y.length then -1 else if Y.length < X.length then 1 else 0 := cmpL_end hs
    refine KW.seq (KW.seq ?_)
    refine KW.region ?_
    refine OW.val rfl rfl (EX.move rfl) ?_
    refine OW.val rfl rfl (EX.move rfl) ?_
    refine OW.val rfl rfl (EX.lenA Tryz.underlying81 rfl) ?_
    refine OW.val rfl rfl (by first | exact EX.lssN rfl rfl | exact EX.lssZ rfl rfl) ?_
    refine OW.val rfl rfl (EX.move rfl) ?_
    refine OW.splitD 16 rfl (fun c1 => ?_) (fun c1 => ?_)
    · refine OW.val rfl rfl (EX.move rfl) ?_
      refine OW.val rfl rfl (EX.move rfl) ?_
      refine OW.val rfl rfl (EX.lenA Tryz.underlying81 rfl) ?_
      refine OW.val rfl rfl (by first | exact EX.lssN rfl rfl | exact EX.lssZ rfl rfl) ?_
      refine OW.val rfl rfl (EX.pickT rfl rfl) ?_
      refine OW.nil ?_
      refine KW.condD rfl (fun c2 => ?_) (fun c2 => ?_)
      · have g1 : (txtsV X ++ ra)[i]? = some (str X[i]) := by rw [List.getElem?_append_left (by rw [txtsV_length]; exact c1)]; exact txtsV_get c1
        have g2 : (txtsV Y ++ rb)[i]? = some (str Y[i]) := by rw [List.getElem?_append_left (by rw [txtsV_length]; exact c2)]; exact txtsV_get c2
        refine KW.skip (KW.seq (KW.block (KW.seq (KW.seq ?_))))
        refine KW.regionQ (by kernel_rfl) (by kernel_rfl) ?_
        refine QW.val rfl rfl (fun _ => EX.move rfl) ?_
        refine QW.val rfl rfl (fun _ => EX.move rfl) ?_
        refine QW.val rfl rfl (fun _ => by first | exact EX.indexAddrS0 Tryz.underlying81 ti9 rfl rfl (by omega) | exact EX.indexAddrS1 Tryz.underlying81 ti9 rfl rfl (by omega)) ?_
        refine QW.val rfl rfl (fun _ => EX.load Tryz.underlying9 rfl rfl ((hbr.drewN _).cell_of g1)) ?_
        refine QW.val rfl rfl (fun _ => EX.move rfl) ?_
        refine QW.val rfl rfl (fun _ => EX.move rfl) ?_
        refine QW.val rfl rfl (fun _ => by first | exact EX.indexAddrS0 Tryz.underlying81 ti9 rfl rfl (by omega) | exact EX.indexAddrS1 Tryz.underlying81 ti9 rfl rfl (by omega)) ?_
        refine QW.val rfl rfl (fun _ => EX.load Tryz.underlying9 rfl rfl ((hcr.drewN _).cell_of g2)) ?_
        refine QW.val rfl rfl (fun _ => EX.lssS rfl rfl) ?_
        refine QW.nil (fun nq => ?_)
        rw [less_cb]
        refine KW.condD rfl (fun l1 => ?_) (fun l1 => ?_)
        · have hne : X[i] ≠ Y[i] := fun e => by rw [(Go.Proofs.YtjgeoeeikfjmdaaGreatDoor.Pth.cb_eq _ _).2 e] at l1; omega
          have hcm := cmpL_at hs c1 c2 hne
          refine KW.seq (KW.region ?_)
          refine OW.val rfl rfl (EX.assign rfl) ?_
          refine OW.nil ?_
          refine KW.ret (ret1 rfl rfl ?_)
          rw [hcm, l1]
          exact ⟨rfl, xr.trans (Ext.drewN _ _)⟩
        · have hbd := hbr.drewN nq
          have hcd := hcr.drewN nq
          refine KW.skip (KW.seq ?_)
          refine KW.regionQ (by kernel_rfl) (by kernel_rfl) ?_
          refine QW.val rfl rfl (fun _ => EX.move rfl) ?_
          refine QW.val rfl rfl (fun _ => EX.move rfl) ?_
          refine QW.val rfl rfl (fun _ => by first | exact EX.indexAddrS0 Tryz.underlying81 ti9 rfl rfl (by omega) | exact EX.indexAddrS1 Tryz.underlying81 ti9 rfl rfl (by omega)) ?_
          refine QW.val rfl rfl (fun _ => EX.load Tryz.underlying9 rfl rfl ((hbd.drewN _).cell_of g1)) ?_
          refine QW.val rfl rfl (fun _ => EX.move rfl) ?_
          refine QW.val rfl rfl (fun _ => EX.move rfl) ?_
          refine QW.val rfl rfl (fun _ => by first | exact EX.indexAddrS0 Tryz.underlying81 ti9 rfl rfl (by omega) | exact EX.indexAddrS1 Tryz.underlying81 ti9 rfl rfl (by omega)) ?_
          refine QW.val rfl rfl (fun _ => EX.load Tryz.underlying9 rfl rfl ((hcd.drewN _).cell_of g2)) ?_
          refine QW.val rfl rfl (fun _ => EX.gtrS rfl rfl) ?_
          refine QW.nil (fun nq => ?_)
          refine KW.as 41 (.bool (decide (X[i] ≠ Y[i]))) rfl (congrArg Value.bool (by rw [less_cb, decide_eq_false l1, Bool.false_or, Bool.eq_iff_iff]; simp)) ?_
          refine KW.condD rfl (fun hne => ?_) (fun hne => ?_)
          · have hcm := cmpL_at hs c1 c2 hne
            have hv : Go.Lib.compareBytes X[i] Y[i] = 1 := by
              rcases cb_val X[i] Y[i] with h | h | h
              · exact absurd h l1
              · exact absurd ((cb_eq _ _).1 h) hne
              · exact h
            refine KW.seq (KW.region ?_)
            refine OW.val rfl rfl (EX.assign rfl) ?_
            refine OW.nil ?_
            refine KW.ret (ret1 rfl rfl ?_)
            rw [hcm, hv]
            exact ⟨rfl, (xr.trans (Ext.drewN _ _)).trans (Ext.drewN _ _)⟩
          · have hsn := same_snoc hs c1 c2 (by simpa using hne)
            refine KW.skip (KW.leave (KW.region ?_))
            refine OW.val rfl rfl (EX.move rfl) ?_
            refine OW.val rfl rfl (by first | exact EX.addN (b := 1) (m := 9223372036854775807) rfl rfl rfl (by omega) | exact EX.addZ (m := 9223372036854775807) rfl rfl rfl rfl (by omega)) ?_
            refine OW.val rfl rfl (EX.assign rfl) ?_
            refine OW.nil ?_
            refine KW.back2 (i + 1) ((wr.drewN _).drewN _) ⟨rfl, rfl, rfl, trivial⟩ rfl ?_ (by omega)
            exact ⟨by omega, by omega, hsn, (hxr.trans (Ext.drewN _ _)).trans (Ext.drewN _ _)⟩
      · have hce := hend (by omega)
        refine KW.exit rfl (KW.seq (KW.seq (KW.region ?_)))
        refine OW.val rfl rfl (EX.move rfl) ?_
        refine OW.val rfl rfl (EX.lenA Tryz.underlying81 rfl) ?_
        refine OW.val rfl rfl (EX.move rfl) ?_
        refine OW.val rfl rfl (EX.lenA Tryz.underlying81 rfl) ?_
        refine OW.val rfl rfl (by first | exact EX.lssN rfl rfl | exact EX.lssZ rfl rfl) ?_
        refine OW.nil ?_
        refine KW.condD rfl (fun k1 => ?_) (fun k1 => ?_)
        · omega
        · rw [if_neg k1] at hce
          refine KW.skip (KW.seq (KW.seq (KW.region ?_)))
          refine OW.val rfl rfl (EX.move rfl) ?_
          refine OW.val rfl rfl (EX.lenA Tryz.underlying81 rfl) ?_
          refine OW.val rfl rfl (EX.move rfl) ?_
          refine OW.val rfl rfl (EX.lenA Tryz.underlying81 rfl) ?_
          refine OW.val rfl rfl (by first | exact EX.gtrN rfl rfl | exact EX.gtrZ rfl rfl) ?_
          refine OW.nil ?_
          refine KW.condD rfl (fun k2 => ?_) (fun k2 => ?_)
          · rw [if_pos (by omega)] at hce
            refine KW.seq (KW.region ?_)
            refine OW.val rfl rfl (EX.assign rfl) ?_
            refine OW.nil ?_
            refine KW.ret (ret1 rfl rfl ?_)
            rw [hce]
            exact ⟨rfl, xr⟩
          · omega
    · have hce := hend (by omega)
      refine OW.pass rfl rfl ?_
      refine OW.pass rfl rfl ?_
      refine OW.pass rfl rfl ?_
      refine OW.pass rfl rfl ?_
      refine OW.val rfl rfl (EX.pickF rfl rfl) ?_
      refine OW.nil ?_
      refine KW.condF rfl (KW.exit rfl (KW.seq (KW.seq (KW.region ?_))))
      refine OW.val rfl rfl (EX.move rfl) ?_
      refine OW.val rfl rfl (EX.lenA Tryz.underlying81 rfl) ?_
      refine OW.val rfl rfl (EX.move rfl) ?_
      refine OW.val rfl rfl (EX.lenA Tryz.underlying81 rfl) ?_
      refine OW.val rfl rfl (by first | exact EX.lssN rfl rfl | exact EX.lssZ rfl rfl) ?_
      refine OW.nil ?_
      refine KW.condD rfl (fun k1 => ?_) (fun k1 => ?_)
      · rw [if_pos k1] at hce
        refine KW.seq (KW.region ?_)
        refine OW.val rfl rfl (EX.assign rfl) ?_
        refine OW.nil ?_
        refine KW.ret (ret1 rfl rfl ?_)
        rw [hce]
        exact ⟨rfl, xr⟩
      · rw [if_neg k1] at hce
        refine KW.skip (KW.seq (KW.seq (KW.region ?_)))
        refine OW.val rfl rfl (EX.move rfl) ?_
        refine OW.val rfl rfl (EX.lenA Tryz.underlying81 rfl) ?_
        refine OW.val rfl rfl (EX.move rfl) ?_
        refine OW.val rfl rfl (EX.lenA Tryz.underlying81 rfl) ?_
        refine OW.val rfl rfl (by first | exact EX.gtrN rfl rfl | exact EX.gtrZ rfl rfl) ?_
        refine OW.nil ?_
        refine KW.condD rfl (fun k2 => ?_) (fun k2 => ?_)
        · omega
        · rw [if_neg (by omega)] at hce
          refine KW.skip (KW.seq (KW.region ?_))
          refine OW.val rfl rfl (EX.assign rfl) ?_
          refine OW.nil ?_
          refine KW.ret (ret1 rfl rfl ?_)
          rw [hce]
          exact ⟨rfl, xr⟩
end Go.Proofs.YtjgeoeeikfjmdaaGreatDoor
/- Maps that a call made, with texts as keys: made, stored into, deleted from, ranged over. No program is spoken of. -/
namespace Go.Proofs.YtjgeoeeikfjmdaaGreatDoor
set_option linter.unnecessarySimpa false
open Go.RowKit Go.MapKept
open Go.ChangeMaps (setBlock)
set_option linter.unusedVariables false
set_option linter.unusedSimpArgs false
abbrev Ents := List (List UInt8 × Value)
/-- a map: its entries in the order in which they came -/
structure Mp (w : World) (b : Nat) (es : Array MapEntry) (c : Nat) (l : Ents) : Prop where
  blk : w.heap[b]? = some (.map es c)
  st : Stamped es c
  kv : es.toList.map (fun e => (e.key, e.val)) = l.map (fun p => (str p.1, p.2))
def putA {α : Type} (l : List (List UInt8 × α)) (s : List UInt8) (v : α) : List (List UInt8 × α) := if s ∈ l.map (·.1) then l.map (fun p => if p.1 = s then (s, v) else p) else l ++ [(s, v)]
def delA {α : Type} (l : List (List UInt8 × α)) (s : List UInt8) : List (List UInt8 × α) := l.filter (fun p => decide (p.1 ≠ s))
theorem str_inj {a b : List UInt8} (h : str a = str b) : a = b := by
  injection h with h
  injection h with h
  injection h
section
variable {w w' : World} {b c : Nat} {es : Array MapEntry} {l : Ents}
theorem Mp.lt (h : Mp w b es c l) : b < w.heap.size := by
  rcases Nat.lt_or_ge b w.heap.size with h' | h'
  · exact h'
  · have := h.blk
    simp [Array.getElem?_eq_none h'] at this
theorem Mp.of_block (h : Mp w b es c l) (hb : w'.heap[b]? = w.heap[b]?) : Mp w' b es c l := ⟨hb.trans h.blk, h.st, h.kv⟩
theorem Mp.ext (h : Mp w b es c l) (hx : Ext w w') : Mp w' b es c l := h.of_block (hx.block b h.lt)
theorem Mp.mo {S : List Nat} (h : Mp w b es c l) (hm : Mo w w' S) (hb : b ∉ S) : Mp w' b es c l := h.of_block (hm.block b h.lt hb)
theorem Mp.ne_bk {k : Nat} {T : TypeId} {xs : List Value} (h : Mp w b es c l) (hb : Bk w k T xs) : k ≠ b := by
  rintro rfl
  obtain ⟨fr, h1, _⟩ := hb
  rw [h.blk] at h1
  cases h1
theorem Mp.len (h : Mp w b es c l) : es.toList.length = l.length := by
  have := congrArg List.length h.kv
  simpa using this
theorem Mp.at {j : Nat} {e : MapEntry} (h : Mp w b es c l) (he : es.toList[j]? = some e) : ∃ p, l[j]? = some p ∧ e.key = str p.1 ∧ e.val = p.2 := by
  have h1 := congrArg (fun z => z[j]?) h.kv
  simp only [List.getElem?_map, he, Option.map_some] at h1
  obtain ⟨p, h2, h3⟩ := Option.map_eq_some_iff.1 h1.symm
  injection h3 with h4 h5
  exact ⟨p, h2, h4.symm, h5.symm⟩
theorem Mp.mem {e : MapEntry} (h : Mp w b es c l) (he : e ∈ es.toList) : ∃ p ∈ l, e.key = str p.1 ∧ e.val = p.2 := by
  obtain ⟨j, hj⟩ := List.mem_iff_getElem?.1 he
  obtain ⟨p, h1, h2⟩ := h.at hj
  exact ⟨p, List.mem_of_getElem? h1, h2⟩
theorem Mp.keys (h : Mp w b es c l) : (l.map (·.1)).Nodup := by
  have h1 : (es.toList.map (·.key)) = l.map (fun p => str p.1) := by
    have := congrArg (List.map Prod.fst) h.kv
    simpa [List.map_map, Function.comp_def] using this
  have h2 := h.st.2.2
  rw [h1] at h2
  have h3 : l.map (fun p => str p.1) = (l.map (·.1)).map str := by rw [List.map_map]; rfl
  rw [h3] at h2
  exact List.Pairwise.of_map str (fun a b hab e => hab (congrArg str e)) h2
theorem mo_setBlock (w : World) (b : Nat) (o : Obj) : Mo w (setBlock w b o) [b] := ⟨rfl, rfl, rfl, by simp [setBlock], fun k _ hk => by simp at hk; simp [setBlock, Array.getElem?_setIfInBounds_ne (Ne.symm hk)]⟩
theorem setBlock_at {o : Obj} (h : b < w.heap.size) : (setBlock w b o).heap[b]? = some o := by simp [setBlock, h]
theorem putA_at : ∀ {l : Ents} {j : Nat} {p : List UInt8 × Value} (v : Value), (l.map (·.1)).Nodup → l[j]? = some p → putA l p.1 v = l.set j (p.1, v)
  | l, j, p, v, hn, hj => by
    have hm : p.1 ∈ l.map (·.1) := List.mem_map.2 ⟨p, List.mem_of_getElem? hj, rfl⟩
    unfold putA
    rw [if_pos hm]
    apply List.ext_getElem?
    intro k
    rw [List.getElem?_map, List.getElem?_set]
    by_cases e : j = k
    · subst e
      have hl : j < l.length := (List.getElem?_eq_some_iff.1 hj).1
      rw [hj, if_pos rfl]
      simp [hl]
    · rw [if_neg e]
      cases hk : l[k]? with
      | none => rfl
      | some q =>
        have : q.1 ≠ p.1 := fun z => by
          have h1 : (l.map (·.1))[k]? = some p.1 := by rw [List.getElem?_map, hk, ← z]; rfl
          have h2 : (l.map (·.1))[j]? = some p.1 := by rw [List.getElem?_map, hj]; rfl
          obtain ⟨i1, g1⟩ := List.getElem?_eq_some_iff.1 h1
          obtain ⟨i2, g2⟩ := List.getElem?_eq_some_iff.1 h2
          exact e ((List.getElem_inj hn).1 (g2.trans g1.symm))
        simp [this]
theorem delA_at : ∀ {l : Ents} {j : Nat} {p : List UInt8 × Value}, (l.map (·.1)).Nodup → l[j]? = some p → delA l p.1 = l.eraseIdx j
  | q :: l, 0, p, hn, hj => by
    simp only [List.getElem?_cons_zero, Option.some.injEq] at hj
    subst hj
    simp only [List.map_cons, List.nodup_cons] at hn
    simp only [delA, List.eraseIdx_cons_zero, List.filter_cons, ne_eq, not_true_eq_false, decide_false, Bool.false_eq_true, if_false]
    refine List.filter_eq_self.2 fun r hr => ?_
    simp only [decide_eq_true_eq]
    exact fun z => hn.1 (z ▸ List.mem_map.2 ⟨r, hr, rfl⟩)
  | q :: l, j + 1, p, hn, hj => by
    simp only [List.getElem?_cons_succ] at hj
    simp only [List.map_cons, List.nodup_cons] at hn
    have hne : q.1 ≠ p.1 := fun z => hn.1 (z ▸ List.mem_map.2 ⟨p, List.mem_of_getElem? hj, rfl⟩)
    have ih := delA_at hn.2 hj
    simp only [delA] at ih ⊢
    rw [List.filter_cons, if_pos (by simpa using hne), ih, List.eraseIdx_cons_succ]
theorem mem_entries {l : Ents} {s : List UInt8} {es : Array MapEntry} (hkv : es.toList.map (fun e => (e.key, e.val)) = l.map (fun p => (str p.1, p.2))) (h : ∀ x ∈ es.toList, x.key ≠ str s) : s ∉ l.map (·.1) := fun hm => by
  obtain ⟨p, hp, rfl⟩ := List.mem_map.1 hm
  have : (str p.1, p.2) ∈ es.toList.map (fun e => (e.key, e.val)) := by rw [hkv]; exact List.mem_map.2 ⟨p, hp, rfl⟩
  obtain ⟨x, hx, e⟩ := List.mem_map.1 this
  injection e with e1 e2
  exact h x hx e1
theorem Mp.isKey (h : Mp w b es c l) : ∀ x ∈ es.toList, IsKey .string x.key := fun x hx => by
  obtain ⟨p, _, e, _⟩ := h.mem hx
  rw [e]
  trivial
variable {P : Program} {t k e : TypeId}
theorem run_put (ht : P.underlying t = some (.map k e)) (hk : P.underlying k = some .string) (h : Mp w b es c l) (s : List UInt8) (v : Value) :
    ∃ es' c', (Instr.mapUpdate t (.map (some b)) (str s) v).run P w = .ok () (setBlock w b (.map es' c')) ∧ Mp (setBlock w b (.map es' c')) b es' c' (putA l s v) := by
  have hkey : IsKey .string (str s) := trivial
  rcases findNow_spec hkey es.toList 0 h.isKey with ⟨h1, h2⟩ | ⟨j, e0, h1, h2, h3⟩
  · refine ⟨es.push ⟨str s, v, c⟩, c + 1, ?_, ⟨setBlock_at h.lt, stamped_push h.st h2, ?_⟩⟩
    · simp [Instr.mapUpdate, run_underlying ht, MapKept.run_getObj_map h.blk, run_checkKey hk hkey, run_findKey hk h1, MapKept.run_setObj_map _ h.blk, Result.andThen, setBlock]
    · unfold putA
      rw [if_neg (mem_entries h.kv h2), Array.toList_push, List.map_append, List.map_append, h.kv]
      rfl
  · have hj : es[j]? = some e0 := by simpa using h2
    obtain ⟨p, hp, hpk, hpv⟩ := h.at h2
    have es1 : str s = str p.1 := h3.symm.trans hpk
    obtain rfl := str_inj es1
    have hkeyf : ∀ e', es[j]? = some e' → ({ e' with key := str p.1, val := v } : MapEntry).key = e'.key := fun e' he' => by rw [hj] at he'; cases he'; exact h3.symm
    refine ⟨es.modify j (fun e' => { e' with key := str p.1, val := v }), c, ?_, ⟨setBlock_at h.lt, stamped_modify h.st _ _ (fun _ _ => rfl) (fun e' _ he' => hkeyf e' he'), ?_⟩⟩
    · simp [Instr.mapUpdate, run_underlying ht, MapKept.run_getObj_map h.blk, run_checkKey hk hkey, run_findKey hk h1, hj, h3, run_keyThatStays hkey, MapKept.run_setObj_map _ h.blk, Result.andThen, setBlock]
    · rw [putA_at v h.keys hp, Array.toList_modify, List.map_set, ← h.kv]
      apply List.ext_getElem?
      intro i
      rw [List.getElem?_set, List.getElem?_map, List.getElem?_modify, List.getElem?_map, List.length_map]
      by_cases q : j = i
      · subst q
        have hl : j < es.toList.length := (List.getElem?_eq_some_iff.1 h2).1
        rw [if_pos rfl, h2, if_pos (by simpa using hl)]
        simp
      · rw [if_neg q]
        simp [q]
theorem run_del {ty : TypeId} (ht : P.underlying t = some (.map k e)) (hk : P.underlying k = some .string) (h : Mp w b es c l) (s : List UInt8) :
    ∃ es', (Builtin.delete_ #[t, k] ty #[.map (some b), str s]).run P w = .ok (.tuple #[]) (setBlock w b (.map es' c)) ∧ Mp (setBlock w b (.map es' c)) b es' c (delA l s) := by
  have hkey : IsKey .string (str s) := trivial
  rcases findNow_spec hkey es.toList 0 h.isKey with ⟨h1, h2⟩ | ⟨j, e0, h1, h2, h3⟩
  · refine ⟨es, ?_, ⟨setBlock_at h.lt, h.st, ?_⟩⟩
    · simp [Builtin.delete_, run_underlying ht, MapKept.run_getObj_map h.blk, run_checkKey hk hkey, run_findKey hk h1, MapKept.run_setObj_map _ h.blk, Result.andThen, setBlock]
    · rw [h.kv]
      congr 1
      unfold delA
      refine (List.filter_eq_self.2 fun p hp => ?_).symm
      simp only [decide_eq_true_eq]
      exact fun z => mem_entries h.kv h2 (z ▸ List.mem_map.2 ⟨p, hp, rfl⟩)
  · have hjl : j < es.toList.length := (List.getElem?_eq_some_iff.1 h2).1
    have hjs : j < es.size := by simpa using hjl
    have hsub : (es.eraseIdxIfInBounds j).toList = es.toList.eraseIdx j := by
      unfold Array.eraseIdxIfInBounds
      rw [dif_pos hjs]
      simp
    obtain ⟨p, hp, hpk, hpv⟩ := h.at h2
    obtain rfl := str_inj (h3.symm.trans hpk)
    refine ⟨es.eraseIdxIfInBounds j, ?_, ⟨setBlock_at h.lt, stamped_erase h.st j, ?_⟩⟩
    · simp [Builtin.delete_, run_underlying ht, MapKept.run_getObj_map h.blk, run_checkKey hk hkey, run_findKey hk h1, MapKept.run_setObj_map _ h.blk, Result.andThen, setBlock]
    · rw [delA_at h.keys hp, hsub, ChangeMaps.map_eraseIdx, h.kv, ← ChangeMaps.map_eraseIdx]
end
/-! ### Steps -/
/-- an iterator over a map -/
def It (w : World) (r b since : Nat) (seen : Array Nat) (c : Nat) : Prop := w.heap[r]? = some (.mapIter (some b) since seen c)
section
variable {P : Program} {R : Act → World → Prop} {ops : Array Oper} {rest : List Oper} {k : List KI} {n : Nat} {σ : Sig} {w : World} {x y z : Operand} {t e kt ty : TypeId} {pos : String} {after : Array Edge} {gd : Option (Nat × Bool)} {d : Nat}
theorem OW.makeMap (hg : wantS ops σ gd = some true) (hd : Nat.blt d n = true)
    (h : ∀ b w', w.heap.size ≤ b → Mp w' b #[] 0 [] → Ext w w' → OW P R ops rest k n ((d, .map (some b)) :: σ) w') :
    OW P R ops (⟨some d, .makeMap t none, ty, pos, after, gd⟩ :: rest) k n σ w := by
  refine OW.val hg hd (v := .map (some w.heap.size)) (w' := w.alloc (.map #[] 0)) ?_ (h _ _ (Nat.le_refl _) ⟨heap_alloc_new w _, ⟨by simp, by simp, by simp⟩, rfl⟩ (Ext.alloc w _))
  intro a ha dst pos after g
  simp only [execOp, Option.map_none, run_makeMap, Sem.run_bind, Result.andThen_ok, Sem.run_pure]
theorem EU.put {b c : Nat} {es es' : Array MapEntry} {c' : Nat} {v : Value} {s : List UInt8} (hx : ev σ x = some (.map (some b))) (hy : ev σ y = some (str s)) (hz : ev σ z = some v)
    (h : (Instr.mapUpdate t (.map (some b)) (str s) v).run P w = .ok () (setBlock w b (.map es' c'))) : EU P n σ (.mapUpdate t x y z) ty w (setBlock w b (.map es' c')) := by
  intro a ha dst pos after g
  simp only [execOp, ha.ev hx, ha.ev hy, ha.ev hz, h, Sem.run_bind, Result.andThen_ok, Sem.run_pure]
theorem OW.put {b c : Nat} {es : Array MapEntry} {l : Ents} {v : Value} {s : List UInt8} (hg : wantS ops σ gd = some true) (ht : P.underlying t = some (.map kt e)) (hk : P.underlying kt = some .string) (hx : ev σ x = some (.map (some b))) (hy : ev σ y = some (str s)) (hz : ev σ z = some v) (hm : Mp w b es c l)
    (h : ∀ es' c' w', Mp w' b es' c' (putA l s v) → Mo w w' [b] → OW P R ops rest k n σ w') :
    OW P R ops (⟨none, .mapUpdate t x y z, ty, pos, after, gd⟩ :: rest) k n σ w := by
  obtain ⟨es', c', h1, h2⟩ := run_put ht hk hm s v
  exact OW.eff hg (EU.put (c := c) (es := es) hx hy hz h1) (h es' c' _ h2 (mo_setBlock w b _))
theorem OW.del {b c : Nat} {es : Array MapEntry} {l : Ents} {s : List UInt8} (hg : wantS ops σ gd = some true) (hd : Nat.blt d n = true) (ht : P.underlying t = some (.map kt e)) (hk : P.underlying kt = some .string) (hx : ev σ x = some (.map (some b))) (hy : ev σ y = some (str s)) (hm : Mp w b es c l)
    (h : ∀ es' c' w', Mp w' b es' c' (delA l s) → Mo w w' [b] → OW P R ops rest k n ((d, .tuple #[]) :: σ) w') :
    OW P R ops (⟨some d, .call { callee := .builtin .delete, args := #[x, y], argTypes := #[t, kt] }, ty, pos, after, gd⟩ :: rest) k n σ w := by
  obtain ⟨es', h1, h2⟩ := run_del (ty := ty) ht hk hm s
  refine OW.val hg hd (v := .tuple #[]) (w' := setBlock w b (.map es' c)) ?_ (h es' c _ h2 (mo_setBlock w b _))
  intro a ha dst pos after g
  simp only [execOp, resolve, invoke, builtin, Sem.run_bind, Sem.run_pure, Result.andThen_ok, List.map_toArray, List.map_cons, List.map_nil, ha.ev hx, ha.ev hy, h1]
theorem OW.range {b c : Nat} {es : Array MapEntry} {l : Ents} (hg : wantS ops σ gd = some true) (hd : Nat.blt d n = true) (ht : P.underlying t = some (.map kt e)) (hx : ev σ x = some (.map (some b))) (hm : Mp w b es c l)
    (h : ∀ r w', w.heap.size ≤ r → It w' r b c #[] c → Ext w w' → OW P R ops rest k n ((d, .pointer (some ⟨r, 0, none⟩)) :: σ) w') :
    OW P R ops (⟨some d, .range t x, ty, pos, after, gd⟩ :: rest) k n σ w := by
  refine OW.val hg hd (v := .pointer (some ⟨w.heap.size, 0, none⟩)) (w' := w.alloc (.mapIter (some b) c #[] c)) ?_ (h _ _ (Nat.le_refl _) (heap_alloc_new w _) (Ext.alloc w _))
  intro a ha dst pos after g
  simp [execOp, Instr.range, ha.ev hx, run_underlying ht, MapKept.run_getObj_map hm.blk, run_newObj_alloc, Sem.run_bind, Result.andThen_ok, Sem.run_pure]
theorem OW.next {r b c : Nat} {es : Array MapEntry} {l : Ents} {seen : Array Nat} (hg : wantS ops σ gd = some true) (hd : Nat.blt d n = true) (hx : ev σ x = some (.pointer (some ⟨r, 0, none⟩))) (hm : Mp w b es c l) (hi : It w r b c seen c)
    (h0 : (∀ e ∈ es.toList, e.born ∈ seen) → OW P R ops rest k n ((d, .tuple #[.bool false]) :: σ) w)
    (h1 : ∀ (e : MapEntry) w', e ∈ es.toList → e.born ∉ seen → It w' r b c (seen.push e.born) c → Mo w w' [r] → OW P R ops rest k n ((d, .tuple #[.bool true, e.key, e.val]) :: σ) w') :
    OW P R ops (⟨some d, .next x false, ty, pos, after, gd⟩ :: rest) k n σ w := by
  have hr : r < w.heap.size := by
    rcases Nat.lt_or_ge r w.heap.size with h' | h'
    · exact h'
    · unfold It at hi; simp [Array.getElem?_eq_none h'] at hi
  rcases run_next_at (P := P) w ty r b c c seen es c hi hm.blk hm.st.1 (Nat.le_refl _) with ⟨h2, h3⟩ | ⟨e, he, w1, hw, h3⟩
  · refine OW.val hg hd (v := .tuple #[.bool false]) (w' := w) ?_ (h0 ?_)
    · intro a ha dst pos after g
      simp only [execOp, ha.ev hx, h3, Sem.run_bind, Result.andThen_ok, Sem.run_pure]
    · intro e he
      unfold leftOf at h2
      have h4 := Array.eq_empty_of_size_eq_zero h2
      rw [Array.filter_eq_empty_iff] at h4
      have := h4 e (by simpa using he)
      simpa using this
  · have he2 : e ∈ es.toList ∧ e.born ∉ seen := by
      unfold leftOf at he
      simp at he
      exact ⟨by simpa using he.1, he.2⟩
    have hmo : Mo w (setBlock w1 r (.mapIter (some b) c (seen.push e.born) c)) [r] := by
      refine Mo.trans ?_ (mo_setBlock w1 r _)
      rcases hw with rfl | rfl
      · exact Mo.refl _ _
      · exact Mo.of_ext (Ext.drew w) _
    have hr1 : r < w1.heap.size := by rcases hw with rfl | rfl <;> exact hr
    refine OW.val hg hd (v := .tuple #[.bool true, e.key, e.val]) ?_ (h1 e _ he2.1 he2.2 (setBlock_at hr1) hmo)
    intro a ha dst pos after g
    simp only [execOp, ha.ev hx, h3, Sem.run_bind, Result.andThen_ok, Sem.run_pure]
theorem EX.entry {r b c : Nat} {es : Array MapEntry} {l : Ents} {seen : Array Nat} {e : MapEntry} (hx : ev σ x = some (.pointer (some ⟨r, 0, none⟩))) (hm : Mp w b es c l) (hi : It w r b c (seen.push e.born) c) (he : e ∈ es.toList) :
    EX P n σ (.entry x) ty w (.tuple #[e.key, e.val]) w := by
  intro a ha dst pos after g
  have := run_entry_at (P := P) w r b c seen es c e hi hm.blk he hm.st.2.1
  simp only [execOp, ha.ev hx, this, Sem.run_bind, Result.andThen_ok, Sem.run_pure]
end
end Go.Proofs.YtjgeoeeikfjmdaaGreatDoor
/- slices.SortFunc over structs that the call made: what it does, in the engine's words. No program is spoken of. -/
namespace Go.Proofs.YtjgeoeeikfjmdaaGreatDoor
set_option linter.unnecessarySimpa false
open Go.RowKit Go.Shelf
set_option linter.unusedVariables false
set_option linter.unusedSimpArgs false
/-- all is as it was; blocks are new, and it was drawn -/
def Gr (w w' : World) : Prop := Ext w w' ∧ w.drawn ≤ w'.drawn
theorem Gr.refl (w : World) : Gr w w := ⟨Ext.refl w, Nat.le_refl _⟩
theorem Gr.trans {a b c : World} (h : Gr a b) (k : Gr b c) : Gr a c := ⟨h.1.trans k.1, Nat.le_trans h.2 k.2⟩
theorem Gr.drewN (w : World) (m : Nat) : Gr w (w.drewN m) := ⟨Ext.drewN w m, by show w.drawn ≤ w.drawn + m; omega⟩
theorem Gr.alloc (w : World) (o : Obj) : Gr w (w.alloc o) := ⟨Ext.alloc w o, Nat.le_refl _⟩
theorem Gr.grow {w w' : World} (h : Gr w w') : ∃ q os, w' = Go.Sort.grow (w.drewN q) os := by
  obtain ⟨⟨h1, h2, h3, h4, h5⟩, h6⟩ := h
  obtain ⟨heap, tape, drawn, os, out⟩ := w
  obtain ⟨heap', tape', drawn', os', out'⟩ := w'
  simp only at h1 h2 h3 h4 h5 h6
  subst h1 h2 h3
  refine ⟨drawn' - drawn, heap'.extract heap.size heap'.size, ?_⟩
  have e : heap ++ heap'.extract heap.size heap'.size = heap' := by
    apply Array.ext_getElem?
    intro i
    by_cases hi : i < heap.size
    · rw [Array.getElem?_append_left hi, h5 i hi]
    · rw [Array.getElem?_append_right (by omega), Array.getElem?_extract]
      by_cases hj : i < heap'.size
      · rw [if_pos (by omega)]
        congr 1
        omega
      · rw [if_neg (by omega), Array.getElem?_eq_none (by omega)]
  unfold Go.Sort.grow World.drewN
  simp only [e]
  congr 1
  omega
theorem flat_len {α : Type} {cells : α → List Value} {k : Nat} (hk : ∀ x, (cells x).length = k) : ∀ l : List α, (l.flatMap cells).length = l.length * k
  | [] => by simp
  | x :: l => by
    have ih := flat_len hk l
    rw [List.flatMap_cons, List.length_append, hk, ih, List.length_cons, Nat.succ_mul]
    omega
section
variable {α : Type} [Inhabited α] {cells : α → List Value} {k : Nat}
theorem flatK_list (hk : ∀ x, (cells x).length = k) (hk0 : 0 < k) (l : List α) : (Go.Sort.flatK cells k l.toArray).toList = l.flatMap cells := by
  have hfl := flat_len hk l
  apply List.ext_getElem?
  intro t
  by_cases ht : t < l.length * k
  · have h1 : t / k < l.length := by rw [Nat.div_lt_iff_lt_mul hk0]; exact ht
    have h2 : t % k < k := Nat.mod_lt _ hk0
    have h3 : t / k * k + t % k = t := by rw [Nat.mul_comm]; exact Nat.div_add_mod t k
    have h4 := flat_get hk l (t / k) (t % k) h1 _ (List.getElem?_eq_getElem (by rw [hk]; exact h2))
    rw [h3] at h4
    have hs : t < (Go.Sort.flatK cells k l.toArray).size := by rw [Go.Sort.size_flatK]; simpa using ht
    have h5 := Go.Sort.get_flatK cells k l.toArray t (by simpa using ht)
    rw [getElem!_pos _ t hs] at h5
    have h6 : l.toArray[t / k]! = l[t / k] := by
      rw [getElem!_pos _ _ (by simpa using h1)]
      simp
    rw [h4, Array.getElem?_toList, Array.getElem?_eq_getElem hs, h5, h6]
    congr 1
    rw [getElem!_pos _ _ (by rw [hk]; exact h2)]
  · have e1 : (Go.Sort.flatK cells k l.toArray).toList.length = l.length * k := by rw [Array.length_toList, Go.Sort.size_flatK]; simp
    rw [List.getElem?_eq_none (by omega), List.getElem?_eq_none (by omega)]
theorem putCells_list (F : Array Value) (xs rest : List Value) (h : xs.length = F.size) : Go.Sort.putCells id 0 F (xs ++ rest).toArray = (F.toList ++ rest).toArray := by
  apply Array.ext_getElem?
  intro i
  simp only [Go.Sort.putCells, Array.getElem?_mapIdx]
  by_cases hi : i < F.size
  · simp only [List.getElem?_toArray]
    rw [List.getElem?_append_left (by omega), List.getElem?_append_left (by simpa using hi), List.getElem?_eq_getElem (by omega)]
    simp only [Option.map_some, Nat.zero_le, Nat.zero_add, true_and, Nat.sub_zero, id]
    rw [if_pos hi, getElem!_pos F i hi]
    simp [hi]
  · simp only [List.getElem?_toArray]
    rw [List.getElem?_append_right (by omega), List.getElem?_append_right (by simpa using hi), h, Array.length_toList]
    cases rest[i - F.size]? with
    | none => rfl
    | some u =>
      simp only [Option.map_some, Nat.zero_le, Nat.zero_add, true_and]
      rw [if_neg hi]
theorem sortWorld_mo (w : World) (g n : Nat) (d : Array α) (os : Array Obj) : Mo w (sortWorldK cells k w g 0 n d os) [g] := by
  refine ⟨rfl, rfl, rfl, ?_, fun j hj hne => ?_⟩
  · simp [sortWorldK, Go.Sort.grow, Go.Sort.putRowK, Go.Sort.putRow, Go.Sort.mapBlock, Go.Sort.ahead]
  · simp only [List.mem_singleton] at hne
    simp only [sortWorldK, Go.Sort.grow, Go.Sort.putRowK, Go.Sort.putRow, Go.Sort.mapBlock, Go.Sort.ahead]
    rw [Array.getElem?_append_left (by simpa using hj), Array.getElem?_modify, if_neg (Ne.symm hne)]
theorem sortWorld_bk {w : World} {g n : Nat} {T : TypeId} {l : List α} {d : Array α} {os : Array Obj} {rest : List Value} (hk : ∀ x, (cells x).length = k) (hk0 : 0 < k) (hb : Bk w g T (l.flatMap cells ++ rest)) (hd : d.size = l.length) :
    Bk (sortWorldK cells k w g 0 n d os) g T (d.toList.flatMap cells ++ rest) := by
  have hlt := hb.lt
  obtain ⟨fr, h1, h2⟩ := hb
  have hF : (Go.Sort.flatK cells k d).toList = d.toList.flatMap cells := by
    have := flatK_list hk hk0 d.toList
    simpa using this
  refine ⟨fr, ?_, ?_⟩
  · simp only [sortWorldK, Go.Sort.grow, Go.Sort.putRowK, Go.Sort.putRow, Go.Sort.mapBlock, Go.Sort.ahead]
    rw [Array.getElem?_append_left (by simpa using hlt), Array.getElem?_modify, if_pos rfl, h1]
    simp only [Option.map_some, Go.Sort.onCells]
    rw [putCells_list _ _ _ (by rw [flat_len hk, Go.Sort.size_flatK, hd]), hF]
  · have e1 := flat_len hk l
    have e2 := flat_len hk d.toList
    rw [List.length_append] at h2 ⊢
    rw [e2, Array.length_toList, hd, ← e1]
    exact h2
/-- slices.SortFunc -/
theorem sort_own {P : Program} {ρ : Ren} (L : SlLaysF0.n6 P ρ) {f : Nat} (hf6 : ρ.f 6 = f) {fn : Func} (hf : P.funcs[f]? = some fn) (hn : (!(fn.name == "runtime.NumGoroutine") && fn.body.isSome) = true) {e : TypeId} (he : ρ.t 24 = e) {bs : Nat} {z : Value} {d : TypeDesc} (hu : P.underlying e = some d) (hfl : flat d = false) (hi : TI P e z k bs) (hk0 : 0 < k)
    (hk : ∀ x, (cells x).length = k) (h1 : ∀ x, ∀ v ∈ cells x, v.oneCell' = true) (cf : α → α → Int) (hO : Go.Sort.SWO (fun a b => decide (cf a b < 0)))
    {g : Nat} {gf : Func} (hg : P.funcs[g]? = some gf) (hgn : (!(gf.name == "runtime.NumGoroutine") && gf.body.isSome) = true) (B : Nat) (l : List α) (hl : l.length ≤ 1000000000) (v : Value) (w : World) (hown : Own w B e k v l.length (l.flatMap cells))
    (hc : ∀ W x y, Mo w W v.ownBlock.toList → Ret P g [.agg (cells x).toArray, .agg (cells y).toArray] W fun r W' => r = .int .i64 (cf x y) ∧ Gr W W') :
    Ret P f [v, .func (.func g) #[] #[]] w fun r w' => r = .tuple #[] ∧ ∃ l' : List α, l'.Perm l ∧ (∀ i j (hi : i < l'.length) (hj : j < l'.length), i < j → ¬ cf l'[j] l'[i] < 0) ∧ Own w' B e k v l.length (l'.flatMap cells) ∧ Mo w w' v.ownBlock.toList := by
  subst hf6 he
  by_cases hl0 : l = []
  · subst hl0
    obtain ⟨p, cap, hv⟩ : ∃ p cap, v = .slice p 0 cap := by
      rcases hown.2 with ⟨rfl, _⟩ | ⟨q, cap, _, rfl, _⟩
      · exact ⟨none, 0, rfl⟩
      · exact ⟨_, cap, rfl⟩
    have h := AnyF.slices_SortFunc_none (P := P) (ρ := ρ) { L with } p cap (.func (.func g) #[] #[]) w
    have hR : Ret P (ρ.f 6) [v, .func (.func g) #[] #[]] w fun r w' => r = .tuple #[] ∧ w' = w := by
      subst hv
      exact Ret.of_calls hf hn (h.mono fun _ _ q => q)
    refine hR.mono ?_
    rintro r w' ⟨rfl, rfl⟩
    exact ⟨rfl, [], List.Perm.refl _, fun i j hi => by simp at hi, hown, Mo.refl _ _⟩
  · have hlp : 0 < l.length := List.length_pos_iff.2 hl0
    have hflen := flat_len hk l
    obtain ⟨b, cap, rest, rfl, hB, hb, hr, hn2, hcm⟩ := hown.blk (by rw [hflen]; exact Nat.mul_pos hlp hk0)
    have hlt := hb.lt
    have hwhole : l.flatMap cells ++ rest = l.flatMap cells ++ rest := rfl
    have hH : Go.Sort.HoldsK cells k w b 0 l.toArray := by
      intro j hj
      rw [Go.Sort.size_flatK] at hj
      have hj2 : j < l.length * k := by simpa using hj
      have hF := flatK_list hk hk0 l
      have hs : j < (Go.Sort.flatK cells k l.toArray).size := by rw [Go.Sort.size_flatK]; exact hj
      have hget : (Go.Sort.flatK cells k l.toArray)[j]! = (l.flatMap cells)[j]'(by rw [hflen]; exact hj2) := by
        rw [getElem!_pos _ j hs]
        have : (Go.Sort.flatK cells k l.toArray).toList[j]'(by simpa using hs) = (l.flatMap cells)[j]'(by rw [hflen]; exact hj2) := by simp [hF]
        simpa using this
      rw [hget, Nat.zero_add]
      refine ⟨hb.cell_of ?_, hb.free j (by rw [List.length_append]; omega)⟩
      rw [List.getElem?_append_left (by omega), List.getElem?_eq_getElem]
      rfl
    have hcl : CmpLays P g #[] cells k cf b 0 l.toArray.size w := fun m os dk hdk x y => by
      have h2 := (hc _ x y (by simpa [Value.ownBlock] using sortWorld_mo (cells := cells) (k := k) w b m dk os)).2
      refine h2.mono fun e w' q => ?_
      obtain ⟨v, rfl, rfl, hgr⟩ := q
      obtain ⟨q, os', e2⟩ := hgr.grow
      exact ⟨rfl, q, os', e2⟩
    have h := AnyQ.slices_SortFunc L k (fun w => by rw [run_isAgg hu, hfl]; rfl) (fun w => run_sizeOf hi) cells hk h1 cf hO g #[] b 0 cap l.toArray w (fun args w => run_callFunc hg hgn args) hcl hH hlt (by simp; omega)
    have hsz : l.toArray.size = l.length := by simp
    rw [hsz] at h
    have hR : Ret P (ρ.f 6) [.slice (some ⟨b, 0, none⟩) l.length cap, .func (.func g) #[] #[]] w fun r w' => r = .tuple #[] ∧ ∃ d' n os, Go.Sort.PermIn 0 l.length l.toArray d' ∧ Go.Sort.SortedIn (ltOf cf) 0 l.length d' ∧ w' = sortWorldK cells k w b 0 n d' os :=
      Ret.of_calls hf hn (h.mono fun _ _ q => q)
    refine hR.mono ?_
    rintro r w' ⟨rfl, d', n, os, hp, hs, rfl⟩
    have hd : d'.size = l.length := by rw [hp.1, hsz]
    have hperm : d'.toList.Perm l := by
      have h3 := hp.2.2
      have e1 : d'.extract 0 l.length = d' := by rw [← hd]; exact Array.extract_size
      have e2 : l.toArray.extract 0 l.length = l.toArray := by rw [← hsz]; exact Array.extract_size
      rw [e1, e2] at h3
      simpa using h3
    have hb2 := sortWorld_bk (n := n) (os := os) hk hk0 hb hd
    refine ⟨rfl, d'.toList, hperm, fun i j hi hj hij => ?_, ⟨by rw [flat_len hk, Array.length_toList, hd], .inr ⟨b, cap, rest, rfl, hB, hb2, ?_, hn2, hcm⟩⟩, by simpa [Value.ownBlock] using sortWorld_mo (cells := cells) (k := k) w b n d' os⟩
    · have h3 := hs i j (Nat.zero_le _) hij (by rw [← hd]; simpa using hj)
      rw [getElem!_pos d' j (by simpa using hj), getElem!_pos d' i (by simpa using hi)] at h3
      simpa [ltOf] using h3
    · rw [flat_len hk, Array.length_toList, hd, ← hflen]
      exact hr
end
end Go.Proofs.YtjgeoeeikfjmdaaGreatDoor
/- paths: comparing two paths lays blocks and draws, and changes nothing: in the sort's words. -/
namespace Go.Proofs.YtjgeoeeikfjmdaaGreatDoor
set_option linter.unnecessarySimpa false
open Go.RowKit Pth
set_option linter.unusedVariables false
set_option linter.unusedSimpArgs false

theorem splitG_c (s : List UInt8) (hs : s.length ≤ 2000000) (w : World) (hG : MLen w) :
    Ret Tryz.prog 66 [str s, str [47]] w fun v w' => ∃ b, v = .slice (some ⟨b, 0, none⟩) (parts s).length (parts s).length ∧ w.heap.size ≤ b ∧ Bk w' b 9 (txtsV (parts s)) ∧ Gr w w' := by
  have hn : (!(Tryz.f66.name == "runtime.NumGoroutine") && Tryz.f66.body.isSome) = true := by kernel_rfl
  obtain ⟨m, hm⟩ := hG
  have h := Tryz.strings_Split ⟨s.toArray⟩ ⟨#[47]⟩ m w (by show s.length < _; omega) hm (by show 1 ≤ 1; omega)
  have hd := Go.Lib.splitB_data ⟨#[47]⟩ 0 (Go.Lib.countB ⟨s.toArray⟩ ⟨#[47]⟩) ⟨s.toArray⟩
  have hp : (Go.Lib.splitB ⟨#[47]⟩ 0 (Go.Lib.countB ⟨s.toArray⟩ ⟨#[47]⟩) ⟨s.toArray⟩).map (·.data.toList) = parts s := hd.trans (split_parts _ s rfl)
  have hlen := congrArg List.length hp
  rw [List.length_map, Go.Lib.splitB_all ⟨#[47]⟩ (by show 1 ≤ 1; omega) 0 _ ⟨s.toArray⟩ rfl] at hlen
  have hv : (Go.Lib.splitB ⟨#[47]⟩ 0 (Go.Lib.countB ⟨s.toArray⟩ ⟨#[47]⟩) ⟨s.toArray⟩).map Value.string = txtsV (parts s) := by
    rw [← hp, txtsV, List.map_map]
    rfl
  rw [hv, hlen] at h
  refine (Ret.of_calls Tryz.func66 hn (h.mono (fun e w' q => q))).mono ?_
  rintro v w' ⟨rfl, rfl⟩
  exact ⟨w.heap.size, rfl, Nat.le_refl _, Bk.new w _ _, Gr.alloc w _⟩
theorem partsG_p (s : List UInt8) (hs : s.length ≤ 2000000) (w : World) (hG : MLen w) :
    Ret Tryz.prog 41 [str s] w fun v w' => ∃ b, v = .slice (some ⟨b, 0, none⟩) (parts s).length (parts s).length ∧ w.heap.size ≤ b ∧ Bk w' b 9 (txtsV (parts s)) ∧ Gr w w' := by
  refine Ret.enter Tryz.func41 rfl Tryz.ntmps41 (by kernel_rfl) rfl ?_
  refine KW.seq (KW.region ?_)
  refine OW.val rfl rfl (EX.assign rfl) ?_
  refine OW.nil ?_
  refine KW.seq (KW.region ?_)
  refine OW.val rfl rfl (EX.move rfl) ?_
  refine OW.call rfl rfl rfl (splitG_c s hs w hG) ?_
  rintro _ w1 ⟨b, rfl, hb⟩
  refine OW.val rfl rfl (EX.assign rfl) ?_
  refine OW.nil ?_
  refine KW.ret (ret1 rfl rfl ?_)
  exact ⟨b, rfl, hb⟩
set_option maxRecDepth 20000 in
theorem cmpG_s (a b : List UInt8) (ha : a.length ≤ 2000000) (hb : b.length ≤ 2000000) (w : World) (hG : MLen w) :
    Ret Tryz.prog 19 [str a, str b] w fun v w' => v = .int .i64 (cmpP a b) ∧ Gr w w' := by
  have la := parts_len a
  have lb := parts_len b
  refine Ret.enter Tryz.func19 rfl Tryz.ntmps19 (by kernel_rfl) rfl ?_
  refine KW.seq (KW.region ?_)
  refine OW.val rfl rfl (EX.assign rfl) ?_
  refine OW.nil ?_
  refine KW.seq (KW.region ?_)
  refine OW.val rfl rfl (EX.move rfl) ?_
  refine OW.call rfl rfl rfl (partsG_p a ha w hG) ?_
  rintro _ w1 ⟨ba, rfl, hga, hba, hg1⟩
  refine OW.val rfl rfl (EX.move rfl) ?_
  have hx1 := hg1.1
  refine OW.call rfl rfl rfl (partsG_p b hb w1 (hG.ext hx1)) ?_
  rintro _ w2 ⟨bb, rfl, hgb, hbb, hg2⟩
  refine OW.val rfl rfl (EX.assign rfl) ?_
  refine OW.val rfl rfl (EX.assign rfl) ?_
  refine OW.nil ?_
  refine KW.seq (KW.seq (KW.region ?_))
  refine OW.val rfl rfl (EX.move rfl) ?_
  refine OW.val rfl rfl (EX.lenA Tryz.underlying81 rfl) ?_
  refine OW.val rfl rfl (EX.move rfl) ?_
  refine OW.val rfl rfl (EX.lenA Tryz.underlying81 rfl) ?_
  refine OW.val rfl rfl (by first | exact EX.minN rfl rfl | exact EX.minZ rfl rfl) ?_
  refine OW.val rfl rfl (EX.move rfl) ?_
  refine OW.nil ?_
  refine KW.block ?_
  have hx2 := hg2.1
  have x2 := hg1.trans hg2
  have hba2 := hba.ext hx2
  unfold cmpP
  generalize hX : parts a = X at hba2 la
  generalize hY : parts b = Y at hbb lb
  refine KW.loop2 (fun (i : Nat) (wr : World) => i ≤ min X.length Y.length ∧ (∀ j, j < i → X[j]? = Y[j]?) ∧ Gr w2 wr) (fun (i : Nat) (wr : World) => [(5, .slice (some ⟨ba, 0, none⟩) X.length X.length), (6, .slice (some ⟨bb, 0, none⟩) Y.length Y.length), (16, .int .i64 (((min X.length Y.length) : Nat) : Int)), (17, .int .i64 ((i : Nat) : Int))]) (fun (i : Nat) (wr : World) => wr) (fun (i : Nat) (wr : World) => min X.length Y.length - i) (0) (w2) ⟨rfl, rfl, rfl, rfl, trivial⟩ rfl ?_ ?_
  · exact ⟨by omega, fun j hj => by omega, Gr.refl _⟩
  · rintro i wr ⟨hi, hs, hxr⟩
    have xr := x2.trans hxr
    have hbr := hba2.ext hxr.1
    have hcr := hbb.ext hxr.1
    refine KW.seq (KW.region ?_)
    refine OW.val rfl rfl (by first | exact EX.lssN rfl rfl | exact EX.lssZ rfl rfl) ?_
    refine OW.nil ?_
    refine KW.seq ?_
    refine KW.condD rfl (fun hlt => ?_) (fun hlt => ?_)
    · have h1 : i < X.length := by omega
      have h2 : i < Y.length := by omega
      have g1 := txtsV_get h1
      have g2 := txtsV_get h2
      refine KW.skip (KW.seq (KW.block (KW.seq (KW.region ?_))))
      refine OW.val rfl rfl (EX.move rfl) ?_
      refine OW.val rfl rfl (EX.assign rfl) ?_
      refine OW.nil ?_
      refine KW.seq ?_
      refine KW.regionQ (by kernel_rfl) (by kernel_rfl) ?_
      refine QW.val rfl rfl (fun _ => EX.move rfl) ?_
      refine QW.val rfl rfl (fun _ => EX.move rfl) ?_
      refine QW.val rfl rfl (fun _ => by first | exact EX.indexAddrS0 Tryz.underlying81 ti9 rfl rfl (by omega) | exact EX.indexAddrS1 Tryz.underlying81 ti9 rfl rfl (by omega)) ?_
      refine QW.val rfl rfl (fun _ => EX.load Tryz.underlying9 rfl rfl ((hbr.drewN _).cell_of g1)) ?_
      refine QW.val rfl rfl (fun _ => EX.move rfl) ?_
      refine QW.val rfl rfl (fun _ => EX.move rfl) ?_
      refine QW.val rfl rfl (fun _ => by first | exact EX.indexAddrS0 Tryz.underlying81 ti9 rfl rfl (by omega) | exact EX.indexAddrS1 Tryz.underlying81 ti9 rfl rfl (by omega)) ?_
      refine QW.val rfl rfl (fun _ => EX.load Tryz.underlying9 rfl rfl ((hcr.drewN _).cell_of g2)) ?_
      refine QW.val rfl rfl (fun _ => EX.neqS rfl rfl) ?_
      refine QW.nil (fun nq => ?_)
      refine KW.condD rfl (fun hne => ?_) (fun hne => ?_)
      · have hcm := cmpL_at hs h1 h2 hne
        have hbd := hbr.drewN nq
        have hcd := hcr.drewN nq
        refine KW.seq ?_
        refine KW.regionQ (by kernel_rfl) (by kernel_rfl) ?_
        refine QW.val rfl rfl (fun _ => EX.move rfl) ?_
        refine QW.val rfl rfl (fun _ => EX.move rfl) ?_
        refine QW.val rfl rfl (fun _ => by first | exact EX.indexAddrS0 Tryz.underlying81 ti9 rfl rfl (by omega) | exact EX.indexAddrS1 Tryz.underlying81 ti9 rfl rfl (by omega)) ?_
        refine QW.val rfl rfl (fun _ => EX.load Tryz.underlying9 rfl rfl ((hbd.drewN _).cell_of g1)) ?_
        refine QW.val rfl rfl (fun _ => EX.move rfl) ?_
        refine QW.val rfl rfl (fun _ => EX.move rfl) ?_
        refine QW.val rfl rfl (fun _ => by first | exact EX.indexAddrS0 Tryz.underlying81 ti9 rfl rfl (by omega) | exact EX.indexAddrS1 Tryz.underlying81 ti9 rfl rfl (by omega)) ?_
        refine QW.val rfl rfl (fun _ => EX.load Tryz.underlying9 rfl rfl ((hcd.drewN _).cell_of g2)) ?_
        refine QW.call rfl rfl rfl (fun _ => RetQ.of1 (compare_c X[i] Y[i] _)) ?_
        refine QW.val rfl rfl (fun _ => EX.assign rfl) ?_
        refine QW.nil (fun nq => ?_)
        refine KW.ret (ret1 rfl rfl ?_)
        rw [hcm]
        exact ⟨rfl, (xr.trans (Gr.drewN _ _)).trans (Gr.drewN _ _)⟩
      · refine KW.skip (KW.leave (KW.region ?_))
        refine OW.val rfl rfl (by first | exact EX.addN (b := 1) (m := 9223372036854775807) rfl rfl rfl (by omega) | exact EX.addZ (m := 9223372036854775807) rfl rfl rfl rfl (by omega)) ?_
        refine OW.val rfl rfl (EX.move rfl) ?_
        refine OW.nil ?_
        refine KW.back2 (i + 1) (wr.drewN nq) ⟨rfl, rfl, rfl, rfl, trivial⟩ rfl ?_ (by omega)
        exact ⟨by omega, same_snoc hs h1 h2 (by simpa using hne), hxr.trans (Gr.drewN wr nq)⟩
    · have hce := cmpL_end hs (by omega)
      refine KW.exit rfl (KW.seq (KW.block (KW.seq (KW.region ?_))))
      refine OW.val rfl rfl (EX.move rfl) ?_
      refine OW.val rfl rfl (EX.lenA Tryz.underlying81 rfl) ?_
      refine OW.val rfl rfl (EX.move rfl) ?_
      refine OW.val rfl rfl (EX.lenA Tryz.underlying81 rfl) ?_
      refine OW.val rfl rfl (by first | exact EX.lssN rfl rfl | exact EX.lssZ rfl rfl) ?_
      refine OW.val rfl rfl (EX.assign rfl) ?_
      refine OW.nil ?_
      refine KW.condD rfl (fun k1 => ?_) (fun k1 => ?_)
      · rw [if_pos k1] at hce
        refine KW.seq (KW.region ?_)
        refine OW.val rfl rfl (EX.assign rfl) ?_
        refine OW.nil ?_
        refine KW.ret (ret1 rfl rfl ?_)
        rw [hce]
        exact ⟨rfl, xr⟩
      · rw [if_neg k1] at hce
        refine KW.seq (KW.region ?_)
        refine OW.val rfl rfl (EX.move rfl) ?_
        refine OW.val rfl rfl (EX.lenA Tryz.underlying81 rfl) ?_
        refine OW.val rfl rfl (EX.move rfl) ?_
        refine OW.val rfl rfl (EX.lenA Tryz.underlying81 rfl) ?_
        refine OW.val rfl rfl (by first | exact EX.gtrN rfl rfl | exact EX.gtrZ rfl rfl) ?_
        refine OW.val rfl rfl (EX.assign rfl) ?_
        refine OW.nil ?_
        refine KW.condD rfl (fun k2 => ?_) (fun k2 => ?_)
        · rw [if_pos (by omega)] at hce
          refine KW.seq (KW.region ?_)
          refine OW.val rfl rfl (EX.assign rfl) ?_
          refine OW.nil ?_
          refine KW.ret (ret1 rfl rfl ?_)
          rw [hce]
          exact ⟨rfl, xr⟩
        · rw [if_neg (by omega)] at hce
          refine KW.skip (KW.leave (KW.seq (KW.region ?_)))
          refine OW.val rfl rfl (EX.assign rfl) ?_
          refine OW.nil ?_
          refine KW.ret (ret1 rfl rfl ?_)
          rw [hce]
          exact ⟨rfl, xr⟩
end Go.Proofs.YtjgeoeeikfjmdaaGreatDoor
/- What a map by paths becomes as a list in the paths' order: in plain words. No program is spoken of. -/
namespace Go.Proofs.YtjgeoeeikfjmdaaGreatDoor.Srt
set_option linter.unnecessarySimpa false
open Pth
set_option linter.unusedSimpArgs false
set_option linter.unusedVariables false
abbrev By := List UInt8
section
variable {α : Type} (key : α → By)
def cmpK (a b : α) : Int := cmpP (key a) (key b)
theorem cmpK_val (a b : α) : cmpK key a b = -1 ∨ cmpK key a b = 0 ∨ cmpK key a b = 1 := cmpL_val _ _
theorem cmpK_neg (a b : α) : cmpK key b a = - cmpK key a b := cmpL_neg _ _
theorem cmpK_eq (a b : α) : cmpK key a b = 0 ↔ key a = key b := cmpP_eq _ _
theorem cmpK_trans {a b c : α} (h1 : cmpK key a b ≤ 0) (h2 : cmpK key b c ≤ 0) : cmpK key a c ≤ 0 := cmpL_trans _ _ _ h1 h2
theorem cmpK_lt {a b c : α} (h1 : cmpK key a b = -1) (h2 : cmpK key b c ≤ 0) : cmpK key a c = -1 := by
  have h3 := cmpK_trans key (show cmpK key a b ≤ 0 by omega) h2
  rcases cmpK_val key a c with h | h | h
  · exact h
  · exfalso
    have e := (cmpK_eq key a c).1 h
    have h4 : cmpK key b a ≤ 0 := by
      have : cmpK key b a = cmpK key b c := by unfold cmpK; rw [e]
      omega
    have h5 := cmpK_neg key a b
    omega
  · omega
theorem cmpK_lt' {a b c : α} (h1 : cmpK key a b ≤ 0) (h2 : cmpK key b c = -1) : cmpK key a c = -1 := by
  have h3 := cmpK_trans key h1 (show cmpK key b c ≤ 0 by omega)
  rcases cmpK_val key a c with h | h | h
  · exact h
  · exfalso
    have e := (cmpK_eq key a c).1 h
    have h4 : cmpK key c b ≤ 0 := by
      have : cmpK key c b = cmpK key a b := by unfold cmpK; rw [e]
      omega
    have h5 := cmpK_neg key b c
    omega
  · omega
/-- in strict order -/
def Rises (l : List α) : Prop := l.Pairwise (fun a b => cmpK key a b = -1)
theorem rises_one : ∀ {a b : List α}, Rises key a → Rises key b → (∀ x, x ∈ a ↔ x ∈ b) → a = b
  | [], [], _, _, _ => rfl
  | [], y :: b, _, _, h => absurd ((h y).2 (by simp)) (by simp)
  | x :: a, [], _, _, h => absurd ((h x).1 (by simp)) (by simp)
  | x :: a, y :: b, ha, hb, h => by
    have ha' := List.pairwise_cons.1 ha
    have hb' := List.pairwise_cons.1 hb
    have irr : ∀ z : α, cmpK key z z ≠ -1 := fun z q => by
      have := (cmpK_eq key z z).2 rfl
      omega
    have hxy : x = y := by
      rcases List.mem_cons.1 ((h x).1 (by simp)) with q | q
      · exact q
      · have h1 := hb'.1 x q
        rcases List.mem_cons.1 ((h y).2 (by simp)) with q2 | q2
        · exact q2.symm
        · have h2 := ha'.1 y q2
          have := cmpK_neg key x y
          omega
    subst hxy
    have hm : ∀ z, z ∈ a ↔ z ∈ b := fun z => by
      constructor
      · intro hz
        rcases List.mem_cons.1 ((h z).1 (List.mem_cons_of_mem _ hz)) with q | q
        · subst q
          exact absurd (ha'.1 z hz) (irr z)
        · exact q
      · intro hz
        rcases List.mem_cons.1 ((h z).2 (List.mem_cons_of_mem _ hz)) with q | q
        · subst q
          exact absurd (hb'.1 z hz) (irr z)
        · exact q
    rw [rises_one ha'.2 hb'.2 hm]
/-- a list that holds a map -/
structure IsMap (m : By → Option α) (out : List α) : Prop where
  rises : Rises key out
  mem : ∀ x, x ∈ out ↔ m (key x) = some x
theorem IsMap.one {key : α → By} {m : By → Option α} {a b : List α} (h1 : IsMap key m a) (h2 : IsMap key m b) : a = b := rises_one key h1.rises h2.rises fun x => (h1.mem x).trans (h2.mem x).symm
def none' : By → Option α := fun _ => none
theorem IsMap.nil : IsMap key (none' : By → Option α) [] := ⟨List.Pairwise.nil, fun x => by simp [none']⟩
def upd (m : By → Option α) (p : By) (v : Option α) : By → Option α := fun q => if q = p then v else m q
/-- put where it belongs -/
def insR (x : α) : List α → List α
  | [] => [x]
  | y :: ys => if cmpK key x y = -1 then x :: y :: ys else if cmpK key x y = 0 then x :: ys else y :: insR x ys
theorem mem_insR (x : α) : ∀ {ys : List α}, Rises key ys → ∀ z, z ∈ insR key x ys ↔ z = x ∨ (z ∈ ys ∧ key z ≠ key x)
  | [], _, z => by simp [insR]
  | y :: ys, h, z => by
    have h' := List.pairwise_cons.1 h
    have ih := mem_insR x h'.2 z
    unfold insR
    by_cases c1 : cmpK key x y = -1
    · rw [if_pos c1]
      have hne : ∀ u ∈ y :: ys, key u ≠ key x := fun u hu e => by
        have h1 : cmpK key x u = -1 := by
          rcases List.mem_cons.1 hu with rfl | hu
          · exact c1
          · exact cmpK_lt key c1 (by have := h'.1 u hu; omega)
        have h2 := (cmpK_eq key x u).2 e.symm
        omega
      constructor
      · intro hz
        rcases List.mem_cons.1 hz with q | q
        · exact .inl q
        · exact .inr ⟨q, hne z q⟩
      · rintro (q | ⟨q, _⟩)
        · subst q; simp
        · exact List.mem_cons_of_mem _ q
    · rw [if_neg c1]
      by_cases c2 : cmpK key x y = 0
      · rw [if_pos c2]
        have ey := (cmpK_eq key x y).1 c2
        have hne : ∀ u ∈ ys, key u ≠ key x := fun u hu e => by
          have h1 := h'.1 u hu
          have h2 := (cmpK_eq key y u).2 (by rw [e, ey])
          omega
        constructor
        · intro hz
          rcases List.mem_cons.1 hz with q | q
          · exact .inl q
          · exact .inr ⟨List.mem_cons_of_mem _ q, hne z q⟩
        · rintro (q | ⟨q, q2⟩)
          · subst q; simp
          · rcases List.mem_cons.1 q with q | q
            · subst q
              exact absurd ey.symm q2
            · exact List.mem_cons_of_mem _ q
      · rw [if_neg c2]
        simp only [List.mem_cons, ih]
        constructor
        · rintro (q | q | ⟨q, q2⟩)
          · subst q
            exact .inr ⟨.inl rfl, fun e => c2 ((cmpK_eq key x z).2 e.symm)⟩
          · exact .inl q
          · exact .inr ⟨.inr q, q2⟩
        · rintro (q | ⟨q | q, q2⟩)
          · exact .inr (.inl q)
          · exact .inl q
          · exact .inr (.inr ⟨q, q2⟩)
theorem rises_insR (x : α) : ∀ {ys : List α}, Rises key ys → Rises key (insR key x ys)
  | [], _ => by simp [insR, Rises]
  | y :: ys, h => by
    have h' := List.pairwise_cons.1 h
    have ih := rises_insR x h'.2
    unfold insR
    by_cases c1 : cmpK key x y = -1
    · rw [if_pos c1]
      refine List.pairwise_cons.2 ⟨fun u hu => ?_, h⟩
      rcases List.mem_cons.1 hu with rfl | hu
      · exact c1
      · exact cmpK_lt key c1 (by have := h'.1 u hu; omega)
    · rw [if_neg c1]
      by_cases c2 : cmpK key x y = 0
      · rw [if_pos c2]
        refine List.pairwise_cons.2 ⟨fun u hu => ?_, h'.2⟩
        exact cmpK_lt' key (by omega) (h'.1 u hu)
      · rw [if_neg c2]
        refine List.pairwise_cons.2 ⟨fun u hu => ?_, ih⟩
        rcases (mem_insR key x h'.2 u).1 hu with q | ⟨q, _⟩
        · subst q
          have h1 := cmpK_neg key u y
          have h2 := cmpK_val key u y
          omega
        · exact h'.1 u q
theorem IsMap.put {m : By → Option α} {ys : List α} (h : IsMap key m ys) (x : α) : IsMap key (upd m (key x) (some x)) (insR key x ys) := by
  refine ⟨rises_insR key x h.rises, fun z => ?_⟩
  rw [mem_insR key x h.rises z]
  unfold upd
  by_cases e : key z = key x
  · rw [if_pos e]
    constructor
    · rintro (q | ⟨_, q⟩)
      · rw [q]
      · exact absurd e q
    · intro q
      injection q with q
      exact .inl q.symm
  · rw [if_neg e, ← h.mem z]
    constructor
    · rintro (q | ⟨q, _⟩)
      · exact absurd (by rw [q]) e
      · exact q
    · exact fun q => .inr ⟨q, e⟩
theorem IsMap.del {m : By → Option α} {ys : List α} (h : IsMap key m ys) (p : By) : IsMap key (upd m p none) (ys.filter fun y => decide (key y ≠ p)) := by
  refine ⟨List.Pairwise.filter _ h.rises, fun z => ?_⟩
  rw [List.mem_filter, h.mem z, decide_eq_true_eq]
  unfold upd
  by_cases e : key z = p
  · rw [if_pos e]
    exact ⟨fun q => absurd e q.2, fun q => by cases q⟩
  · rw [if_neg e]
    exact ⟨fun q => q.1, fun q => ⟨q, e⟩⟩
/-- the document's round: what stands ahead, and whether x stands there -/
def stepI (x : α) (s : List α × Bool) (y : α) : List α × Bool :=
  let n := if cmpK key x y ≤ 0 ∧ s.2 = false then s.1 ++ [x] else s.1
  (if cmpK key x y ≠ 0 then n ++ [y] else n, s.2 || decide (cmpK key x y ≤ 0))
def finI (x : α) (r : List α × Bool) : List α := if r.2 = true then r.1 else r.1 ++ [x]
def insF (x : α) (l : List α) : List α := finI x (l.foldl (stepI key x) ([], false))
theorem fold_done (x : α) : ∀ (ys out : List α), (∀ y ∈ ys, cmpK key x y ≠ 0) → ys.foldl (stepI key x) (out, true) = (out ++ ys, true)
  | [], out, _ => by simp
  | y :: ys, out, h => by
    have h1 := h y (by simp)
    rw [List.foldl_cons]
    have e : stepI key x (out, true) y = (out ++ [y], true) := by simp [stepI, h1]
    rw [e, fold_done x ys _ (fun z hz => h z (by simp [hz]))]
    simp
theorem fold_ins (x : α) : ∀ (ys out : List α), Rises key ys → finI x (ys.foldl (stepI key x) (out, false)) = out ++ insR key x ys
  | [], out, _ => by simp [insR, finI]
  | y :: ys, out, h => by
    have h' := List.pairwise_cons.1 h
    rw [List.foldl_cons]
    unfold insR
    by_cases c1 : cmpK key x y = -1
    · have e : stepI key x (out, false) y = (out ++ [x] ++ [y], true) := by simp [stepI, c1]
      rw [if_pos c1, e, fold_done key x ys _ (fun z hz => by have := cmpK_lt key c1 (show cmpK key y z ≤ 0 by have := h'.1 z hz; omega); omega)]
      simp [finI]
    · rw [if_neg c1]
      by_cases c2 : cmpK key x y = 0
      · have e : stepI key x (out, false) y = (out ++ [x], true) := by simp [stepI, c2]
        rw [if_pos c2, e, fold_done key x ys _ (fun z hz => by have := cmpK_lt' key (show cmpK key x y ≤ 0 by omega) (h'.1 z hz); omega)]
        simp [finI]
      · have hv := cmpK_val key x y
        have e : stepI key x (out, false) y = (out ++ [y], false) := by
          have h1 : ¬ cmpK key x y ≤ 0 := by omega
          simp [stepI, h1, c2]
        rw [if_neg c2, e]
        rw [fold_ins x ys (out ++ [y]) h'.2]
        simp
theorem insF_eq {x : α} {ys : List α} (h : Rises key ys) : insF key x ys = insR key x ys := by
  have := fold_ins key x ys [] h
  simpa [insF] using this
/-! ### The last one of each key -/
def lastF (l : List α) : By → Option α := l.foldl (fun m x => upd m (key x) (some x)) none'
theorem lastF_snoc (l : List α) (x : α) : lastF key (l ++ [x]) = upd (lastF key l) (key x) (some x) := by simp [lastF]
theorem lastF_key {l : List α} {p : By} {z : α} (h : lastF key l p = some z) : key z = p := by
  have aux : ∀ (l : List α) (m : By → Option α), (∀ p z, m p = some z → key z = p) → ∀ p z, (l.foldl (fun m x => upd m (key x) (some x)) m) p = some z → key z = p := by
    intro l
    induction l with
    | nil => intro m h; exact h
    | cons x l ih =>
      intro m h
      refine ih _ fun q y hy => ?_
      simp only [upd] at hy
      split at hy
      · rename_i e
        injection hy with hy
        rw [← hy, e]
      · exact h q y hy
  exact aux l none' (fun p z q => by cases q) p z h
theorem lastF_mem {l : List α} {p : By} {z : α} (h : lastF key l p = some z) : z ∈ l := by
  have aux : ∀ (l : List α) (m : By → Option α), ∀ p z, (l.foldl (fun m x => upd m (key x) (some x)) m) p = some z → z ∈ l ∨ m p = some z := by
    intro l
    induction l with
    | nil => intro m p z h; exact .inr h
    | cons x l ih =>
      intro m p z h
      rcases ih _ p z h with q | q
      · exact .inl (List.mem_cons_of_mem _ q)
      · simp only [upd] at q
        split at q
        · injection q with q
          exact .inl (by rw [q]; simp)
        · exact .inr q
  rcases aux l none' p z h with q | q
  · exact q
  · cases q
theorem lastF_none {l : List α} {p : By} : lastF key l p = none ↔ ∀ x ∈ l, key x ≠ p := by
  have aux : ∀ (l : List α) (m : By → Option α), ∀ p, (l.foldl (fun m x => upd m (key x) (some x)) m) p = none ↔ (∀ x ∈ l, key x ≠ p) ∧ m p = none := by
    intro l
    induction l with
    | nil => intro m p; simp
    | cons x l ih =>
      intro m p
      rw [List.foldl_cons, ih]
      unfold upd
      by_cases e : p = key x
      · rw [if_pos e]
        constructor
        · rintro ⟨_, q⟩; cases q
        · rintro ⟨q, _⟩; exact absurd e.symm (q x (by simp))
      · rw [if_neg e]
        constructor
        · rintro ⟨h1, h2⟩
          refine ⟨fun y hy => ?_, h2⟩
          rcases List.mem_cons.1 hy with rfl | hy
          · exact fun q => e q.symm
          · exact h1 y hy
        · rintro ⟨h1, h2⟩
          exact ⟨fun y hy => h1 y (by simp [hy]), h2⟩
  exact (aux l none' p).trans ⟨fun h => h.1, fun h => ⟨h, rfl⟩⟩
theorem lastF_app (a b : List α) (p : By) : lastF key (a ++ b) p = (lastF key b p).or (lastF key a p) := by
  have aux : ∀ (b : List α) (m : By → Option α) (p : By), (b.foldl (fun m x => upd m (key x) (some x)) m) p = (lastF key b p).or (m p) := by
    intro b
    induction b with
    | nil => intro m p; rfl
    | cons x b ih =>
      intro m p
      have e : lastF key (x :: b) p = (lastF key b p).or (upd none' (key x) (some x) p) := ih _ p
      rw [List.foldl_cons, ih, e]
      cases lastF key b p with
      | some y => rfl
      | none =>
        simp only [Option.none_or, upd]
        split
        · rfl
        · rfl
  unfold lastF
  rw [List.foldl_append]
  exact aux b _ p
/-- a list in strict order is its own last ones -/
theorem isMap_self {l : List α} (h : Rises key l) : IsMap key (lastF key l) l := by
  refine ⟨h, fun x => ?_⟩
  have hn : ∀ a ∈ l, ∀ b ∈ l, key a = key b → a = b := by
    intro a ha b hb e
    obtain ⟨i, hi, rfl⟩ := List.mem_iff_getElem.1 ha
    obtain ⟨j, hj, rfl⟩ := List.mem_iff_getElem.1 hb
    have hp := List.pairwise_iff_getElem.1 h
    have h0 := (cmpK_eq key _ _).2 e
    rcases Nat.lt_trichotomy i j with q | q | q
    · have := hp i j hi hj q; omega
    · subst q; rfl
    · have h1 := hp j i hj hi q
      have h2 := cmpK_neg key l[i] l[j]
      omega
  constructor
  · intro hx
    cases hz : lastF key l (key x) with
    | none => exact absurd rfl ((lastF_none key).1 hz x hx)
    | some z =>
      have h1 := lastF_key key hz
      have h2 := lastF_mem key hz
      rw [hn z h2 x hx h1]
  · exact fun hx => lastF_mem key hx
/-! ### A sorted list with the same elements -/
theorem rises_of_sorted {l : List α} (hs : ∀ i j (hi : i < l.length) (hj : j < l.length), i < j → ¬ cmpK key l[j] l[i] < 0) (hn : (l.map key).Nodup) : Rises key l := by
  unfold Rises
  rw [List.pairwise_iff_getElem]
  intro i j hi hj hij
  have h1 := hs i j hi hj hij
  have h2 := cmpK_neg key l[i] l[j]
  have h3 := cmpK_val key l[i] l[j]
  have h4 : cmpK key l[i] l[j] ≠ 0 := fun e => by
    have e2 := (cmpK_eq key _ _).1 e
    have h5 : (l.map key)[i]'(by simpa using hi) = (l.map key)[j]'(by simpa using hj) := by simpa using e2
    have := (List.getElem_inj hn).1 h5
    omega
  omega
theorem swo : Go.Sort.SWO (fun a b : α => decide (cmpK key a b < 0)) where
  irrefl x := by
    have := (cmpK_eq key x x).2 rfl
    simp [this]
  trans x y z h1 h2 := by
    simp only [decide_eq_true_eq] at *
    have := cmpK_lt key (show cmpK key x y = -1 by have := cmpK_val key x y; omega) (show cmpK key y z ≤ 0 by omega)
    omega
  ntrans x y z h1 h2 := by
    simp only [decide_eq_false_iff_not] at *
    have a1 := cmpK_neg key x y
    have a2 := cmpK_neg key y z
    have a3 := cmpK_neg key x z
    have := cmpK_trans key (show cmpK key z y ≤ 0 by omega) (show cmpK key y x ≤ 0 by omega)
    omega
end
end Go.Proofs.YtjgeoeeikfjmdaaGreatDoor.Srt
/- A map of the program, its entries as pairs; what a range over it hands out. No program is spoken of. -/
namespace Go.Proofs.YtjgeoeeikfjmdaaGreatDoor
set_option linter.unnecessarySimpa false
open Go.RowKit Go.MapKept Srt
set_option linter.unusedVariables false
set_option linter.unusedSimpArgs false
section
variable {α : Type}
theorem mem_putA {A : List (By × α)} {s p : By} {v u : α} : (p, u) ∈ putA A s v ↔ (p = s ∧ u = v) ∨ (p ≠ s ∧ (p, u) ∈ A) := by
  unfold putA
  by_cases h : s ∈ A.map (·.1)
  · rw [if_pos h]
    simp only [List.mem_map]
    constructor
    · rintro ⟨⟨a, b⟩, hm, he⟩
      simp only at he
      split at he
      · injection he with e1 e2
        exact .inl ⟨e1.symm, e2.symm⟩
      · rename_i hne
        injection he with e1 e2
        subst e1 e2
        exact .inr ⟨hne, hm⟩
    · rintro (⟨rfl, rfl⟩ | ⟨h1, h2⟩)
      · obtain ⟨⟨a, b⟩, hm, he⟩ := List.mem_map.1 h
        simp only at he
        subst he
        exact ⟨(a, b), hm, by simp⟩
      · exact ⟨(p, u), h2, by simp [h1]⟩
  · rw [if_neg h]
    simp only [List.mem_append, List.mem_singleton, Prod.mk.injEq]
    constructor
    · rintro (q | q)
      · refine .inr ⟨fun e => h ?_, q⟩
        subst e
        exact List.mem_map.2 ⟨_, q, rfl⟩
      · exact .inl q
    · rintro (q | ⟨_, q⟩)
      · exact .inr q
      · exact .inl q
theorem mem_delA {A : List (By × α)} {s p : By} {u : α} : (p, u) ∈ delA A s ↔ p ≠ s ∧ (p, u) ∈ A := by
  unfold delA
  rw [List.mem_filter]
  simp only [decide_eq_true_eq]
  exact And.comm
theorem putA_map {β : Type} (f : α → β) (A : List (By × α)) (s : By) (v : α) : (putA A s v).map (fun a => (a.1, f a.2)) = putA (A.map fun a => (a.1, f a.2)) s (f v) := by
  unfold putA
  have e : (A.map fun a => (a.1, f a.2)).map (·.1) = A.map (·.1) := by rw [List.map_map]; rfl
  rw [e]
  split
  · simp only [List.map_map]
    apply List.map_congr_left
    intro a ha
    simp only [Function.comp]
    split <;> rfl
  · simp
theorem delA_map {β : Type} (f : α → β) (A : List (By × α)) (s : By) : (delA A s).map (fun a => (a.1, f a.2)) = delA (A.map fun a => (a.1, f a.2)) s := by
  unfold delA
  rw [List.filter_map]
  rfl
/-- pairs that say what a map says -/
def Rep (A : List (By × α)) (m : By → Option α) : Prop := ∀ p v, (p, v) ∈ A ↔ m p = some v
theorem Rep.nil : Rep ([] : List (By × α)) none' := fun p v => by simp [none']
theorem Rep.put {A : List (By × α)} {m : By → Option α} (h : Rep A m) (s : By) (v : α) : Rep (putA A s v) (upd m s (some v)) := fun p u => by
  rw [mem_putA, h p u]
  unfold upd
  by_cases e : p = s
  · rw [if_pos e]
    constructor
    · rintro (⟨_, q⟩ | ⟨q, _⟩)
      · rw [q]
      · exact absurd e q
    · intro q
      injection q with q
      exact .inl ⟨e, q.symm⟩
  · rw [if_neg e]
    exact ⟨fun q => q.elim (fun z => absurd z.1 e) (fun z => z.2), fun q => .inr ⟨e, q⟩⟩
theorem Rep.del {A : List (By × α)} {m : By → Option α} (h : Rep A m) (s : By) : Rep (delA A s) (upd m s none) := fun p u => by
  rw [mem_delA, h p u]
  unfold upd
  by_cases e : p = s
  · rw [if_pos e]
    exact ⟨fun q => absurd e q.1, fun q => by cases q⟩
  · rw [if_neg e]
    exact ⟨fun q => q.2, fun q => ⟨e, q⟩⟩
end
/-- what a range has handed out of a map -/
structure Seen {α : Type} (enc : α → Value) (es : Array MapEntry) (seen : Array Nat) (A V : List (By × α)) : Prop where
  sub : ∀ a ∈ V, a ∈ A
  nod : (V.map (·.1)).Nodup
  fwd : ∀ e ∈ es.toList, e.born ∈ seen → ∃ a ∈ V, e.key = str a.1
  bwd : ∀ a ∈ V, ∃ e ∈ es.toList, e.born ∈ seen ∧ e.key = str a.1
section
variable {α : Type} {enc : α → Value} {w : World} {b c : Nat} {es : Array MapEntry} {A V : List (By × α)} {seen : Array Nat}
theorem Seen.nil : Seen enc es #[] A [] := ⟨by simp, by simp, fun e _ h => by simp at h, by simp⟩
theorem Seen.next (hm : Mp w b es c (A.map fun a => (a.1, enc a.2))) (h : Seen enc es seen A V) {e : MapEntry} (he : e ∈ es.toList) (hn : e.born ∉ seen) : ∃ a ∈ A, e.key = str a.1 ∧ e.val = enc a.2 ∧ Seen enc es (seen.push e.born) A (V ++ [a]) := by
  obtain ⟨p, hp, e1, e2⟩ := hm.mem he
  obtain ⟨a, ha, rfl⟩ := List.mem_map.1 hp
  have hnod := hm.st.2.2
  have inj : ∀ e' ∈ es.toList, e'.key = e.key → e' = e := fun e' he' q => by
    obtain ⟨i, hi, rfl⟩ := List.mem_iff_getElem.1 he
    obtain ⟨j, hj, rfl⟩ := List.mem_iff_getElem.1 he'
    have h5 : (es.toList.map (·.key))[j]'(by simpa using hj) = (es.toList.map (·.key))[i]'(by simpa using hi) := by simpa using q
    have := (List.getElem_inj hnod).1 h5
    subst this
    rfl
  refine ⟨a, ha, e1, e2, fun x hx => ?_, ?_, fun e' he' hb => ?_, fun x hx => ?_⟩
  · rcases List.mem_append.1 hx with hx | hx
    · exact h.sub x hx
    · simp only [List.mem_singleton] at hx
      subst hx
      exact ha
  · rw [List.map_append, List.map_singleton, List.nodup_append]
    refine ⟨h.nod, by simp, fun x hx y hy q => ?_⟩
    simp only [List.mem_singleton] at hy
    subst hy
    obtain ⟨a', ha', rfl⟩ := List.mem_map.1 hx
    obtain ⟨e', he', hb', hk'⟩ := h.bwd a' ha'
    have := inj e' he' (by rw [hk', e1, q])
    subst this
    exact hn hb'
  · rcases Array.mem_push.1 hb with hb | hb
    · obtain ⟨x, hx, q⟩ := h.fwd e' he' hb
      exact ⟨x, List.mem_append_left _ hx, q⟩
    · by_cases q : e'.born ∈ seen
      · obtain ⟨x, hx, q⟩ := h.fwd e' he' q
        exact ⟨x, List.mem_append_left _ hx, q⟩
      · refine ⟨a, by simp, ?_⟩
        have hbn := hm.st.2.1
        have : e' = e := by
          obtain ⟨i, hi, rfl⟩ := List.mem_iff_getElem.1 he
          obtain ⟨j, hj, rfl⟩ := List.mem_iff_getElem.1 he'
          have h5 : (es.toList.map (·.born))[j]'(by simpa using hj) = (es.toList.map (·.born))[i]'(by simpa using hi) := by simpa using hb
          have := (List.getElem_inj hbn).1 h5
          subst this
          rfl
        rw [this, e1]
  · rcases List.mem_append.1 hx with hx | hx
    · obtain ⟨e', he', hb', hk'⟩ := h.bwd x hx
      exact ⟨e', he', Array.mem_push.2 (.inl hb'), hk'⟩
    · simp only [List.mem_singleton] at hx
      subst hx
      exact ⟨e, he, Array.mem_push.2 (.inr rfl), e1⟩
theorem Seen.done (hm : Mp w b es c (A.map fun a => (a.1, enc a.2))) (h : Seen enc es seen A V) (hall : ∀ e ∈ es.toList, e.born ∈ seen) : ∀ a, a ∈ V ↔ a ∈ A := fun a => by
  refine ⟨h.sub a, fun ha => ?_⟩
  have hk := hm.keys
  rw [List.map_map] at hk
  have hp : (str a.1, enc a.2) ∈ es.toList.map (fun e => (e.key, e.val)) := by
    rw [hm.kv, List.map_map]
    exact List.mem_map.2 ⟨a, ha, rfl⟩
  obtain ⟨e, he, q⟩ := List.mem_map.1 hp
  injection q with q1 q2
  obtain ⟨a', ha', q3⟩ := h.fwd e he (hall e he)
  have q4 : a.1 = a'.1 := str_inj (q1.symm.trans q3)
  have h' := h.sub a' ha'
  obtain ⟨i, hi, rfl⟩ := List.mem_iff_getElem.1 ha
  obtain ⟨j, hj, rfl⟩ := List.mem_iff_getElem.1 h'
  have h5 : (A.map ((fun x => x.1) ∘ fun a => (a.1, enc a.2)))[i]'(by simpa using hi) = (A.map ((fun x => x.1) ∘ fun a => (a.1, enc a.2)))[j]'(by simpa using hj) := by simpa using q4
  have := (List.getElem_inj hk).1 h5
  subst this
  exact ha'
end
end Go.Proofs.YtjgeoeeikfjmdaaGreatDoor
/- DERIVED: THE SHELF's CONTRACTS AT THIS DUMP, IN PLAIN WORDS (tools/lay-plain.mjs out of 'TryzSort.lean', which tools/lay-shelf.mjs wrote): THE SAME DECLARATIONS UNDER THE SAME NAMES: 'import', 'namespace', 'open', 'def', 'theorem' AND NOTHING ELSE: no command of the shelf's: FOR A HAND-IN. Each laying: the table of numbers ('.._ren') and one theorem, a field a fact of the dump's own or the kernel's comparison; each contract: ONE APPLICATION. -/
namespace Go.Proofs.YtjgeoeeikfjmdaaGreatDoor
set_option linter.unnecessarySimpa false
set_option linter.unusedVariables false
set_option linter.unusedSimpArgs false
open Go.Shelf
def Tryz.sort38_ren : Go.Shelf.Ren := ⟨fun | 6 => 38 | 15 => 64 | 14 => 63 | 28 => 100 | 29 => 101 | 20 => 92 | 21 => 93 | 22 => 94 | 23 => 95 | 24 => 96 | 25 => 97 | 26 => 98 | 27 => 99 | 46 => 120 | 47 => 121 | 48 => 122 | 49 => 123 | 50 => 124 | 57 => 134 | n => n, fun | 22 => 31 | 24 => 23 | 25 => 80 | 3 => 3 | 39 => 110 | 0 => 0 | 53 => 140 | 55 => 142 | 4 => 4 | 46 => 133 | 45 => 132 | 50 => 137 | 5 => 5 | 9 => 9 | 66 => 157 | 70 => 161 | 76 => 165 | 77 => 106 | n => n, fun | n => n⟩
theorem Tryz.sort38 : Go.Proofs.SlLaysF0.n6 Tryz.prog Tryz.sort38_ren := {
  mixed := by kernel_rfl
  f6 := ⟨Tryz.f38.name, by decide, Tryz.func38.trans (congrArg some (by kernel_rfl))⟩
  f14 := ⟨Tryz.f63.name, by decide, Tryz.func63.trans (congrArg some (by kernel_rfl))⟩
  f15 := Tryz.func64.trans (congrArg some (by kernel_rfl))
  f20 := ⟨Tryz.f92.name, by decide, Tryz.func92.trans (congrArg some (by kernel_rfl))⟩
  f21 := ⟨Tryz.f93.name, by decide, Tryz.func93.trans (congrArg some (by kernel_rfl))⟩
  f22 := ⟨Tryz.f94.name, by decide, Tryz.func94.trans (congrArg some (by kernel_rfl))⟩
  f23 := ⟨Tryz.f95.name, by decide, Tryz.func95.trans (congrArg some (by kernel_rfl))⟩
  f24 := ⟨Tryz.f96.name, by decide, Tryz.func96.trans (congrArg some (by kernel_rfl))⟩
  f25 := ⟨Tryz.f97.name, by decide, Tryz.func97.trans (congrArg some (by kernel_rfl))⟩
  f26 := ⟨Tryz.f98.name, by decide, Tryz.func98.trans (congrArg some (by kernel_rfl))⟩
  f27 := ⟨Tryz.f99.name, by decide, Tryz.func99.trans (congrArg some (by kernel_rfl))⟩
  f28 := Tryz.func100.trans (congrArg some (by kernel_rfl))
  f29 := Tryz.func101.trans (congrArg some (by kernel_rfl))
  f46 := ⟨Tryz.f120.name, by decide, Tryz.func120.trans (congrArg some (by kernel_rfl))⟩
  f47 := Tryz.func121.trans (congrArg some (by kernel_rfl))
  f48 := Tryz.func122.trans (congrArg some (by kernel_rfl))
  f49 := ⟨Tryz.f123.name, by decide, Tryz.func123.trans (congrArg some (by kernel_rfl))⟩
  f50 := ⟨Tryz.f124.name, by decide, Tryz.func124.trans (congrArg some (by kernel_rfl))⟩
  f57 := ⟨Tryz.f134.name, by decide, Tryz.func134.trans (congrArg some (by kernel_rfl))⟩
  t0 := Tryz.underlying0
  a0 := Tryz.isAgg0
  z0 := Tryz.sizeOf0
  v0 := Tryz.zeroValue0
  t3 := Tryz.underlying3
  a3 := Tryz.isAgg3
  z3 := Tryz.sizeOf3
  v3 := Tryz.zeroValue3
  t4 := Tryz.underlying4
  a4 := Tryz.isAgg4
  z4 := Tryz.sizeOf4
  v4 := Tryz.zeroValue4
  t5 := Tryz.underlying5
  a5 := Tryz.isAgg5
  z5 := Tryz.sizeOf5
  v5 := Tryz.zeroValue5
  t9 := Tryz.underlying9
  a9 := Tryz.isAgg9
  z9 := Tryz.sizeOf9
  v9 := Tryz.zeroValue9
  t22 := Tryz.underlying31
  a22 := Tryz.isAgg31
  z22 := Tryz.sizeOf31
  v22 := Tryz.zeroValue31
  t25 := Tryz.underlying80
  a25 := Tryz.isAgg80
  z25 := Tryz.sizeOf80
  v25 := Tryz.zeroValue80
  t39 := Tryz.underlying110
  a39 := Tryz.isAgg110
  z39 := Tryz.sizeOf110
  v39 := Tryz.zeroValue110
  t45 := Tryz.underlying132
  a45 := Tryz.isAgg132
  z45 := Tryz.sizeOf132
  v45 := Tryz.zeroValue132
  t46 := Tryz.underlying133
  a46 := Tryz.isAgg133
  z46 := Tryz.sizeOf133
  v46 := Tryz.zeroValue133
  t50 := Tryz.underlying137
  a50 := Tryz.isAgg137
  z50 := Tryz.sizeOf137
  v50 := Tryz.zeroValue137
  t53 := Tryz.underlying140
  a53 := Tryz.isAgg140
  z53 := Tryz.sizeOf140
  v53 := Tryz.zeroValue140
  t55 := Tryz.underlying142
  a55 := Tryz.isAgg142
  z55 := Tryz.sizeOf142
  v55 := Tryz.zeroValue142
  t66 := Tryz.underlying157
  a66 := Tryz.isAgg157
  z66 := Tryz.sizeOf157
  v66 := Tryz.zeroValue157
  t70 := Tryz.underlying161
  a70 := Tryz.isAgg161
  z70 := Tryz.sizeOf161
  v70 := Tryz.zeroValue161
  t76 := Tryz.underlying165
  a76 := Tryz.isAgg165
  z76 := Tryz.sizeOf165
  v76 := Tryz.zeroValue165
  t77 := Tryz.underlying106
  a77 := Tryz.isAgg106
  z77 := Tryz.sizeOf106
  v77 := Tryz.zeroValue106 }
end Go.Proofs.YtjgeoeeikfjmdaaGreatDoor
/- tar: each path's last file, in order. -/
namespace Go.Proofs.YtjgeoeeikfjmdaaGreatDoor
set_option linter.unnecessarySimpa false
open Go.ChangeShapes Go.WideShapes Go.ChangeAt Go.RowKit Go.Deep Fld Ust Pax Pth Tar Srt
set_option linter.unusedVariables false
set_option linter.unusedSimpArgs false

/-- files whose paths can be compared -/
abbrev EnS := { x : En // x.path.length ≤ 2000000 }
instance : Inhabited EnS := ⟨⟨⟨[], []⟩, by simp⟩⟩
abbrev ensK (x : EnS) : List UInt8 := x.1.path
theorem last1_s (x y : EnS) (W : World) (hG : MLen W) : Ret Tryz.prog 39 [.agg (x.1.cells).toArray, .agg (y.1.cells).toArray] W fun r W' => r = .int .i64 (cmpK ensK x y) ∧ Gr W W' := by
  obtain ⟨x, hx⟩ := x
  obtain ⟨y, hy⟩ := y
  refine Ret.enter Tryz.func39 rfl Tryz.ntmps39 (by kernel_rfl) rfl ?_
  refine KW.seq (KW.region ?_)
  refine OW.val rfl rfl (EX.box (l := x.cells) rfl rfl) ?_
  have hb1 := Bk.new W 23 x.cells
  have g1 := Gr.alloc W (.cells x.cells.toArray 23)
  generalize hw1 : W.alloc (.cells x.cells.toArray 23) = w1 at hb1 g1
  refine OW.val rfl rfl (EX.box (l := y.cells) rfl rfl) ?_
  refine OW.val rfl rfl (EX.assign rfl) ?_
  refine OW.nil ?_
  refine KW.seq (KW.region ?_)
  refine OW.val rfl rfl (EX.fieldAddr (off := 0) Tryz.underlying23 rfl rfl ti9 rfl rfl) ?_
  have hb2 := Bk.new w1 23 y.cells
  have g2 := Gr.alloc w1 (.cells y.cells.toArray 23)
  have hb1b := hb1.ext g2.1
  generalize hw2 : w1.alloc (.cells y.cells.toArray 23) = w2 at hb2 g2 hb1b
  have g3 := g1.trans g2
  refine OW.val rfl rfl (EX.load Tryz.underlying9 rfl rfl (hb1b.cell_of rfl)) ?_
  refine OW.val rfl rfl (EX.fieldAddr (off := 0) Tryz.underlying23 rfl rfl ti9 rfl rfl) ?_
  refine OW.val rfl rfl (EX.load Tryz.underlying9 rfl rfl (hb2.cell_of rfl)) ?_
  refine OW.call rfl rfl rfl (cmpG_s x.path y.path hx hy w2 (hG.ext g3.1)) ?_
  rintro _ w3 ⟨rfl, hg⟩
  refine OW.val rfl rfl (EX.assign rfl) ?_
  refine OW.nil ?_
  refine KW.ret (ret1 rfl rfl ?_)
  exact ⟨rfl, g3.trans hg⟩
abbrev PrN := List UInt8 × Nat
theorem nodup_le {α : Type} [DecidableEq α] : ∀ {V A : List α}, V.Nodup → (∀ a ∈ V, a ∈ A) → V.length ≤ A.length
  | [], _, _, _ => Nat.zero_le _
  | x :: V, A, hn, h => by
    have hn' := List.nodup_cons.1 hn
    have hx := h x (by simp)
    have ih := nodup_le (A := A.erase x) hn'.2 (fun a ha => (List.mem_erase_of_ne (fun e => hn'.1 (by rw [← e]; exact ha))).2 (h a (by simp [ha])))
    rw [List.length_erase_of_mem hx] at ih
    have := List.length_pos_of_mem hx
    rw [List.length_cons]
    omega
theorem nodup_fst {α β : Type} {V : List (α × β)} (h : (V.map (·.1)).Nodup) : V.Nodup := by
  have : V.Pairwise (fun a b => a.1 ≠ b.1) := List.pairwise_map.1 h
  exact this.imp fun hne e => hne (by rw [e])
def gotE (l : List En) (a : PrN) : En := l.getD a.2 ⟨[], []⟩
theorem last_mem {l : List En} {A V : List PrN} {m : List UInt8 → Option Nat} (hrep : Rep A m) (hb : ∀ p j, m p = some j → j < l.length) (hf : ∀ p, lastF En.path l p = (m p).bind (l[·]?)) (hV : ∀ a, a ∈ V ↔ a ∈ A) :
    (∀ z, z ∈ V.map (gotE l) ↔ lastF En.path l z.path = some z) ∧ V.map (fun a => (gotE l a).path) = V.map (·.1) := by
  have h1 : ∀ a ∈ V, lastF En.path l a.1 = some (gotE l a) := fun a ha => by
    have h2 := (hrep a.1 a.2).1 ((hV a).1 ha)
    have h3 := hb _ _ h2
    rw [hf, h2]
    simp [gotE, List.getD_eq_getElem?_getD, h3]
  refine ⟨fun z => ⟨fun hz => ?_, fun hz => ?_⟩, List.map_congr_left fun a ha => lastF_key En.path (h1 a ha)⟩
  · obtain ⟨a, ha, rfl⟩ := List.mem_map.1 hz
    rw [lastF_key En.path (h1 a ha)]
    exact h1 a ha
  · rw [hf] at hz
    cases hm : m z.path with
    | none => rw [hm] at hz; cases hz
    | some j =>
      have h2 : (z.path, j) ∈ V := (hV _).2 ((hrep _ _).2 hm)
      have h3 := h1 _ h2
      rw [hf] at h3
      have h4 : gotE l (z.path, j) = z := by
        have := h3.symm.trans hz
        injection this
      exact List.mem_map.2 ⟨_, h2, h4⟩
set_option maxRecDepth 20000 in
theorem last18_s (l : List En) (hl : ∀ x ∈ l, x.path.length ≤ 2000000) (hn : l.length ≤ 1000000) (A : Option Addr) (c B : Nat) (w : World) (hG : MLen w) (hs : Sl w B A (ensV l)) :
    Ret Tryz.prog 17 [.slice A l.length c] w fun v w' => ∃ out, IsMap En.path (lastF En.path l) out ∧ Own w' w.heap.size 23 2 v out.length (ensV out) ∧ Ext w w' := by
  refine Ret.enter Tryz.func17 rfl Tryz.ntmps17 (by kernel_rfl) rfl ?_
  refine KW.seq (KW.region ?_)
  refine OW.val rfl rfl (EX.assign rfl) ?_
  refine OW.nil ?_
  refine KW.seq (KW.region ?_)
  refine OW.makeMap rfl rfl ?_
  rintro mb w1 hge1 hm1 hx1
  refine OW.val rfl rfl (EX.assign rfl) ?_
  refine OW.nil ?_
  refine KW.seq (KW.seq (KW.region ?_))
  refine OW.val rfl rfl (EX.move rfl) ?_
  refine OW.val rfl rfl (EX.lenA Tryz.underlying31 rfl) ?_
  refine OW.val rfl rfl (EX.move rfl) ?_
  refine OW.nil ?_
  refine KW.block ?_
  refine KW.loop2 (fun (i : Nat) (wr : World) => i ≤ l.length ∧ (∃ es cc AA m, Mp wr mb es cc (AA.map fun a : PrN => (a.1, Value.int .i64 ((a.2 : Nat) : Int))) ∧ Rep AA m ∧ (∀ p j, m p = some j → j < i) ∧ ∀ p, lastF En.path (l.take i) p = (m p).bind (l[·]?)) ∧ Ext w wr) (fun (i : Nat) (wr : World) => [(0, .slice A l.length c), (3, .map (some mb)), (10, .slice A l.length c), (11, .int .i64 ((l.length : Nat) : Int)), (12, .int .i64 ((i : Nat) : Int))]) (fun (i : Nat) (wr : World) => wr) (fun (i : Nat) (wr : World) => l.length - i) (0) (w1) ⟨rfl, rfl, rfl, rfl, rfl, trivial⟩ rfl ?_ ?_
  · exact ⟨Nat.zero_le _, ⟨_, _, [], none', hm1, Rep.nil, (fun p j h => by cases h), fun p => rfl⟩, hx1⟩
  · rintro i wr ⟨hi, ⟨es, cc, AA, m, hm, hrep, hbd, hlf⟩, hx⟩
    refine KW.seq (KW.region ?_)
    refine OW.val rfl rfl (by first | exact EX.lssN rfl rfl | exact EX.lssZ rfl rfl) ?_
    refine OW.nil ?_
    refine KW.seq ?_
    refine KW.condD rfl (fun hlt => ?_) (fun hlt => ?_)
    · obtain ⟨b, o, rfl, _, hcell⟩ := (hs.ext hx).flat (c := 2) (fun _ => rfl) (by decide) hlt
      have hsn : l.take (i + 1) = l.take i ++ [l[i]] := (List.take_append_getElem hlt).symm
      have hli : l[i]? = some l[i] := List.getElem?_eq_getElem hlt
      generalize l[i] = x at hcell hsn hli
      refine KW.skip (KW.seq (KW.block (KW.seq (KW.region ?_))))
      refine OW.val rfl rfl (EX.move rfl) ?_
      refine OW.val rfl rfl (EX.indexAddrS Tryz.underlying31 ti23 rfl rfl (by omega)) ?_
      refine OW.val rfl rfl (EX.loadA (l := x.cells) Tryz.underlying23 rfl ti23 rfl rfl hcell) ?_
      refine OW.allocB (l := [str [], str []]) rfl rfl ti23 rfl ?_
      rintro xb w2 hge2 hb2 hx2
      refine OW.val rfl rfl (EX.assign rfl) ?_
      refine OW.storeS rfl ti23 rfl rfl rfl (by first | rfl | (simp only [List.all_cons, List.all_nil, Bool.and_true, Bool.true_and, Bool.and_eq_true, Value.oneCell']; repeat (first | assumption | exact Own.one (by assumption) | constructor))) (hb2) (Nat.le_refl _) ?_
      rintro w3 hb3 hm3
      refine OW.nil ?_
      refine KW.region ?_
      refine OW.val rfl rfl (EX.move rfl) ?_
      refine OW.val rfl rfl (EX.fieldAddr (off := 0) Tryz.underlying23 rfl rfl ti9 rfl rfl) ?_
      replace hb3 : Bk w3 xb 23 x.cells := hb3
      have x3 : Ext wr w3 := below_mo hx2 hm3 hx2.size (fun k hk => by simp at hk; omega)
      have hm4 := hm.ext x3
      refine OW.val rfl rfl (EX.load Tryz.underlying9 rfl rfl (hb3.cell_of rfl)) ?_
      refine OW.val rfl rfl (EX.move rfl) ?_
      refine OW.put rfl Tryz.underlying78 Tryz.underlying9 rfl rfl rfl (hm4) ?_
      rintro es5 cc5 w5 hm5 hmo5
      refine OW.nil ?_
      refine KW.leave (KW.region ?_)
      refine OW.val rfl rfl (by first | exact EX.addN (b := 1) (m := 9223372036854775807) rfl rfl rfl (by omega) | exact EX.addZ (m := 9223372036854775807) rfl rfl rfl rfl (by omega)) ?_
      refine OW.val rfl rfl (EX.move rfl) ?_
      refine OW.nil ?_
      refine KW.back2 (i + 1) (w5) ⟨rfl, rfl, rfl, rfl, rfl, trivial⟩ rfl ?_ (by omega)
      refine ⟨by omega, ⟨es5, cc5, putA AA x.path i, upd m x.path (some i), ?_, hrep.put _ _, ?_, ?_⟩, below_mo (hx.trans x3) hmo5 (hx.trans x3).size (fun k hk => by simp at hk; omega)⟩
      · have e := putA_map (fun j : Nat => Value.int .i64 ((j : Nat) : Int)) AA x.path i
        rw [e]
        exact hm5
      · intro p j hj
        unfold upd at hj
        split at hj
        · injection hj with hj; omega
        · have := hbd p j hj; omega
      · intro p
        rw [hsn, lastF_snoc]
        unfold upd
        by_cases e : p = x.path
        · rw [if_pos e, if_pos e]
          exact hli.symm
        · rw [if_neg e, if_neg e]
          exact hlf p
    · obtain rfl : i = l.length := by omega
      rw [List.take_length] at hlf
      have hmg : w.heap.size ≤ mb := hge1
      refine KW.exit rfl (KW.seq (KW.region ?_))
      refine OW.val rfl rfl (EX.assign rfl) ?_
      refine OW.nil ?_
      refine KW.seq (KW.seq (KW.region ?_))
      refine OW.val rfl rfl (EX.move rfl) ?_
      refine OW.range rfl rfl Tryz.underlying78 rfl (hm) ?_
      rintro rb w2 hge2 hi2 hx2
      refine OW.nil ?_
      have hm2 := hm.ext hx2
      have x2 := hx.trans hx2
      have hrm : rb ≠ mb := by have := hm.lt; omega
      have hrg : w.heap.size ≤ rb := by have := hx.size; omega
      refine KW.cut3 (fun (V : (List PrN)) (v : Value) (wq : World) => (∀ a, a ∈ V ↔ a ∈ AA) ∧ (V.map (·.1)).Nodup ∧ Own wq w.heap.size 23 2 v V.length (ensV (V.map (gotE l))) ∧ Ext w wq) (fun (V : (List PrN)) (v : Value) (wq : World) => [(6, v)]) (fun (V : (List PrN)) (v : Value) (wq : World) => wq) ?_ ?_
      · refine KW.block ?_
        refine KW.loop3 (fun (V : (List PrN)) (v : Value) (wq : World) => (∃ seen, Seen (fun j : Nat => Value.int .i64 ((j : Nat) : Int)) es seen AA V ∧ It wq rb mb cc seen cc) ∧ Mp wq mb es cc (AA.map fun a : PrN => (a.1, Value.int .i64 ((a.2 : Nat) : Int))) ∧ Own wq w.heap.size 23 2 v V.length (ensV (V.map (gotE l))) ∧ Ext w wq) (fun (V : (List PrN)) (v : Value) (wq : World) => [(0, .slice A l.length c), (6, v), (23, .pointer (some ⟨rb, 0, none⟩))]) (fun (V : (List PrN)) (v : Value) (wq : World) => wq) (fun (V : (List PrN)) (v : Value) (wq : World) => AA.length - V.length) ([]) (.slice none 0 0) (w2) ⟨rfl, rfl, rfl, trivial⟩ rfl ?_ ?_
        · exact ⟨⟨#[], Seen.nil, hi2⟩, hm2, Own.nil _ _ _ _, x2⟩
        · rintro V v wq ⟨⟨seen, hseen, hit⟩, hmq, hown, hxq⟩
          refine KW.seq (KW.region ?_)
          refine OW.next rfl rfl rfl (hmq) (hit) ?_ ?_
          · intro hall
            refine OW.val rfl rfl (EX.extract rfl rfl) ?_
            refine OW.nil ?_
            refine KW.seq ?_
            refine KW.condF rfl (KW.exit rfl ?_)
            refine KW.meet3 (V) (v) (wq) ⟨rfl, trivial⟩ rfl ?_
            exact ⟨hseen.done hmq hall, hseen.nod, hown, hxq⟩
          · rintro e w3 he hne hit3 hmo3
            refine OW.val rfl rfl (EX.extract rfl rfl) ?_
            refine OW.nil ?_
            refine KW.seq ?_
            refine KW.condT rfl (KW.skip (KW.block (KW.seq (KW.region ?_))))
            obtain ⟨a, haA, hk, hv, hseen3⟩ := hseen.next hmq he hne
            obtain ⟨ek, ew, eb⟩ := e
            simp only at hk hv
            subst hk hv
            have hm3 := hmq.mo hmo3 (by simp; exact Ne.symm hrm)
            have x3 : Ext w w3 := below_mo hxq hmo3 hxq.size (fun k hk => by simp at hk; omega)
            have hown3 := hown.mo hmo3 (fun k hk => by
              simp only [List.mem_singleton]
              rintro rfl
              obtain ⟨_, _, fr, q, _⟩ := hown.blkT k hk
              unfold It at hit
              rw [hit] at q
              cases q)
            have hja := hbd _ _ ((hrep a.1 a.2).1 haA)
            obtain ⟨b, o, rfl, _, hcell⟩ := (hs.ext x3).flat (i := a.2) (c := 2) (fun _ => rfl) (by decide) hja
            have hgot : l[a.2] = gotE l a := by simp [gotE, List.getD_eq_getElem?_getD, hja]
            rw [hgot] at hcell
            have hVl : V.length < AA.length := by
              have := nodup_le (nodup_fst hseen3.nod) hseen3.sub
              rw [List.length_append, List.length_singleton] at this
              omega
            have hAl : AA.length ≤ l.length := by
              have h1 : (AA.map (·.1)).Nodup := by
                have := hmq.keys
                rw [List.map_map] at this
                exact this
              have h2 := nodup_le (V := AA.map (·.1)) (A := l.map En.path) h1 (fun p hp => by
                obtain ⟨a, ha, rfl⟩ := List.mem_map.1 hp
                have h3 := (hrep a.1 a.2).1 ha
                have h4 := hlf a.1
                rw [h3] at h4
                have h5 := hbd _ _ h3
                simp only [Option.bind_some, List.getElem?_eq_getElem h5] at h4
                exact List.mem_map.2 ⟨_, lastF_mem En.path h4, lastF_key En.path h4⟩)
              simpa using h2
            refine OW.val rfl rfl (EX.entry rfl (hm3) (hit3) (he)) ?_
            refine OW.val rfl rfl (EX.extract rfl rfl) ?_
            refine OW.val rfl rfl (EX.assign rfl) ?_
            refine OW.nil ?_
            refine KW.region ?_
            refine OW.val rfl rfl (EX.move rfl) ?_
            refine OW.val rfl rfl (EX.move rfl) ?_
            refine OW.val rfl rfl (EX.move rfl) ?_
            refine OW.val rfl rfl (EX.indexAddrS Tryz.underlying31 ti23 rfl rfl (by omega)) ?_
            refine OW.val rfl rfl (EX.loadA (l := (gotE l a).cells) Tryz.underlying23 rfl ti23 rfl rfl hcell) ?_
            refine OW.pushS rfl rfl (fun _ => rfl) rfl Tryz.underlying31 ti23 rfl (by decide) (by decide) rfl rfl (fun _ => rfl) (by first | rfl | assumption | (simp only [List.all_cons, List.all_nil, Bool.and_true, Bool.true_and, Bool.and_eq_true, Value.oneCell']; repeat (first | assumption | constructor))) (x3) (hown3) (by simp only [maxLen]; omega) (by omega) ?_
            rintro _ v4 w4 hown4 x4 hg4
            refine OW.val rfl rfl (EX.assign rfl) ?_
            refine OW.nil ?_
            refine KW.leave ?_
            have hmo4 : Mo w3 w4 v.ownBlock.toList := Mo.grown hg4 (fun k e => by rw [e]; simp)
            have nm : mb ∉ v.ownBlock.toList := fun q => by
              obtain ⟨_, _, fr, q2, _⟩ := hown3.blkT mb (Option.mem_toList.1 q)
              rw [hm3.blk] at q2
              cases q2
            have nr : rb ∉ v.ownBlock.toList := fun q => by
              obtain ⟨_, _, fr, q2, _⟩ := hown3.blkT rb (Option.mem_toList.1 q)
              unfold It at hit3
              rw [hit3] at q2
              cases q2
            refine KW.back3 (V ++ [a]) (v4) (w4) ⟨rfl, rfl, rfl, trivial⟩ rfl ?_ (by rw [List.length_append]; simp; omega)
            refine ⟨⟨_, hseen3, ?_⟩, hm3.mo hmo4 nm, ?_, x4⟩
            · unfold It at hit3 ⊢
              have hlt : rb < w3.heap.size := by
                rcases Nat.lt_or_ge rb w3.heap.size with h' | h'
                · exact h'
                · simp [Array.getElem?_eq_none h'] at hit3
              rw [hmo4.block rb hlt nr]
              exact hit3
            · rw [List.length_append, List.map_append, List.map_singleton, ensV_snoc]
              exact hown4
      · rintro V v wq ⟨hV, hnod, hown, hxq⟩
        obtain ⟨hmem, hkey⟩ := last_mem hrep hbd hlf hV
        have hbdd : ∀ x ∈ V.map (gotE l), x.path.length ≤ 2000000 := fun x hx => hl x (lastF_mem En.path ((hmem x).1 hx))
        obtain ⟨L, hL⟩ : ∃ L : List EnS, L.map (·.1) = V.map (gotE l) := ⟨(V.map (gotE l)).attachWith _ hbdd, by simp⟩
        have hLl : L.length = V.length := by have := congrArg List.length hL; simpa using this
        have hfm : ∀ L : List EnS, L.flatMap (fun x => x.1.cells) = ensV (L.map (·.1)) := fun L => by
          induction L with
          | nil => rfl
          | cons x L ih => rw [List.flatMap_cons, List.map_cons, ih]; rfl
        have hVl : V.length ≤ 1000000 := by
          have h1 := nodup_le (V := V.map (·.1)) (A := l.map En.path) hnod (fun p hp => by
            rw [← hkey] at hp
            obtain ⟨a, ha, rfl⟩ := List.mem_map.1 hp
            exact List.mem_map.2 ⟨_, lastF_mem En.path ((hmem _).1 (List.mem_map.2 ⟨a, ha, rfl⟩)), rfl⟩)
          simp only [List.length_map] at h1
          omega
        have hown1 : Own wq w.heap.size 23 2 v L.length (L.flatMap (fun x => x.1.cells)) := by rw [hfm, hL, hLl]; exact hown
        have c1 := sort_own Tryz.sort38 (f := 38) rfl Tryz.func38 (by kernel_rfl) (e := 23) rfl Tryz.underlying23 rfl ti23 (by decide) (cells := fun x : EnS => x.1.cells) (fun _ => rfl) (fun x v hv => by simp [En.cells] at hv; rcases hv with rfl | rfl <;> rfl) (cmpK ensK) (swo ensK) Tryz.func39 (by kernel_rfl) w.heap.size L (by omega) v wq hown1
          (fun W x y hmo => last1_s x y W (by
            obtain ⟨mm, hmm⟩ := hG
            exact ⟨mm, by
              have hb : 0 < w.heap.size := World.block_lt_of_cell? w _ hmm
              have h1 := hmo.block 0 (Nat.lt_of_lt_of_le hb hxq.size) (fun q => by have := (hown.lt _ (Option.mem_toList.1 q)).1; omega)
              have h2 := hxq.block 0 hb
              unfold World.cell? at hmm ⊢
              rw [h1, h2]
              exact hmm⟩))
        refine KW.seq (KW.region ?_)
        refine OW.val rfl rfl (EX.move rfl) ?_
        refine OW.call rfl rfl rfl (c1) ?_
        rintro _ w5 ⟨rfl, L', hperm, hsort, hown5, hmo5⟩
        refine OW.nil ?_
        refine KW.seq (KW.region ?_)
        refine OW.val rfl rfl (EX.move rfl) ?_
        refine OW.val rfl rfl (EX.assign rfl) ?_
        refine OW.nil ?_
        refine KW.ret (ret1 rfl rfl ?_)
        have hkn : (L'.map ensK).Nodup := by
          have h1 : (L.map ensK).Nodup := by
            have : L.map ensK = V.map (·.1) := by
              have e1 : L.map ensK = (L.map (·.1)).map En.path := by rw [List.map_map]; rfl
              rw [e1, hL, List.map_map]
              exact hkey
            rw [this]
            exact hnod
          exact (hperm.map ensK).nodup_iff.2 h1
        have hr := rises_of_sorted ensK hsort hkn
        refine ⟨L'.map (·.1), ⟨?_, fun x => ?_⟩, ?_, below_mo hxq hmo5 hxq.size (fun k hk => (hown.lt k (Option.mem_toList.1 hk)).1)⟩
        · exact List.pairwise_map.2 hr
        · rw [← hmem x, ← hL]
          exact ((hperm.map (·.1)).mem_iff)
        · rw [List.length_map, hperm.length_eq, ← hfm]
          exact hown5
end Go.Proofs.YtjgeoeeikfjmdaaGreatDoor
