/-
  What the statements rest on, part 6 of 6: many small texts, one behind the other.
-/
import Derived.Test.YtjgeoeeikfjmdaaGreatDoorMrgE
import Derived.ProofKit
import Derived.OpenShut
import Derived.ShutString
import Derived.SizedLaws
import Derived.SliceStrings
import Derived.Deep.Slices
import Derived.Deep.Grids
import Derived.Test.YtjgeoeeikfjmdaaGreatDoorRows
import Derived.Lib.LaidTab
import Derived.Stop.LaidErr
/- tar: Pack; what the statements begin with. -/
namespace Go.Proofs.YtjgeoeeikfjmdaaGreatDoor
set_option linter.unnecessarySimpa false
open Go.RowKit Fld Ust Pax Pth Tar
set_option linter.unusedVariables false
set_option linter.unusedSimpArgs false

/-! ### In plain words -/
def hv : List En → Nat
  | [] => 0
  | x :: l => x.path.length + x.data.length + 1000 + hv l
theorem hv_append : ∀ (a b : List En), hv (a ++ b) = hv a + hv b
  | [], b => by simp [hv]
  | x :: a, b => by
    have := hv_append a b
    simp only [List.cons_append, hv]
    omega
theorem hv_take (l : List En) (i : Nat) : hv (l.take i) ≤ hv l := by
  have := hv_append (l.take i) (l.drop i)
  rw [List.take_append_drop] at this
  omega
theorem hv_mem : ∀ {l : List En} {x : En}, x ∈ l → x.path.length + x.data.length + 1000 ≤ hv l
  | y :: l, x, h => by
    simp only [hv]
    rcases List.mem_cons.1 h with rfl | h
    · omega
    · have := hv_mem h; omega
set_option maxRecDepth 20000 in
theorem hv_len : ∀ (l : List En), l.length * 1000 ≤ hv l
  | [] => by simp [hv]
  | x :: l => by
    have := hv_len l
    simp only [hv, List.length_cons]
    omega
def okL (l : List En) : Prop := ∀ x ∈ l, checkP x.path = 0 ∧ x.data.length ≤ 262144
set_option maxRecDepth 20000 in
theorem cat_le : ∀ (l : List En), okL l → (catT l).length ≤ 3 * hv l
  | [], _ => by simp [catT]
  | x :: l, h => by
    have h1 := ent_len (h x (by simp)).1 (h x (by simp)).2
    have h2 := cat_le l (fun y hy => h y (by simp [hy]))
    have e : (catT (x :: l)).length = (entT x).length + (catT l).length := by rw [show catT (x :: l) = entT x ++ catT l from rfl, List.length_append]
    have e2 : hv (x :: l) = x.path.length + x.data.length + 1000 + hv l := rfl
    generalize (catT (x :: l)).length = q1 at *
    generalize (catT l).length = q3 at *
    generalize (entT x).length = q4 at *
    generalize hv (x :: l) = q5 at *
    generalize hv l = q6 at *
    omega
theorem catT_snoc (l : List En) (x : En) : catT (l ++ [x]) = catT l ++ entT x := by simp [catT]
theorem errT_ok {l : List En} (h : okL l) : errT l = 0 := by
  induction l with
  | nil => rfl
  | cons x l ih =>
    have hx := h x (by simp)
    unfold errT
    rw [if_neg (by omega), if_neg (by omega)]
    exact ih fun y hy => h y (by simp [hy])
theorem errT_at {l : List En} {i : Nat} (hi : i < l.length) (h : okL (l.take i)) (he : (entE l[i]).2 ≠ 0) : errT l = (entE l[i]).2 := by
  induction l generalizing i with
  | nil => simp at hi
  | cons x l ih =>
    cases i with
    | zero =>
      simp only [List.getElem_cons_zero] at he ⊢
      unfold errT entE at *
      by_cases c : checkP x.path = 0
      · rw [if_neg (by omega)] at he ⊢
        by_cases c2 : 262144 < x.data.length
        · rw [if_pos c2] at he ⊢
          rw [if_neg (by omega), if_pos c2]
        · rw [if_neg c2] at he
          exact absurd rfl he
      · rw [if_pos c, if_pos c]
    | succ i =>
      have hx := h x (by simp)
      simp only [List.getElem_cons_succ] at he ⊢
      unfold errT
      rw [if_neg (by omega), if_neg (by omega)]
      exact ih (by simpa using hi) (fun y hy => h y (by simp [hy])) he
/-! ### The builder -/
theorem write_b (B b g : Nat) (l s : List UInt8) (w : World) (h : Bd w B b l) (hs : s ≠ []) (hg : Bk w g 5 (bytesV s)) (hlen : l.length + s.length ≤ 140737488355328) (hB : B ≤ w.heap.size) :
    Ret Tryz.prog 31 [.pointer (some ⟨b, 0, none⟩), .slice (some ⟨g, 0, none⟩) s.length s.length] w fun r w' => (∃ q, r = q) ∧ Bd w' B b (l ++ s) ∧ Below B w w' := by
  obtain ⟨hBb, p, v, hp, hb, hn, hown⟩ := h
  have hlb : (bytesV l).length = l.length := by simp [bytesV]
  have hls : (bytesV s).length = s.length := by simp [bytesV]
  have ngb : g ≠ b := hg.ne hb (by decide)
  refine Ret.enter Tryz.func31 rfl Tryz.ntmps31 (by kernel_rfl) rfl ?_
  refine KW.seq (KW.region ?_)
  refine OW.val rfl rfl (EX.assign rfl) ?_
  refine OW.val rfl rfl (EX.assign rfl) ?_
  refine OW.nil ?_
  refine KW.seq (KW.region ?_)
  refine OW.val rfl rfl (EX.move rfl) ?_
  refine OW.call rfl rfl rfl (copyCheck_b b p v w hp hb) ?_
  rintro _ w1 ⟨rfl, hb1, hm1⟩
  refine OW.nil ?_
  refine KW.seq (KW.region ?_)
  refine OW.val rfl rfl (EX.move rfl) ?_
  refine OW.val rfl rfl (EX.move rfl) ?_
  refine OW.val rfl rfl (EX.nilCheck rfl) ?_
  refine OW.val rfl rfl (EX.fieldAddr (off := 1) Tryz.underlying57 rfl rfl ti55 rfl rfl) ?_
  have hown1 := hown.mo hm1 (fun k hk => by simp; exact fun z => hown.ne hb (by decide) k hk z.symm)
  have b1 : Below B w w1 := below_mo (Below.refl B w) hm1 hB (fun k hk => by simp at hk; omega)
  have hB1 : B ≤ w1.heap.size := Nat.le_trans hB b1.size
  have hg1 := hg.mo hm1 (by simp; exact ngb)
  refine OW.val rfl rfl (EX.load Tryz.underlying55 rfl rfl (hb1.cell_of rfl)) ?_
  refine OW.val rfl rfl (EX.move rfl) ?_
  refine OW.append B rfl rfl Tryz.underlying55 ti5 rfl (by decide) rfl rfl hown1 (Src.of_sl Tryz.underlying55 (Sl.of_bk hg1 hg1.lt) (by omega) bytesV_one (by decide)) (by simp only [maxLen]; omega) (by omega) hB1 ?_
  rintro v2 w2 hown2 hg2 hv2
  refine OW.val rfl rfl (EX.nilCheck rfl) ?_
  refine OW.val rfl rfl (EX.fieldAddr (off := 1) Tryz.underlying57 rfl rfl ti55 rfl rfl) ?_
  have hb2 := hb1.grown hg2 (fun z => hown1.ne hb1 (by decide) b z.symm rfl)
  have b2 : Below B w w2 := below_mo b1 (Mo.grown hg2 (S := v.ownBlock.toList) (fun k e => by rw [e]; simp)) hB1 (fun k hk => (hown1.lt k (Option.mem_toList.1 hk)).1)
  have hB2 : B ≤ w2.heap.size := Nat.le_trans hB b2.size
  refine OW.storeB rfl ti55 rfl rfl (by first | rfl | assumption | exact Own.one (by assumption)) (hb2) (by simp) ?_
  rintro w3 hb3 hm3
  refine OW.nil ?_
  refine KW.seq (KW.region ?_)
  refine OW.val rfl rfl (EX.move rfl) ?_
  refine OW.val rfl rfl (EX.lenA Tryz.underlying55 rfl) ?_
  refine OW.val rfl rfl (EX.assign rfl) ?_
  refine OW.val rfl rfl (EX.assign rfl) ?_
  refine OW.nil ?_
  have b3 : Below B w w3 := below_mo b2 hm3 hB2 (fun k hk => by simp at hk; omega)
  have hown3 := hown2.mo hm3 (fun k hk => by simp; exact fun z => hown2.ne hb2 (by decide) k hk z.symm)
  refine KW.ret (ret2 rfl rfl rfl ?_)
  refine ⟨⟨_, rfl⟩, ⟨hBb, _, v2, .inr rfl, hb3, fun q => absurd q (by simp [hs]), ?_⟩, b3⟩
  rw [List.length_append]
  have e : bytesV (l ++ s) = bytesV l ++ bytesV s := by simp [bytesV]
  rw [e]
  exact hown3
theorem blen_b (B b : Nat) (l : List UInt8) (w : World) (h : Bd w B b l) :
    Ret Tryz.prog 29 [.pointer (some ⟨b, 0, none⟩)] w fun r w' => r = .int .i64 ((l.length : Nat) : Int) ∧ w = w' := by
  obtain ⟨hBb, p, v, hp, hb, hn, hown⟩ := h
  obtain ⟨A, c, rfl, _, _⟩ := hown.slice
  refine Ret.enter Tryz.func29 rfl Tryz.ntmps29 (by kernel_rfl) rfl ?_
  refine KW.seq (KW.region ?_)
  refine OW.val rfl rfl (EX.assign rfl) ?_
  refine OW.nil ?_
  refine KW.seq (KW.region ?_)
  refine OW.val rfl rfl (EX.move rfl) ?_
  refine OW.val rfl rfl (EX.nilCheck rfl) ?_
  refine OW.val rfl rfl (EX.fieldAddr (off := 1) Tryz.underlying57 rfl rfl ti55 rfl rfl) ?_
  refine OW.val rfl rfl (EX.load Tryz.underlying55 rfl rfl (hb.cell_of rfl)) ?_
  refine OW.val rfl rfl (EX.lenA Tryz.underlying55 rfl) ?_
  refine OW.val rfl rfl (EX.assign rfl) ?_
  refine OW.nil ?_
  refine KW.ret (ret1 rfl rfl ?_)
  exact ⟨rfl, rfl⟩
/-! ### Packing -/
set_option maxRecDepth 20000 in
theorem pack_s (l : List En) (hl : hv l ≤ 40000) (A : Option Addr) (c B : Nat) (w : World) (hG : Env w) (hs : Sl w B A (ensV l)) :
    Ret Tryz.prog 12 [.slice A l.length c] w fun v w' => v = .tuple #[str (packT l).1, .int .i64 (((packT l).2 : Nat) : Int)] ∧ Ext w w' := by
  have hll := hv_len l
  refine Ret.enter Tryz.func12 rfl Tryz.ntmps12 (by kernel_rfl) rfl ?_
  refine KW.seq (KW.region ?_)
  refine OW.val rfl rfl (EX.assign rfl) ?_
  refine OW.val rfl rfl (EX.assign rfl) ?_
  refine OW.nil ?_
  refine KW.seq (KW.region ?_)
  refine OW.allocB (l := [.pointer none, .slice none 0 0]) rfl rfl ti57 rfl ?_
  rintro bb w1 hge1 hb1 hx1
  refine OW.nil ?_
  refine KW.seq (KW.seq (KW.region ?_))
  refine OW.val rfl rfl (EX.move rfl) ?_
  refine OW.val rfl rfl (EX.lenA Tryz.underlying31 rfl) ?_
  refine OW.val rfl rfl (EX.move rfl) ?_
  refine OW.nil ?_
  refine KW.block ?_
  have hbd := Bd.new (B := w.heap.size) hge1 hb1
  refine KW.loop2 (fun (i : Nat) (wr : World) => i ≤ l.length ∧ okL (l.take i) ∧ Bd wr w.heap.size bb (catT (l.take i)) ∧ Ext w wr) (fun (i : Nat) (wr : World) => [(4, .pointer (some ⟨bb, 0, none⟩)), (9, .slice A l.length c), (10, .int .i64 ((l.length : Nat) : Int)), (11, .int .i64 ((i : Nat) : Int)), (0, .slice A l.length c)]) (fun (i : Nat) (wr : World) => wr) (fun (i : Nat) (wr : World) => l.length - i) (0) (w1) ⟨rfl, rfl, rfl, rfl, rfl, trivial⟩ rfl ?_ ?_
  · exact ⟨Nat.zero_le _, fun x hx => by simp at hx, hbd, hx1⟩
  · rintro i wr ⟨hi, hok, hbd, hx⟩
    have hcl := cat_le _ hok
    have hvt := hv_take l i
    refine KW.seq (KW.region ?_)
    refine OW.val rfl rfl (by first | exact EX.lssN rfl rfl | exact EX.lssZ rfl rfl) ?_
    refine OW.nil ?_
    refine KW.seq ?_
    refine KW.condD rfl (fun hlt => ?_) (fun hlt => ?_)
    · obtain ⟨b, o, rfl, _, hcell⟩ := (hs.ext hx).flat (c := 2) (fun _ => rfl) (by decide) hlt
      have hsn : l.take (i + 1) = l.take i ++ [l[i]] := (List.take_append_getElem hlt).symm
      have hvt1 := hv_take l (i + 1)
      have hmem := hv_mem (List.getElem_mem hlt)
      have hat := fun h => errT_at hlt hok h
      have hentE : (entE l[i]).2 = 0 → entE l[i] = (entT l[i], 0) ∧ checkP (l[i]).path = 0 ∧ (l[i]).data.length ≤ 262144 := fun h => by
        unfold entE at h ⊢
        by_cases c1 : checkP (l[i]).path = 0
        · rw [if_neg (by omega)] at h ⊢
          by_cases c2 : 262144 < (l[i]).data.length
          · rw [if_pos c2] at h; cases h
          · rw [if_neg c2]; exact ⟨rfl, c1, by omega⟩
        · rw [if_pos c1] at h; cases h
      generalize hx0 : l[i] = x at hcell hsn hmem hat hentE
      refine KW.skip (KW.seq (KW.block (KW.seq (KW.region ?_))))
      refine OW.val rfl rfl (EX.indexAddrS Tryz.underlying31 ti23 rfl rfl (by omega)) ?_
      refine OW.val rfl rfl (EX.loadA (l := x.cells) Tryz.underlying23 rfl ti23 rfl rfl hcell) ?_
      refine OW.allocB (l := [str [], str []]) rfl rfl ti23 rfl ?_
      rintro xb w2 hge2 hxb hx2
      refine OW.storeS rfl ti23 rfl rfl rfl (by first | rfl | (simp only [List.all_cons, List.all_nil, Bool.and_true, Bool.true_and, Bool.and_eq_true, Value.oneCell']; repeat (first | assumption | exact Own.one (by assumption) | constructor))) (hxb) (Nat.le_refl _) ?_
      rintro w3 hxb3 hm3
      refine OW.nil ?_
      refine KW.seq (KW.region ?_)
      replace hxb3 : Bk w3 xb 23 x.cells := hxb3
      have x3 : Ext wr w3 := below_mo hx2 hm3 hx2.size (fun k hk => by simp at hk; omega)
      refine OW.val rfl rfl (EX.loadBk Tryz.underlying23 rfl ti23 rfl (hxb3) (rfl)) ?_
      refine OW.call rfl rfl rfl (entry_s x (by omega) (by omega) w3 (hG.ext (hx.trans x3))) ?_
      rintro _ w4 ⟨rfl, hx4⟩
      refine OW.val rfl rfl (EX.move rfl) ?_
      refine OW.val rfl rfl (EX.extract rfl rfl) ?_
      refine OW.val rfl rfl (EX.extract rfl rfl) ?_
      refine OW.val rfl rfl (EX.assign rfl) ?_
      refine OW.val rfl rfl (EX.assign rfl) ?_
      refine OW.nil ?_
      refine KW.seq (KW.seq (KW.region ?_))
      refine OW.val rfl rfl (EX.move rfl) ?_
      refine OW.val rfl rfl (by first | exact EX.neqN (b := 0) rfl rfl | exact EX.neqZ rfl rfl) ?_
      refine OW.nil ?_
      have x4 := (hx.trans x3).trans hx4
      refine KW.condD rfl (fun he => ?_) (fun he => ?_)
      · have e : packT l = ([], (entE x).2) := by
          unfold packT
          have := hat (by omega)
          rw [if_pos (by omega), this]
        refine KW.seq (KW.region ?_)
        refine OW.val rfl rfl (EX.move rfl) ?_
        refine OW.val rfl rfl (EX.assign rfl) ?_
        refine OW.val rfl rfl (EX.assign rfl) ?_
        refine OW.nil ?_
        refine KW.ret (ret2 rfl rfl rfl ?_)
        rw [e]
        exact ⟨rfl, x4⟩
      · obtain ⟨e1, e2, e3⟩ := hentE (by omega)
        have hel := ent_len e2 e3
        have hok2 : okL (l.take (i + 1)) := fun y hy => by
          rw [hsn] at hy
          rcases List.mem_append.1 hy with hy | hy
          · exact hok y hy
          · simp only [List.mem_singleton] at hy
            subst hy
            exact ⟨e2, e3⟩
        have hcl2 := cat_le _ hok2
        have hcs : catT (l.take (i + 1)) = catT (l.take i) ++ entT x := by rw [hsn, catT_snoc]
        have hbd4 := (hbd.ext x3).ext hx4
        have hcl3 : (catT (l.take (i + 1))).length = (catT (l.take i)).length + (entT x).length := by rw [hcs, List.length_append]
        rw [e1]
        refine KW.skip (KW.seq (KW.region ?_))
        refine OW.val rfl rfl (EX.move rfl) ?_
        refine OW.call rfl rfl rfl (writeString_b w.heap.size bb (catT (l.take i)) (entT x) w4 hbd4 (fun q => by rw [q] at hel; simp at hel) (by omega) x4.size) ?_
        rintro _ w5 ⟨⟨q, rfl⟩, hbd5, hbl5⟩
        refine OW.nil ?_
        refine KW.seq (KW.region ?_)
        rw [← hcs] at hbd5
        have x5 : Ext w w5 := Below.trans x4 hbl5
        refine OW.call rfl rfl rfl (blen_b w.heap.size bb (catT (l.take (i + 1))) w5 hbd5) ?_
        rintro _ _ ⟨rfl, rfl⟩
        refine OW.val rfl rfl (by first | exact EX.addN (b := 1024) (m := 9223372036854775807) rfl rfl rfl (by omega) | exact EX.addZ (m := 9223372036854775807) rfl rfl rfl rfl (by omega)) ?_
        refine OW.val rfl rfl (by first | exact EX.gtrN (b := 524288) rfl rfl | exact EX.gtrZ rfl rfl) ?_
        refine OW.nil ?_
        refine KW.condD rfl (fun hbig => ?_) (fun hbig => ?_)
        · omega
        · refine KW.skip (KW.leave (KW.region ?_))
          refine OW.val rfl rfl (by first | exact EX.addN (b := 1) (m := 9223372036854775807) rfl rfl rfl (by omega) | exact EX.addZ (m := 9223372036854775807) rfl rfl rfl rfl (by omega)) ?_
          refine OW.val rfl rfl (EX.move rfl) ?_
          refine OW.nil ?_
          refine KW.back2 (i + 1) (w5) ⟨rfl, rfl, rfl, rfl, rfl, trivial⟩ rfl ?_ (by omega)
          exact ⟨by omega, hok2, hbd5, x5⟩
    · obtain rfl : i = l.length := by omega
      rw [List.take_length] at hok hbd hcl
      have e : packT l = (catT l ++ nul 1024, 0) := by
        unfold packT
        rw [if_neg (by rw [errT_ok hok]; decide)]
      refine KW.exit rfl (KW.seq (KW.region ?_))
      refine OW.makeB (len := 1024) rfl rfl Tryz.underlying55 ti5 rfl rfl rfl (by omega) (by omega) ?_
      rintro gb w2 hge2 hg2 hx2
      have hg3 : Bk w2 gb 5 (bytesV (nul 1024)) := by rw [bytesV_nul]; exact hg2
      have x2 := hx.trans hx2
      refine OW.call rfl rfl rfl (write_b w.heap.size bb gb (catT l) (nul 1024) w2 (hbd.ext hx2) (by decide) hg3 (by have : (nul 1024).length = 1024 := nul_length _; omega) x2.size) ?_
      rintro _ w3 ⟨⟨q, rfl⟩, hbd3, hbl3⟩
      refine OW.nil ?_
      refine KW.seq (KW.region ?_)
      have x3 : Ext w w3 := Below.trans x2 hbl3
      refine OW.call rfl rfl rfl (bstring_b w.heap.size bb (catT l ++ nul 1024) w3 hbd3 (by have : (nul 1024).length = 1024 := nul_length _; rw [List.length_append]; omega) x3.size) ?_
      rintro _ w4 ⟨rfl, hbl4⟩
      refine OW.val rfl rfl (EX.assign rfl) ?_
      refine OW.val rfl rfl (EX.assign rfl) ?_
      refine OW.nil ?_
      refine KW.ret (ret2 rfl rfl rfl ?_)
      rw [e]
      exact ⟨rfl, Below.trans x3 hbl4⟩
/-! ### What the statements begin with -/
theorem en_ne (a b : En) : (!([decide (a.path = b.path), decide (a.data = b.data)].all id)) = decide (a ≠ b) := by
  obtain ⟨a1, a2⟩ := a
  obtain ⟨b1, b2⟩ := b
  rw [Bool.eq_iff_iff]
  by_cases c1 : a1 = b1 <;> by_cases c2 : a2 = b2 <;> simp [c1, c2]
theorem en_eq (a b : En) : ([decide (a.path = b.path), decide (a.data = b.data)].all id) = decide (a = b) := by
  obtain ⟨a1, a2⟩ := a
  obtain ⟨b1, b2⟩ := b
  rw [Bool.eq_iff_iff]
  by_cases c1 : a1 = b1 <;> by_cases c2 : a2 = b2 <;> simp [c1, c2]
set_option maxRecDepth 20000 in
theorem sameE_s (l1 l2 : List En) (A1 A2 : Option Addr) (k1 k2 : Nat) (w : World) (B1 B2 : Nat) (h1 : Sl w B1 A1 (ensV l1)) (h2 : Sl w B2 A2 (ensV l2)) (hn : l1.length ≤ 140737488355328) :
    Ret Tryz.prog 16 [.slice A1 l1.length k1, .slice A2 l2.length k2] w fun v w' => v = .bool (decide (l1 = l2)) ∧ Ext w w' := by
  refine Ret.enter Tryz.func16 rfl Tryz.ntmps16 (by kernel_rfl) rfl ?_
  refine KW.seq (KW.region ?_)
  refine OW.val rfl rfl (EX.assign rfl) ?_
  refine OW.nil ?_
  refine KW.seq (KW.seq (KW.region ?_))
  refine OW.val rfl rfl (EX.move rfl) ?_
  refine OW.val rfl rfl (EX.lenA Tryz.underlying31 rfl) ?_
  refine OW.val rfl rfl (EX.move rfl) ?_
  refine OW.val rfl rfl (EX.lenA Tryz.underlying31 rfl) ?_
  refine OW.val rfl rfl (by first | exact EX.neqN rfl rfl | exact EX.neqZ rfl rfl) ?_
  refine OW.nil ?_
  refine KW.condD rfl (fun hl => ?_) (fun hl => ?_)
  · refine KW.seq (KW.region ?_)
    refine OW.val rfl rfl (EX.assign rfl) ?_
    refine OW.nil ?_
    refine KW.ret (ret1 rfl rfl ?_)
    refine ⟨congrArg Value.bool (decide_eq_false (fun e => hl (by rw [e]))).symm, Ext.refl _⟩
  · have hll : l1.length = l2.length := by omega
    refine KW.skip (KW.seq (KW.seq (KW.region ?_)))
    refine OW.val rfl rfl (EX.assign rfl) ?_
    refine OW.nil ?_
    refine KW.block ?_
    refine KW.loop2 (fun (i : Nat) (wr : World) => i ≤ l1.length ∧ (∀ j, j < i → l1[j]? = l2[j]?) ∧ Ext w wr) (fun (i : Nat) (wr : World) => [(0, .slice A1 l1.length k1), (1, .slice A2 l2.length k2), (5, .int .i64 ((i : Nat) : Int))]) (fun (i : Nat) (wr : World) => wr) (fun (i : Nat) (wr : World) => l1.length - i) (0) (w) ⟨rfl, rfl, rfl, trivial⟩ rfl ?_ ?_
    · exact ⟨by omega, fun j hj => by omega, Ext.refl _⟩
    · rintro i wr ⟨hi, he, hx⟩
      refine KW.seq (KW.seq (KW.region ?_))
      refine OW.val rfl rfl (EX.move rfl) ?_
      refine OW.val rfl rfl (EX.move rfl) ?_
      refine OW.val rfl rfl (EX.lenA Tryz.underlying31 rfl) ?_
      refine OW.val rfl rfl (by first | exact EX.lssN rfl rfl | exact EX.lssZ rfl rfl) ?_
      refine OW.nil ?_
      refine KW.condD rfl (fun hlt => ?_) (fun hlt => ?_)
      · have hlt2 : i < l2.length := by omega
        obtain ⟨b1, o1, rfl, _, hc1⟩ := (h1.ext hx).flat (c := 2) (fun _ => rfl) (by decide) hlt
        obtain ⟨b2, o2, rfl, _, hc2⟩ := (h2.ext hx).flat (c := 2) (fun _ => rfl) (by decide) hlt2
        refine KW.skip (KW.seq (KW.block (KW.seq ?_)))
        refine KW.regionQ (by kernel_rfl) (by kernel_rfl) ?_
        refine QW.val rfl rfl (fun _ => EX.move rfl) ?_
        refine QW.val rfl rfl (fun _ => EX.move rfl) ?_
        refine QW.val rfl rfl (fun _ => EX.indexAddrS Tryz.underlying31 ti23 rfl rfl (by omega)) ?_
        refine QW.val rfl rfl (fun _ => EX.loadA (w := wr.drewN _) (l := (l1[i]).cells) Tryz.underlying23 rfl ti23 rfl rfl hc1) ?_
        refine QW.val rfl rfl (fun _ => EX.move rfl) ?_
        refine QW.val rfl rfl (fun _ => EX.move rfl) ?_
        refine QW.val rfl rfl (fun _ => EX.indexAddrS Tryz.underlying31 ti23 rfl rfl (by omega)) ?_
        refine QW.val rfl rfl (fun _ => EX.loadA (w := wr.drewN _) (l := (l2[i]).cells) Tryz.underlying23 rfl ti23 rfl rfl hc2) ?_
        refine QW.val rfl rfl (fun _ => EX.neqG Tryz.underlying23 (by kernel_rfl) (by kernel_rfl) rfl rfl (.cons (by decide) Tryz.underlying9 rfl rfl rfl (eq_str Tryz.underlying9) (.cons (by decide) Tryz.underlying9 rfl rfl rfl (eq_str Tryz.underlying9) .nil)) rfl) ?_
        refine QW.nil (fun nq => ?_)
        refine KW.as 25 (.bool (decide (l1[i] ≠ l2[i]))) rfl (congrArg Value.bool (en_ne _ _)) ?_
        refine KW.condD rfl (fun hne => ?_) (fun hne => ?_)
        · refine KW.seq (KW.region ?_)
          refine OW.val rfl rfl (EX.assign rfl) ?_
          refine OW.nil ?_
          refine KW.ret (ret1 rfl rfl ?_)
          refine ⟨congrArg Value.bool (decide_eq_false (fun e => hne ?_)).symm, hx.trans (Ext.drewN wr nq)⟩
          subst e
          rfl
        · refine KW.skip (KW.leave (KW.region ?_))
          refine OW.val rfl rfl (EX.move rfl) ?_
          refine OW.val rfl rfl (by first | exact EX.addN (b := 1) (m := 9223372036854775807) rfl rfl rfl (by omega) | exact EX.addZ (m := 9223372036854775807) rfl rfl rfl rfl (by omega)) ?_
          refine OW.val rfl rfl (EX.assign rfl) ?_
          refine OW.nil ?_
          refine KW.back2 (i + 1) (wr.drewN nq) ⟨rfl, rfl, rfl, trivial⟩ rfl ?_ (by omega)
          refine ⟨by omega, fun j hj => ?_, hx.trans (Ext.drewN wr nq)⟩
          by_cases e : j = i
          · subst e
            rw [List.getElem?_eq_getElem hlt, List.getElem?_eq_getElem hlt2]
            exact congrArg some (by simpa using hne)
          · exact he j (by omega)
      · obtain rfl : i = l1.length := by omega
        refine KW.exit rfl (KW.seq (KW.region ?_))
        refine OW.val rfl rfl (EX.assign rfl) ?_
        refine OW.nil ?_
        refine KW.ret (ret1 rfl rfl ?_)
        refine ⟨congrArg Value.bool (decide_eq_true ?_).symm, hx⟩
        apply List.ext_getElem?
        intro j
        by_cases hj : j < l1.length
        · exact he j hj
        · rw [List.getElem?_eq_none (by omega), List.getElem?_eq_none (by omega)]
/-- entries among a law's arguments -/
structure EnOk (x : En) : Prop where
  path : x.path.length ≤ 140737488351232
  data : x.data.length ≤ 140737488351232
set_option maxRecDepth 20000 in
theorem light_s (l : List En) (hok : ∀ x ∈ l, EnOk x) (hl : l.length ≤ 140737488355328) (A : Option Addr) (c B : Nat) (w : World) (hs : Sl w B A (ensV l)) :
    Ret Tryz.prog 11 [.slice A l.length c] w fun v w' => v = .bool (decide (hv l ≤ 40000)) ∧ Ext w w' := by
  refine Ret.enter Tryz.func11 rfl Tryz.ntmps11 (by kernel_rfl) rfl ?_
  refine KW.seq (KW.region ?_)
  refine OW.val rfl rfl (EX.assign rfl) ?_
  refine OW.nil ?_
  refine KW.seq (KW.region ?_)
  refine OW.val rfl rfl (EX.assign rfl) ?_
  refine OW.nil ?_
  refine KW.seq (KW.seq (KW.region ?_))
  refine OW.val rfl rfl (EX.assign rfl) ?_
  refine OW.nil ?_
  refine KW.block ?_
  refine KW.loop2 (fun (i : Nat) (wr : World) => i ≤ l.length ∧ hv (l.take i) ≤ 40000 ∧ Ext w wr) (fun (i : Nat) (wr : World) => [(0, .slice A l.length c), (3, .int .i64 (((hv (l.take i)) : Nat) : Int)), (4, .int .i64 ((i : Nat) : Int))]) (fun (i : Nat) (wr : World) => wr) (fun (i : Nat) (wr : World) => l.length - i) (0) (w) ⟨rfl, rfl, rfl, trivial⟩ rfl ?_ ?_
  · exact ⟨Nat.zero_le _, by simp [hv], Ext.refl _⟩
  · rintro i wr ⟨hi, hn, hx⟩
    refine KW.seq (KW.seq (KW.region ?_))
    refine OW.val rfl rfl (EX.move rfl) ?_
    refine OW.val rfl rfl (EX.move rfl) ?_
    refine OW.val rfl rfl (EX.lenA Tryz.underlying31 rfl) ?_
    refine OW.val rfl rfl (by first | exact EX.lssN rfl rfl | exact EX.lssZ rfl rfl) ?_
    refine OW.nil ?_
    refine KW.condD rfl (fun hlt => ?_) (fun hlt => ?_)
    · obtain ⟨b, o, rfl, _, hcell⟩ := (hs.ext hx).flat (c := 2) (fun _ => rfl) (by decide) hlt
      have hsn : l.take (i + 1) = l.take i ++ [l[i]] := (List.take_append_getElem hlt).symm
      have hxk := hok l[i] (List.getElem_mem hlt)
      have q1 := hxk.path
      have q2 := hxk.data
      have hvs : hv (l.take (i + 1)) = hv (l.take i) + ((l[i]).path.length + (l[i]).data.length + 1000) := by rw [hsn, hv_append]; simp [hv]
      have hvt := hv_take l (i + 1)
      refine KW.skip (KW.seq (KW.block (KW.seq ?_)))
      refine KW.regionQ (by kernel_rfl) (by kernel_rfl) ?_
      refine QW.val rfl rfl (fun _ => EX.move rfl) ?_
      refine QW.val rfl rfl (fun _ => EX.move rfl) ?_
      refine QW.val rfl rfl (fun _ => EX.move rfl) ?_
      refine QW.val rfl rfl (fun _ => EX.indexAddrS Tryz.underlying31 ti23 rfl rfl (by omega)) ?_
      refine QW.val rfl rfl (fun _ => EX.fieldAddr (off := 0) Tryz.underlying23 rfl rfl ti9 rfl rfl) ?_
      refine QW.val rfl rfl (fun _ => EX.load Tryz.underlying9 rfl rfl (hcell 0 _ rfl)) ?_
      refine QW.val rfl rfl (fun _ => EX.lenS Tryz.underlying9 rfl) ?_
      refine QW.val rfl rfl (fun _ => EX.move rfl) ?_
      refine QW.val rfl rfl (fun _ => EX.move rfl) ?_
      refine QW.val rfl rfl (fun _ => EX.indexAddrS Tryz.underlying31 ti23 rfl rfl (by omega)) ?_
      refine QW.val rfl rfl (fun _ => EX.fieldAddr (off := 1) Tryz.underlying23 rfl rfl ti9 rfl rfl) ?_
      refine QW.val rfl rfl (fun _ => EX.load Tryz.underlying9 rfl rfl (hcell 1 _ rfl)) ?_
      refine QW.val rfl rfl (fun _ => EX.lenS Tryz.underlying9 rfl) ?_
      refine QW.val rfl rfl (fun _ => by first | exact EX.addN (m := 9223372036854775807) rfl rfl rfl (by omega) | exact EX.addZ (m := 9223372036854775807) rfl rfl rfl rfl (by omega)) ?_
      refine QW.val rfl rfl (fun _ => by first | exact EX.addN (b := 1000) (m := 9223372036854775807) rfl rfl rfl (by omega) | exact EX.addZ (m := 9223372036854775807) rfl rfl rfl rfl (by omega)) ?_
      refine QW.val rfl rfl (fun _ => by first | exact EX.addN (m := 9223372036854775807) rfl rfl rfl (by omega) | exact EX.addZ (m := 9223372036854775807) rfl rfl rfl rfl (by omega)) ?_
      refine QW.val rfl rfl (fun _ => EX.assign rfl) ?_
      refine QW.nil (fun nq => ?_)
      refine KW.seq (KW.region ?_)
      refine OW.val rfl rfl (EX.move rfl) ?_
      refine OW.val rfl rfl (by first | exact EX.gtrN (b := 40000) rfl rfl | exact EX.gtrZ rfl rfl) ?_
      refine OW.nil ?_
      have hx1 : Ext w (wr.drewN nq) := hx.trans (Ext.drewN wr nq)
      generalize wr.drewN nq = wq at hx1
      refine KW.as 3 (.int .i64 (((hv (l.take (i + 1))) : Nat) : Int)) rfl (congrArg (Value.int .i64) (by rw [hvs])) ?_
      refine KW.condD rfl (fun hbig => ?_) (fun hbig => ?_)
      · refine KW.seq (KW.region ?_)
        refine OW.val rfl rfl (EX.assign rfl) ?_
        refine OW.nil ?_
        refine KW.ret (ret1 rfl rfl ?_)
        exact ⟨congrArg Value.bool (decide_eq_false (by omega)).symm, hx1⟩
      · refine KW.skip (KW.leave (KW.region ?_))
        refine OW.val rfl rfl (EX.move rfl) ?_
        refine OW.val rfl rfl (by first | exact EX.addN (b := 1) (m := 9223372036854775807) rfl rfl rfl (by omega) | exact EX.addZ (m := 9223372036854775807) rfl rfl rfl rfl (by omega)) ?_
        refine OW.val rfl rfl (EX.assign rfl) ?_
        refine OW.nil ?_
        refine KW.back2 (i + 1) (wq) ⟨rfl, rfl, rfl, trivial⟩ rfl ?_ (by omega)
        exact ⟨by omega, by omega, hx1⟩
    · obtain rfl : i = l.length := by omega
      rw [List.take_length] at hn
      refine KW.exit rfl (KW.seq (KW.region ?_))
      refine OW.val rfl rfl (EX.assign rfl) ?_
      refine OW.nil ?_
      refine KW.ret (ret1 rfl rfl ?_)
      exact ⟨congrArg Value.bool (decide_eq_true hn).symm, hx⟩
def awx : En := ⟨[97], [104, 101, 108, 108, 111]⟩
theorem awx_ok : checkP awx.path = 0 ∧ awx.data.length ≤ 262144 := ⟨by decide +kernel, by decide⟩
theorem awx_okL : okL [awx] := fun x hx => by
  simp only [List.mem_singleton] at hx
  subst hx
  exact awx_ok
theorem awx_split : (splitP awx.path).2.2 = true := short_split (by decide)
theorem awx_len : (entT awx).length = 1024 := by
  unfold entT
  rw [if_pos awx_split, sect_len (good_one awx_ok.1 awx_ok.2 awx_split)]
  rfl
theorem awx_entE : entE awx = (entT awx, 0) := by
  unfold entE
  rw [if_neg (by rw [awx_ok.1]; decide), if_neg (by decide)]
theorem awx_pack : packT [awx] = (catT [awx] ++ nul 1024, 0) := by
  unfold packT
  rw [if_neg (by rw [errT_ok awx_okL]; decide)]
theorem awx_cat : (catT [awx]).length = 1024 := by
  have : catT [awx] = entT awx := by simp [catT]
  rw [this, awx_len]
theorem awx_unpack : unpackT (catT [awx] ++ nul 1024) = ([awx], 0) := by
  have h := unpack_back awx_okL (n := 1024) (by decide) [] (by rw [List.length_append, awx_cat, List.append_nil, nul_len]; decide)
  rwa [List.append_nil] at h
theorem unpack_nil : unpackT [] = ([], 180) := by
  unfold unpackT
  rw [if_neg (by decide)]
  exact unp_fail (.inl ⟨head_short (by decide), by decide⟩)
set_option maxRecDepth 20000 in
theorem awake18_s (w : World) (hG : Env w) : Ret Tryz.prog 8 [] w fun v w' => v = .bool true ∧ Ext w w' := by
  refine Ret.enter Tryz.func8 rfl Tryz.ntmps8 (by kernel_rfl) rfl ?_
  refine KW.seq (KW.region ?_)
  refine OW.val rfl rfl (EX.assign rfl) ?_
  refine OW.nil ?_
  refine KW.seq (KW.region ?_)
  refine OW.val rfl rfl (EX.buildS (pl := [(0, 1), (1, 1)]) (ks := [0, 1]) (is := [0, 1]) (zs := [str [], str []]) Tryz.underlying23 ti23 (by kernel_rfl) rfl rfl rfl (by first | rfl | (simp only [List.all_cons, List.all_nil, Bool.and_true, Bool.true_and, Bool.and_eq_true, Value.oneCell']; repeat (first | assumption | exact Own.one (by assumption) | constructor))) (by simp only [setAll, List.set_cons_zero, List.set_cons_succ]; rfl)) ?_
  have c1 := entry_s awx (by decide) (by decide) w hG
  rw [awx_entE] at c1
  refine OW.call rfl rfl rfl (c1) ?_
  rintro _ w1 ⟨rfl, hx1⟩
  refine OW.val rfl rfl (EX.move rfl) ?_
  refine OW.val rfl rfl (EX.extract rfl rfl) ?_
  refine OW.val rfl rfl (EX.extract rfl rfl) ?_
  refine OW.val rfl rfl (EX.assign rfl) ?_
  refine OW.val rfl rfl (EX.assign rfl) ?_
  refine OW.nil ?_
  refine KW.seq (KW.region ?_)
  refine OW.val rfl rfl (EX.buildS (pl := [(0, 1), (1, 1)]) (ks := [0, 1]) (is := [0, 1]) (zs := [str [], str []]) Tryz.underlying23 ti23 (by kernel_rfl) rfl rfl rfl (by first | rfl | (simp only [List.all_cons, List.all_nil, Bool.and_true, Bool.true_and, Bool.and_eq_true, Value.oneCell']; repeat (first | assumption | exact Own.one (by assumption) | constructor))) (by simp only [setAll, List.set_cons_zero, List.set_cons_succ]; rfl)) ?_
  refine OW.buildG 1 ([awx.cells]) rfl rfl Tryz.underlying31 ti23 rfl (by decide) rfl rfl rfl (by repeat' (first | exact List.forall_mem_nil _ | refine List.forall_mem_cons.2 ⟨by first | rfl | assumption, ?_⟩)) (by decide) ?_
  rintro sb w2 hge2 hb2 hx2
  replace hb2 : Bk w2 sb 23 (ensV [awx]) := hb2
  have x2 := hx1.trans hx2
  have c2 := pack_s [awx] (by decide) (some ⟨sb, 0, none⟩) 1 _ w2 (hG.ext x2) (Sl.of_bk hb2 hb2.lt)
  rw [awx_pack] at c2
  refine OW.call rfl rfl rfl (c2) ?_
  rintro _ w3 ⟨rfl, hx3⟩
  refine OW.val rfl rfl (EX.move rfl) ?_
  refine OW.val rfl rfl (EX.extract rfl rfl) ?_
  refine OW.val rfl rfl (EX.extract rfl rfl) ?_
  refine OW.val rfl rfl (EX.assign rfl) ?_
  refine OW.val rfl rfl (EX.assign rfl) ?_
  refine OW.nil ?_
  refine KW.seq (KW.region ?_)
  refine OW.val rfl rfl (EX.move rfl) ?_
  have x3 := x2.trans hx3
  have hl2 : (catT [awx] ++ nul 1024).length = 2048 := by rw [List.length_append, awx_cat, nul_len]
  have c3 := unpack_s (catT [awx] ++ nul 1024) (by omega) w3 (hG.ext x3)
  rw [awx_unpack] at c3
  have hl1 := awx_len
  generalize entT awx = t1 at hl1
  generalize catT [awx] ++ nul 1024 = t2 at hl2 c3
  refine OW.call rfl rfl rfl (c3) ?_
  rintro _ w4 ⟨u, rfl, hown, hx4⟩
  refine OW.val rfl rfl (EX.move rfl) ?_
  refine OW.val rfl rfl (EX.extract rfl rfl) ?_
  refine OW.val rfl rfl (EX.extract rfl rfl) ?_
  refine OW.val rfl rfl (EX.assign rfl) ?_
  refine OW.val rfl rfl (EX.assign rfl) ?_
  refine OW.nil ?_
  refine KW.seq (KW.region ?_)
  have x4 := x3.trans hx4
  have c4 := unpack_s [] (by decide) w4 (hG.ext x4)
  rw [unpack_nil] at c4
  refine OW.call rfl rfl rfl (c4) ?_
  rintro _ w5 ⟨u2, rfl, hown2, hx5⟩
  refine OW.val rfl rfl (EX.move rfl) ?_
  refine OW.val rfl rfl (EX.extract rfl rfl) ?_
  refine OW.val rfl rfl (EX.extract rfl rfl) ?_
  refine OW.val rfl rfl (EX.assign rfl) ?_
  refine OW.val rfl rfl (EX.assign rfl) ?_
  refine OW.nil ?_
  refine KW.seq ?_
  have x5 := x4.trans hx5
  obtain ⟨A, c, eu, _, hsl⟩ := (hown.ext hx5).slice
  obtain rfl : u = .slice A 1 c := eu
  obtain ⟨b, o, rfl, _, hcell⟩ := hsl.flat (l := [awx]) (i := 0) (c := 2) (fun _ => rfl) (by decide) (by decide)
  refine KW.region ?_
  refine OW.val rfl rfl (EX.move rfl) ?_
  refine OW.val rfl rfl (EX.lenS Tryz.underlying9 rfl) ?_
  refine OW.val rfl rfl (by first | exact EX.eqlN (b := 1024) rfl rfl | exact EX.eqlZ rfl rfl) ?_
  refine OW.val rfl rfl (EX.move rfl) ?_
  refine OW.as 32 (.bool true) rfl (congrArg Value.bool (decide_eq_true (hl1))) ?_
  refine OW.val rfl rfl (EX.move rfl) ?_
  refine OW.val rfl rfl (by first | exact EX.eqlN (b := 0) rfl rfl | exact EX.eqlZ rfl rfl) ?_
  refine OW.val rfl rfl (EX.pickT rfl rfl) ?_
  refine OW.val rfl rfl (EX.move rfl) ?_
  refine OW.as 36 (.bool true) rfl (congrArg Value.bool (decide_eq_true (rfl))) ?_
  refine OW.val rfl rfl (EX.move rfl) ?_
  refine OW.val rfl rfl (EX.lenS Tryz.underlying9 rfl) ?_
  refine OW.val rfl rfl (by first | exact EX.eqlN (b := 2048) rfl rfl | exact EX.eqlZ rfl rfl) ?_
  refine OW.val rfl rfl (EX.pickT rfl rfl) ?_
  refine OW.val rfl rfl (EX.move rfl) ?_
  refine OW.as 41 (.bool true) rfl (congrArg Value.bool (decide_eq_true (hl2))) ?_
  refine OW.val rfl rfl (EX.move rfl) ?_
  refine OW.val rfl rfl (by first | exact EX.eqlN (b := 0) rfl rfl | exact EX.eqlZ rfl rfl) ?_
  refine OW.val rfl rfl (EX.pickT rfl rfl) ?_
  refine OW.val rfl rfl (EX.move rfl) ?_
  refine OW.as 45 (.bool true) rfl (congrArg Value.bool (decide_eq_true (rfl))) ?_
  refine OW.val rfl rfl (EX.move rfl) ?_
  refine OW.val rfl rfl (EX.lenA Tryz.underlying31 rfl) ?_
  refine OW.val rfl rfl (by first | exact EX.eqlN (b := 1) rfl rfl | exact EX.eqlZ rfl rfl) ?_
  refine OW.val rfl rfl (EX.pickT rfl rfl) ?_
  refine OW.val rfl rfl (EX.move rfl) ?_
  refine OW.as 50 (.bool true) rfl (congrArg Value.bool (decide_eq_true (rfl))) ?_
  refine OW.val rfl rfl (EX.move rfl) ?_
  refine OW.val rfl rfl (EX.indexAddrS (i := 0) Tryz.underlying31 ti23 rfl rfl (by omega)) ?_
  refine OW.val rfl rfl (EX.loadA (l := awx.cells) Tryz.underlying23 rfl ti23 rfl rfl hcell) ?_
  refine OW.val rfl rfl (EX.buildS (pl := [(0, 1), (1, 1)]) (ks := [0, 1]) (is := [0, 1]) (zs := [str [], str []]) Tryz.underlying23 ti23 (by kernel_rfl) rfl rfl rfl (by first | rfl | (simp only [List.all_cons, List.all_nil, Bool.and_true, Bool.true_and, Bool.and_eq_true, Value.oneCell']; repeat (first | assumption | exact Own.one (by assumption) | constructor))) (by simp only [setAll, List.set_cons_zero, List.set_cons_succ]; rfl)) ?_
  refine OW.val rfl rfl (EX.eqlG Tryz.underlying23 (by kernel_rfl) (by kernel_rfl) rfl rfl (.cons (by decide) Tryz.underlying9 rfl rfl rfl (eq_str Tryz.underlying9) (.cons (by decide) Tryz.underlying9 rfl rfl rfl (eq_str Tryz.underlying9) .nil)) rfl) ?_
  refine OW.val rfl rfl (EX.pickT rfl rfl) ?_
  refine OW.val rfl rfl (EX.move rfl) ?_
  refine OW.as 57 (.bool true) rfl (congrArg Value.bool (by simp [awx])) ?_
  refine OW.val rfl rfl (EX.move rfl) ?_
  refine OW.val rfl rfl (by first | exact EX.eqlN (b := 0) rfl rfl | exact EX.eqlZ rfl rfl) ?_
  refine OW.val rfl rfl (EX.pickT rfl rfl) ?_
  refine OW.val rfl rfl (EX.move rfl) ?_
  refine OW.as 61 (.bool true) rfl (congrArg Value.bool (decide_eq_true (rfl))) ?_
  refine OW.val rfl rfl (EX.move rfl) ?_
  refine OW.val rfl rfl (by first | exact EX.eqlN (b := 180) rfl rfl | exact EX.eqlZ rfl rfl) ?_
  refine OW.val rfl rfl (EX.pickT rfl rfl) ?_
  refine OW.val rfl rfl (EX.assign rfl) ?_
  refine OW.nil ?_
  refine KW.as 0 (.bool true) rfl (congrArg Value.bool (decide_eq_true (rfl))) ?_
  refine KW.ret (ret1 rfl rfl ?_)
  exact ⟨rfl, x5⟩
end Go.Proofs.YtjgeoeeikfjmdaaGreatDoor
/- From a walk to a law's row: the call returned true, and all that was there is as it was. No program is spoken of. -/
namespace Go.Proofs.YtjgeoeeikfjmdaaGreatDoor
set_option linter.unnecessarySimpa false
set_option linter.unusedVariables false
set_option linter.unusedSimpArgs false
open Go.ChangeShapes Go.WideShapes Go.ChangeAt Go.RowKit
section
variable {H : Type} {enc : TypeId × Value → H} {P : Program}
theorem trodAll_stays (hl : laidOutB P = true) {W W' : World} (hx : Ext W W') : ∀ {ts : List TypeId} {vs : List Value} {ds : List (DataW H)} {ps : List MemPlace},
    (∀ t ∈ ts, P.readableRec t = true ∧ t < P.types.size) → DataW.TrodAll enc P W 0 (fun _ => true) true ts vs ds ps → (∀ p ∈ ps, p.block < W.heap.size) →
    DataW.TrodAll enc P W' 0 (fun b => decide (b < W.heap.size)) true ts vs ds ps
  | [], vs, ds, ps, _, h, _ => by
    obtain ⟨rfl, rfl, rfl⟩ := trodAll_nil h
    exact trodAll_mk0
  | t :: ts, vs, ds, ps, hr, h, hlt => by
    obtain ⟨v, vs', d, ds', p, q, rfl, rfl, rfl, h1, h2⟩ := trodAll_cons h
    refine trodAll_cons_mk (WideElems.Trod_stays hl (hr t (by simp)).1 (hr t (by simp)).2 h1 (fun x hx' => hx.same (hlt x (by simp [hx']))) (fun x hx' => by simpa using hlt x (by simp [hx']))) ?_
    exact trodAll_stays hl hx (fun u hu => hr u (by simp [hu])) h2 (fun x hx' => hlt x (by simp [hx']))
theorem law_post {f : Func} {s : ChangeSpec} {W W' : World} {args : Array Value} {ds gs : List (DataW H)} {before : List MemPlace} {T : TypeId}
    (hW : DataW.Whole enc P f.params.toList s.vars false W args.toList ds gs before) (hv : s.vars = []) (hspec : s.fn H (ds ++ gs) = { results := [.lit (.bool true)], args := ds }) (hrt : f.resultTypes = #[T]) (hu : P.underlying T = some .bool)
    (hl : laidOutB P = true) (hr : ∀ t ∈ f.params.toList, P.readableRec t = true ∧ t < P.types.size) (hx : Ext W W') : s.post enc P f false true false false W args (.bool true) W' := by
  have hlt : ∀ p ∈ before, p.block < W.heap.size := fun p hp => hW.lt p hp
  have hW0 := hW
  obtain ⟨p, q, hA, hV, rfl, _, _⟩ := hW
  rw [hv] at hV
  refine ⟨ds, gs, _, [], p, [], hW0, ?_, ?_, ?_, hx.frame _, fun h => by cases h⟩
  · rw [hspec, hrt]
    exact trodAll_cons_mk (p := []) (p' := []) (shut_bool hu _) trodAll_mk0
  · rw [hspec]
    exact trodAll_stays hl hx hr hA (fun x hx' => hlt x (by simp [hx']))
  · rw [hspec, hv]
    exact rfl
end
end Go.Proofs.YtjgeoeeikfjmdaaGreatDoor
/- A law's arguments, as the walks take them. No program is spoken of. -/
namespace Go.Proofs.YtjgeoeeikfjmdaaGreatDoor
set_option linter.unnecessarySimpa false
open Go.ChangeShapes Go.WideShapes Go.ChangeAt Go.RowKit
set_option linter.unusedSimpArgs false
set_option linter.unusedVariables false
/-- a listed variable's cells, as its initialiser lays them -/
def layCells (cs : List Value) : Obj → Obj
  | .cells _ t frozen => .cells cs.toArray t frozen
  | o => o
section
variable {H : Type} {enc : TypeId × Value → H} {P : Program} {W : World} {base : Nat} {t e : TypeId} {v : Value} {d : DataW H} {p : List MemPlace} {r : Reach} {b0 : Nat}
theorem wf_nat {k : IntKind} {n : Int} (hs : k.signed = false) (h : (Lit.int k n).wf = true) : ∃ m : Nat, n = m ∧ m ≤ maxN k := by
  cases k <;> simp [IntKind.signed] at hs <;> (simp [Lit.wf, IntKind.min, IntKind.max, IntKind.signed, IntKind.bits] at h; exact ⟨n.toNat, by omega, by simp [maxN]; omega⟩)
theorem wf_int {n : Int} (h : (Lit.int .i64 n).wf = true) : -9223372036854775808 ≤ n ∧ n ≤ 9223372036854775807 := by
  simp [Lit.wf, IntKind.min, IntKind.max, IntKind.signed, IntKind.bits] at h
  omega
theorem open_nat {k : IntKind} (ht : P.underlying t = some (.int k)) (hs : k.signed = false) (hval : Value.okWide P W r b0 t v) (hd : DataW.Trod enc P W base (fun _ => true) true t v d p) : ∃ m : Nat, v = .int k (m : Int) ∧ m ≤ maxN k := by
  obtain ⟨n, rfl, _, _, hw⟩ := open_int ht hval hd
  obtain ⟨m, rfl, hm⟩ := wf_nat hs hw
  exact ⟨m, rfl, hm⟩
theorem open_i64 (ht : P.underlying t = some (.int .i64)) (hval : Value.okWide P W r b0 t v) (hd : DataW.Trod enc P W base (fun _ => true) true t v d p) : ∃ n : Int, v = .int .i64 n ∧ -9223372036854775808 ≤ n ∧ n ≤ 9223372036854775807 := by
  obtain ⟨n, rfl, _, _, hw⟩ := open_int ht hval hd
  exact ⟨n, rfl, wf_int hw⟩
theorem open_str (ht : P.underlying t = some .string) (hval : Value.okWide P W r b0 t v) (hd : DataW.Trod enc P W base (fun _ => true) true t v d p) : ∃ s : List UInt8, v = str s ∧ d = .lit (.string s) := by
  obtain ⟨s, rfl, rfl, _, hs⟩ := ChangeMaps.open_string ht hval hd
  exact ⟨s.data.toList, rfl, rfl⟩
theorem reach_str {ts : List TypeId} {ds : List (DataW H)} (h : (DataW.weightsEach P ts ds).all (· ≤ reachBytes) = true) {j : Nat} {s : List UInt8} (ht : ts[j]? = some t) (hd : ds[j]? = some (.lit (.string s))) : s.length ≤ 140737488351232 :=
  Nat.le_trans (sized_string h ht hd) (by decide)
/-- a slice's cells, wherever they start -/
theorem sl_of_cells {a : Addr} {xs : List Value} (h : ∀ j u, xs[j]? = some u → W.cell? (a.add j) = some u) : Sl W W.heap.size (some a) xs := by
  by_cases hx : xs = []
  · exact .inl hx
  · have h0 : 0 < xs.length := List.length_pos_iff.2 hx
    have hc := h 0 xs[0] (List.getElem?_eq_getElem h0)
    have ha : a.add 0 = a := by unfold Addr.add; simp
    rw [ha] at hc
    obtain ⟨b, o, sp⟩ := a
    have hsp : sp = none := by
      unfold World.cell? at hc
      split at hc
      · cases sp with
        | none => rfl
        | some _ => simp at hc
      · simp at hc
    subst hsp
    refine .inr ⟨b, o, rfl, World.block_lt_of_cell? W _ hc, fun j u hu => ?_⟩
    have := h j u hu
    have hadd : (⟨b, o, none⟩ : Addr).add j = ⟨b, o + j, none⟩ := by unfold Addr.add; split <;> simp_all
    rwa [hadd] at this
theorem nats_of {k : IntKind} (hs : k.signed = false) : ∀ (zs : List Int), (∀ n ∈ zs, (Lit.int k n).wf = true) → ∃ ms : List Nat, zs = ms.map (fun (m : Nat) => (m : Int)) ∧ ∀ m ∈ ms, m ≤ maxN k
  | [], _ => ⟨[], rfl, by simp⟩
  | z :: zs, h => by
    obtain ⟨m, rfl, hm⟩ := wf_nat hs (h z (by simp))
    obtain ⟨ms, rfl, hms⟩ := nats_of hs zs (fun n hn => h n (by simp [hn]))
    exact ⟨m :: ms, rfl, by simpa using ⟨hm, hms⟩⟩
/-- a slice of unsigned numbers -/
theorem open_slN {k : IntKind} (ht : P.underlying t = some (.slice e)) (he : P.underlying e = some (.int k)) (hs : k.signed = false) (hc : P.cellsOf e = 1) (hval : Value.okWide P W r b0 t v) (hd : DataW.Trod enc P W base (fun _ => true) true t v d p) :
    ∃ (l : List Nat) (A : Option Addr) (c : Nat), v = .slice A l.length c ∧ (∀ x ∈ l, x ≤ maxN k) ∧ l.length ≤ 9223372036854775807 ∧ Sl W W.heap.size A (ints k l) := by
  obtain ⟨A, len, cap, rfl⟩ := okWide_slice ht hval
  obtain ⟨fuel, hf⟩ := hd
  rcases open_ints ht he hc hf with ⟨hcs, _⟩ | ⟨a, len', cap', zs, hcs, _, hl, hm, hz, _, hcell, hwz⟩
  · simp [Value.cells] at hcs
    obtain ⟨rfl, rfl, rfl⟩ := hcs
    exact ⟨[], none, 0, rfl, by simp, by simp, .inl rfl⟩
  · simp [Value.cells] at hcs
    obtain ⟨rfl, rfl, rfl⟩ := hcs
    simp only [if_true] at hz
    obtain ⟨ms, hms, hle⟩ := nats_of hs zs hwz
    have hmz : ms.length = zs.length := by rw [hms]; simp
    refine ⟨ms.take len, some a, cap, ?_, fun x hx => hle x (List.mem_of_mem_take hx), ?_, sl_of_cells fun j u hu => ?_⟩
    · rw [List.length_take, Nat.min_eq_left (by omega)]
    · rw [List.length_take]; simp only [maxLen] at hm; omega
    · have hjl : j < (ints k (ms.take len)).length := (List.getElem?_eq_some_iff.1 hu).1
      rw [ints_length, List.length_take] at hjl
      have hj : j < ms.length := by omega
      rw [hcell j (by omega), ← hu, hms]
      simp [ints, List.getElem?_take, show j < len by omega, hj, List.getD]
def strsV (l : List (List UInt8)) : List Value := l.map fun s => str s
theorem strsV_get {l : List (List UInt8)} {i : Nat} (h : i < l.length) : (strsV l)[i]? = some (str l[i]) := by simp [strsV, h]
theorem strsV_length (l : List (List UInt8)) : (strsV l).length = l.length := by simp [strsV]
theorem strsV_append (l m : List (List UInt8)) : strsV (l ++ m) = strsV l ++ strsV m := by simp [strsV]
theorem strsV_one {l : List (List UInt8)} : ∀ u ∈ strsV l, u.oneCell' = true := by
  intro u hu
  obtain ⟨_, _, rfl⟩ := List.mem_map.1 hu
  rfl
theorem weightsAll_mem : ∀ {l : List (DataW H)} {x : DataW H}, x ∈ l → ∀ n ∈ x.weights P e, n ∈ DataW.weightsAll P e l
  | y :: l, x, hx, n, hn => by
    simp only [DataW.weightsAll, List.mem_append]
    rcases List.mem_cons.1 hx with rfl | hx
    · exact .inl hn
    · exact .inr (weightsAll_mem hx n hn)
  | [], _, hx, _, _ => by simp at hx
/-- a slice of texts -/
theorem open_slS (ht : P.underlying t = some (.slice e)) (he : P.underlying e = some .string) (hc : P.cellsOf e = 1) (hval : Value.okWide P W r b0 t v) (hd : DataW.Trod enc P W base (fun _ => true) true t v d p)
    {ts : List TypeId} {ds : List (DataW H)} (hsz : (DataW.weightsEach P ts ds).all (· ≤ reachBytes) = true) {j : Nat} (hj : ts[j]? = some t) (hdj : ds[j]? = some d) :
    ∃ (l : List (List UInt8)) (A : Option Addr) (c : Nat), v = .slice A l.length c ∧ (∀ s ∈ l, s.length ≤ 140737488351232) ∧ l.length ≤ 9223372036854775807 ∧ Sl W W.heap.size A (strsV l) := by
  obtain ⟨A, len, cap, rfl⟩ := okWide_slice ht hval
  obtain ⟨fuel, hf⟩ := hd
  rcases open_strings ht he hc hf with ⟨hcs, _⟩ | ⟨a, len', cap', ss, hcs, _, hl, hm, hz, hx, hcell, hws⟩
  · simp [Value.cells] at hcs
    obtain ⟨rfl, rfl, rfl⟩ := hcs
    exact ⟨[], none, 0, rfl, by simp, by simp, .inl rfl⟩
  · simp [Value.cells] at hcs
    obtain ⟨rfl, rfl, rfl⟩ := hcs
    simp only [if_true] at hz
    simp only [Prod.mk.injEq] at hx
    obtain ⟨rfl, rfl⟩ := hx
    have hlen : (ss.take len).length = len := by rw [List.length_take]; omega
    refine ⟨(ss.take len).map fun s => s.data.toList, some a, cap, by simp [hlen]; omega, ?_, ?_, sl_of_cells fun i u hu => ?_⟩
    · intro s hs
      obtain ⟨s', hs', rfl⟩ := List.mem_map.1 hs
      have hmem : (DataW.lit (.string s'.data.toList) : DataW H) ∈ strs (ss.take len) := List.mem_map.2 ⟨s', hs', rfl⟩
      have h1 : s'.data.toList.length ∈ (DataW.slice (strs (ss.take len)) (strs (ss.drop len)) : DataW H).weights P t := by
        simp only [DataW.weights, ht, List.mem_cons, List.mem_append]
        exact .inr (.inl (weightsAll_mem hmem _ (by simp [DataW.weights])))
      have := List.all_eq_true.1 hsz _ (DataW.weights_mem_each hj hdj _ h1)
      simp only [decide_eq_true_eq] at this
      exact Nat.le_trans this (by decide)
    · rw [List.length_map, hlen]; simp only [maxLen] at hm; omega
    · have hjl : i < (strsV ((ss.take len).map fun s => s.data.toList)).length := (List.getElem?_eq_some_iff.1 hu).1
      rw [strsV_length, List.length_map, hlen] at hjl
      rw [hcell i (by omega), ← hu]
      simp [strsV, List.getElem?_take, hjl, show i < ss.length by omega, List.getD]
end
end Go.Proofs.YtjgeoeeikfjmdaaGreatDoor
/- A law's arguments that are slices of structs or of bools, as the walks take them. No program is spoken of. -/
namespace Go.Proofs.YtjgeoeeikfjmdaaGreatDoor
set_option linter.unnecessarySimpa false
open Go.ChangeShapes Go.WideShapes Go.ChangeAt Go.RowKit Go.Deep
set_option linter.unusedSimpArgs false
set_option linter.unusedVariables false
theorem flatMap_at {α : Type} {cells : α → List Value} {c : Nat} (hc : ∀ a, (cells a).length = c) : ∀ (l : List α) (j : Nat) (u : Value), (l.flatMap cells)[j]? = some u → ∃ i r, ∃ hi : i < l.length, r < c ∧ j = i * c + r ∧ (cells l[i])[r]? = some u
  | [], j, u, h => by simp at h
  | a :: l, j, u, h => by
    rw [List.flatMap_cons] at h
    by_cases hj : j < c
    · rw [List.getElem?_append_left (by rw [hc]; exact hj)] at h
      exact ⟨0, j, by simp, hj, by omega, h⟩
    · rw [List.getElem?_append_right (by rw [hc]; omega), hc] at h
      obtain ⟨i, r, hi, hr, he, hu⟩ := flatMap_at hc l _ u h
      exact ⟨i + 1, r, by simpa using hi, hr, by rw [Nat.succ_mul]; omega, by simpa using hu⟩
section
variable {H : Type} {enc : TypeId × Value → H} {P : Program} {W : World} {base : Nat} {t e : TypeId} {v : Value} {d : DataW H} {p : List MemPlace} {r : Reach} {b0 : Nat}
/-- a slice whose elements are some cells each -/
theorem open_slG {α : Type} [Inhabited α] (cells : α → List Value) (ok : α → Prop) {c : Nat} (hcl : ∀ a, (cells a).length = c) (ht : P.underlying t = some (.slice e)) (hc : P.cellsOf e = c)
    (step : ∀ n cs x, DataW.trod enc P W base (fun _ => true) true n e cs = some x → (∀ m ∈ x.1.weights P e, m ≤ reachBytes) → (∃ es sp, d = .slice es sp ∧ x.1 ∈ es) → ∃ a, cs = cells a ∧ ok a)
    (hval : Value.okWide P W r b0 t v) (hd : DataW.Trod enc P W base (fun _ => true) true t v d p)
    {ts : List TypeId} {ds : List (DataW H)} (hsz : (DataW.weightsEach P ts ds).all (· ≤ reachBytes) = true) {j : Nat} (hj : ts[j]? = some t) (hdj : ds[j]? = some d) :
    ∃ (l : List α) (A : Option Addr) (cap : Nat), v = .slice A l.length cap ∧ (∀ a ∈ l, ok a) ∧ (A = none → l = []) ∧ l.length * P.bytesOf e ≤ reachBytes ∧ l.length ≤ cap ∧ Sl W W.heap.size A (l.flatMap cells) := by
  obtain ⟨A, len, cap, rfl⟩ := okWide_slice ht hval
  obtain ⟨fuel, hf⟩ := hd
  rcases open_slice ht hf with ⟨hcs, _⟩ | ⟨a, len', cap', m, n, D, Pl, hcs, _, hl, hm, hmm, hx, hel⟩
  · simp [Value.cells] at hcs
    obtain ⟨rfl, rfl, rfl⟩ := hcs
    exact ⟨[], none, 0, rfl, by simp, fun _ => rfl, by simp, by simp, .inl rfl⟩
  · simp [Value.cells] at hcs
    obtain ⟨rfl, rfl, rfl⟩ := hcs
    simp only [if_true] at hmm
    subst hmm
    simp only [Prod.mk.injEq] at hx
    obtain ⟨rfl, rfl⟩ := hx
    obtain ⟨B, hB⟩ := choose_lt (α := α) (p := fun i b => W.cells? base (a.add (i * c)) c = some (cells b) ∧ ok b) (n := len) (fun i hi => by
      obtain ⟨cs', h1, h2⟩ := hel i (by omega)
      have hw : ∀ k ∈ (D i).weights P e, k ≤ reachBytes := fun k hk => by
        have hmem : D i ∈ (List.range len).map D := List.mem_map.2 ⟨i, List.mem_range.2 hi, rfl⟩
        have h1 : k ∈ (DataW.slice ((List.range len).map D) ((List.range (m - len)).map fun j => D (len + j)) : DataW H).weights P t := by
          simp only [DataW.weights, ht, List.mem_cons, List.mem_append]
          exact .inr (.inl (weightsAll_mem hmem _ hk))
        have := List.all_eq_true.1 hsz _ (DataW.weights_mem_each hj hdj _ h1)
        simpa using this
      obtain ⟨b, rfl, hb⟩ := step n cs' _ h2 hw ⟨_, _, rfl, List.mem_map.2 ⟨i, List.mem_range.2 hi, rfl⟩⟩
      rw [hc] at h1
      exact ⟨b, h1, hb⟩)
    have hln : ((List.range len).map B).length = len := by simp
    refine ⟨(List.range len).map B, some a, m, by rw [hln], ?_, fun q => (by cases q), ?_, by rw [hln]; exact hl, sl_of_cells fun i u hu => ?_⟩
    · intro b hb
      obtain ⟨i, hi, rfl⟩ := List.mem_map.1 hb
      exact (hB i (List.mem_range.1 hi)).2
    · rw [hln]
      have := sized_slice hsz hj hdj ht
      simp only [List.length_map, List.length_range] at this
      exact Nat.le_trans (Nat.mul_le_mul_right _ (by omega)) this
    · obtain ⟨q, s, hq, hs, rfl, hu'⟩ := flatMap_at hcl _ _ _ hu
      have hq' : q < len := by simpa using hq
      have hg : ((List.range len).map B)[q] = B q := by simp
      rw [hg] at hu'
      rw [← add_add, (World.cells?_some (hB q hq').1).2.2 s hs]
      exact hu'
/-- a slice of bools -/
theorem open_slB (ht : P.underlying t = some (.slice e)) (he : P.underlying e = some .bool) (hc : P.cellsOf e = 1) (hb1 : P.bytesOf e = 1) (hval : Value.okWide P W r b0 t v) (hd : DataW.Trod enc P W base (fun _ => true) true t v d p)
    {ts : List TypeId} {ds : List (DataW H)} (hsz : (DataW.weightsEach P ts ds).all (· ≤ reachBytes) = true) {j : Nat} (hj : ts[j]? = some t) (hdj : ds[j]? = some d) :
    ∃ (l : List Bool) (A : Option Addr) (cap : Nat), v = .slice A l.length cap ∧ (A = none → l = []) ∧ l.length ≤ 140737488351232 ∧ Sl W W.heap.size A (l.map fun b => .bool b) := by
  obtain ⟨l, A, cap, h1, _, h2, h3, _, h4⟩ := open_slG (fun b : Bool => [Value.bool b]) (fun _ => True) (c := 1) (fun _ => rfl) ht hc (fun n cs x hx _ _ => by
    obtain ⟨b, rfl, _⟩ := DataW.trod_bool he hx
    exact ⟨b, rfl, trivial⟩) hval hd hsz hj hdj
  refine ⟨l, A, cap, h1, h2, ?_, ?_⟩
  · rw [hb1, Nat.mul_one] at h3
    exact Nat.le_trans h3 (by decide)
  · have e : ∀ l : List Bool, (l.flatMap fun b => [Value.bool b]) = l.map fun b => .bool b := fun l => by
      induction l with
      | nil => rfl
      | cons b l ih => simp only [List.flatMap_cons, List.map_cons, ih]; rfl
    rwa [e] at h4
/-- two numbers with a sign -/
theorem open_arr2 (ht : P.underlying t = some (.array 2 e)) (he : P.underlying e = some (.int .i64)) (hc : P.cellsOf e = 1) (hC : P.cellsOf t = 2) (hval : Value.okWide P W r b0 t v) (hd : DataW.Trod enc P W base (fun _ => true) true t v d p) :
    ∃ a b : Int, v = .agg [.int .i64 a, .int .i64 b].toArray := by
  obtain ⟨cs, rfl, hs⟩ : ∃ cs, v = .agg cs ∧ cs.size = P.cellsOf t := by
    simp only [Value.okWide, ht] at hval
    obtain ⟨cs, h1, h2, _⟩ := hval
    exact ⟨cs, h1, h2⟩
  obtain ⟨fuel, hf⟩ := hd
  obtain ⟨xs, m, rfl, _, hl, hlen, hx⟩ := DataW.trod_array ht hf
  obtain ⟨l⟩ := cs
  have hs' : l.length = 2 := by simpa [hC] using hs
  match l, hs' with
  | [u0, u1], _ =>
    have g : ∀ i, i < 2 → ∃ y, xs[i]? = some y := fun i hi => ⟨_, List.getElem?_eq_getElem (by rw [hlen]; exact hi)⟩
    obtain ⟨y0, e0⟩ := g 0 (by omega)
    obtain ⟨y1, e1⟩ := g 1 (by omega)
    have f0 := (hx 0 (by omega)).trans e0
    have f1 := (hx 1 (by omega)).trans e1
    rw [hc] at f0 f1
    simp only [Value.cells, Nat.zero_mul, Nat.one_mul, List.drop_zero, List.drop_succ_cons, List.take_succ_cons, List.take_zero] at f0 f1
    obtain ⟨n0, h0, _⟩ := DataW.trod_int he f0
    obtain ⟨n1, h1, _⟩ := DataW.trod_int he f1
    simp only [List.cons.injEq, and_true] at h0 h1
    subst h0 h1
    exact ⟨n0, n1, rfl⟩
/-- a struct by value -/
theorem open_stG {α : Type} (cells : α → List Value) (ok : α → Prop) {fs : Array Field} (ht : P.underlying t = some (.struct fs))
    (step : ∀ n cs x, DataW.trod enc P W base (fun _ => true) true n t cs = some x → (∀ m ∈ x.1.weights P t, m ≤ reachBytes) → ∃ a, cs = cells a ∧ ok a)
    (hval : Value.okWide P W r b0 t v) (hd : DataW.Trod enc P W base (fun _ => true) true t v d p)
    {ts : List TypeId} {ds : List (DataW H)} (hsz : (DataW.weightsEach P ts ds).all (· ≤ reachBytes) = true) {j : Nat} (hj : ts[j]? = some t) (hdj : ds[j]? = some d) :
    ∃ a : α, v = .agg (cells a).toArray ∧ ok a := by
  obtain ⟨⟨l⟩, rfl, hs⟩ := okWide_struct ht hval
  obtain ⟨fuel, hf⟩ := hd
  obtain ⟨a, h1, h2⟩ := step fuel _ _ hf (fun m hm => by
    have := List.all_eq_true.1 hsz _ (DataW.weights_mem_each hj hdj _ hm)
    simpa using this)
  simp only [Value.cells] at h1
  exact ⟨a, by rw [← h1], h2⟩
end
end Go.Proofs.YtjgeoeeikfjmdaaGreatDoor
/- tar: the statements without the document's answer. -/
namespace Go.Proofs.YtjgeoeeikfjmdaaGreatDoor
set_option linter.unnecessarySimpa false
open Go.ChangeShapes Go.WideShapes Go.ChangeAt Go.RowKit Go.Deep Fld Ust Pax Pth Tar
set_option linter.unusedVariables false
set_option linter.unusedSimpArgs false

section
variable {H : Type} {enc : TypeId × Value → H} {W : World} {base : Nat} {v : Value} {d : DataW H} {p : List MemPlace} {r : Reach} {b0 : Nat}
instance : Inhabited En := ⟨⟨[], []⟩⟩
theorem two_cells {l : List Value} (h : l.length = 2) : ∃ a b, l = [a, b] := by
  match l, h with
  | [a, b], _ => exact ⟨a, b, rfl⟩
theorem weight_at {P : Program} {ts : List TypeId} {ds : List (DataW H)} {j : Nat} {t : TypeId} {s : List UInt8} (h : ∀ m ∈ DataW.weightsEach P ts ds, m ≤ reachBytes) (ht : ts[j]? = some t) (hd : ds[j]? = some (.lit (.string s))) : s.length ≤ 140737488351232 :=
  Nat.le_trans (h _ (DataW.weights_mem_each ht hd _ (by simp [DataW.weights]))) (by decide)
set_option maxRecDepth 20000 in
theorem en_shape (n : Nat) (cs : List Value) (x : DataW H × List MemPlace) (h : DataW.trod enc Tryz.prog W base (fun _ => true) true n 23 cs = some x) : ∃ a : En, cs = a.cells ∧ ∃ xs : List (DataW H), x.1 = .agg xs ∧ xs[0]? = some (.lit (.string a.path)) ∧ xs[1]? = some (.lit (.string a.data)) := by
  obtain ⟨xs, m, rfl, rfl, hl, hlen, hf⟩ := DataW.trod_struct Tryz.underlying23 h
  obtain ⟨c0, c1, rfl⟩ := two_cells (hl.trans (by kernel_rfl))
  have g : ∀ i (hi : i < 2), ∃ y, xs[i]? = some y := fun i hi => ⟨_, List.getElem?_eq_getElem (by rw [hlen]; exact hi)⟩
  obtain ⟨y0, e0⟩ := g 0 (by omega)
  obtain ⟨y1, e1⟩ := g 1 (by omega)
  have f0 : DataW.trod enc Tryz.prog W base (fun _ => true) true m 9 ((([c0, c1] : List Value).drop 0).take (Tryz.prog.cellsOf 9)) = some y0 := (hf 0 _ rfl).trans e0
  have f1 : DataW.trod enc Tryz.prog W base (fun _ => true) true m 9 ((([c0, c1] : List Value).drop 1).take (Tryz.prog.cellsOf 9)) = some y1 := (hf 1 _ rfl).trans e1
  rw [show Tryz.prog.cellsOf 9 = 1 by kernel_rfl] at f0 f1
  simp only [List.drop_zero, List.drop_succ_cons, List.take_succ_cons, List.take_zero] at f0 f1
  obtain ⟨s0, h0, hy0, w0⟩ := DataW.trod_string Tryz.underlying9 f0
  obtain ⟨s1, h1, hy1, w1⟩ := DataW.trod_string Tryz.underlying9 f1
  simp only [List.cons.injEq, and_true] at h0 h1
  subst h0 h1
  refine ⟨⟨s0.data.toList, s1.data.toList⟩, rfl, xs.map (·.1), rfl, ?_, ?_⟩
  · rw [List.getElem?_map, e0, hy0]; rfl
  · rw [List.getElem?_map, e1, hy1]; rfl
set_option maxRecDepth 20000 in
theorem en_step (n : Nat) (cs : List Value) (x : DataW H × List MemPlace) (h : DataW.trod enc Tryz.prog W base (fun _ => true) true n 23 cs = some x) (hw : ∀ m ∈ x.1.weights Tryz.prog 23, m ≤ reachBytes) : ∃ a : En, cs = a.cells ∧ EnOk a := by
  obtain ⟨a, h1, xs, h2, h3, h4⟩ := en_shape n cs x h
  have hwe : ∀ k ∈ DataW.weightsEach Tryz.prog [9, 9] xs, k ≤ reachBytes := fun k hk => hw k (by
    rw [h2]
    simp only [DataW.weights, Tryz.underlying23]
    exact hk)
  exact ⟨a, h1, ⟨weight_at (j := 0) hwe rfl h3, weight_at (j := 1) hwe rfl h4⟩⟩
set_option maxRecDepth 20000 in
theorem open_Entry (hval : Value.okWide Tryz.prog W r b0 31 v) (hd : DataW.Trod enc Tryz.prog W base (fun _ => true) true 31 v d p)
    {ts : List TypeId} {ds : List (DataW H)} (hsz : (DataW.weightsEach Tryz.prog ts ds).all (· ≤ reachBytes) = true) {j : Nat} (hj : ts[j]? = some 31) (hdj : ds[j]? = some d) :
    ∃ (l : List En) (A : Option Addr) (cap : Nat), v = .slice A l.length cap ∧ ((∀ x ∈ l, EnOk x) ∧ l.length ≤ 140737488355328) ∧ Sl W W.heap.size A (ensV l) := by
  obtain ⟨l, A, cap, h1, h2, _, h4, _, h3⟩ := open_slG (α := En) En.cells EnOk (c := 2) (fun _ => rfl) Tryz.underlying31 (by kernel_rfl) (fun n cs x hx hw _ => en_step n cs x hx hw) hval hd hsz hj hdj
  refine ⟨l, A, cap, h1, ⟨h2, ?_⟩, h3⟩
  rw [show Tryz.prog.bytesOf 23 = 32 by kernel_rfl] at h4
  simp only [reachBytes] at h4
  omega
end
theorem mlen_of {w : World} (h : w.ShapedOpen Tryz.prog) : ∃ m : Int, w.cell? ⟨0, 0, none⟩ = some (.int .i64 m) := Tryz.laysM219.s1_3 w h
theorem tab_of {W : World} (h : laidMetH Tryz.prog Rows.tarEntriesRow.laid W) : Tab W := by
  have h2 : laidMet Tryz.prog [("internal/strconv.uint64pow10", Lib.tabData .u64 Lib.pow10Tab)] W := laidMet.tail (laidMet.tail h)
  exact Lib.tabBelow_of_tabIs (Lib.tabIs_of_head (rest := []) (g := 1) (by kernel_rfl) (by kernel_rfl) Tryz.underlying179 Tryz.underlying142 (by kernel_rfl) (by kernel_rfl) h2)
def okB (l : List En) : Bool := l.all fun x => decide (checkP x.path = 0)
theorem okB_snoc (l : List En) (x : En) : okB (l ++ [x]) = (okB l && decide (checkP x.path = 0)) := by simp [okB]
theorem okB_true {l : List En} : okB l = true ↔ ∀ x ∈ l, checkP x.path = 0 := by simp [okB]
theorem light_data {l : List En} (h : hv l ≤ 40000) : ∀ x ∈ l, x.path.length ≤ 40000 ∧ x.data.length ≤ 40000 := fun x hx => by
  have := hv_mem hx
  omega
theorem packT_bad {l : List En} (h : hv l ≤ 40000) (hm : ¬ ∀ x ∈ l, checkP x.path = 0) : packT l = ([], 140) := by
  have key : ∀ l : List En, hv l ≤ 40000 → (¬ ∀ x ∈ l, checkP x.path = 0) → errT l = 140 := by
    intro l
    induction l with
    | nil => intro _ hm; exact absurd (fun x hx => by cases hx) hm
    | cons x l ih =>
      intro h hm
      simp only [hv] at h
      unfold errT
      by_cases c : checkP x.path = 0
      · rw [if_neg (by omega), if_neg (by omega)]
        refine ih (by omega) fun q => hm fun y hy => ?_
        rcases List.mem_cons.1 hy with rfl | hy
        · exact c
        · exact q y hy
      · rw [if_pos c]
  unfold packT
  rw [key l h hm, if_pos (by decide)]
theorem packT_good {l : List En} (h : okL l) : packT l = (catT l ++ nul 1024, 0) := by
  unfold packT
  rw [if_neg (by rw [errT_ok h]; decide)]
end Go.Proofs.YtjgeoeeikfjmdaaGreatDoor
/- tar: the document's sectors. -/
namespace Go.Proofs.YtjgeoeeikfjmdaaGreatDoor
set_option linter.unnecessarySimpa false
open Go.RowKit Fld Ust Pax Pth Tar
set_option linter.unusedVariables false
set_option linter.unusedSimpArgs false

theorem digit_at18 (d : Nat) (h : d < 10) : (List.drop d ([48, 49, 50, 51, 52, 53, 54, 55, 56, 57] : List UInt8)).take (d + 1 - d) = [dgt d] := by
  have : ∀ d : Fin 10, (List.drop d.val ([48, 49, 50, 51, 52, 53, 54, 55, 56, 57] : List UInt8)).take (d.val + 1 - d.val) = [dgt d.val] := by decide +kernel
  exact this ⟨d, h⟩
theorem nDigits_len18 (n : Nat) (h : n < 18446744073709551616) : (Lib.decDigits n).length ≤ 20 := by
  rw [Lib.decDigits_length]
  exact Lib.nDigits_le20 n h
theorem rdigits_s (m : Nat) (h1 : m ≤ 9223372036854775807) (w : World) :
    Ret Tryz.prog 82 [.int .i64 (m : Int)] w fun v w' => v = str (Lib.decDigits m) ∧ w = w' := by
  have hlen := nDigits_len18 m (by omega)
  refine Ret.enter Tryz.func82 rfl Tryz.ntmps82 (by kernel_rfl) rfl ?_
  refine KW.seq (KW.region ?_)
  refine OW.val rfl rfl (EX.assign rfl) ?_
  refine OW.nil ?_
  refine KW.seq (KW.seq (KW.region ?_))
  refine OW.val rfl rfl (EX.move rfl) ?_
  refine OW.val rfl rfl (by first | exact EX.lssN (b := 0) rfl rfl | exact EX.lssZ rfl rfl) ?_
  refine OW.nil ?_
  refine KW.condD rfl (fun h => ?_) (fun h => ?_)
  · omega
  · refine KW.skip (KW.seq (KW.region ?_))
    refine OW.val rfl rfl (EX.move rfl) ?_
    refine OW.val rfl rfl (by first | exact EX.remN (b := 10) rfl rfl (by omega) | exact EX.remZ rfl rfl (by decide)) ?_
    refine OW.val rfl rfl (EX.assign rfl) ?_
    refine OW.nil ?_
    refine KW.seq (KW.region ?_)
    refine OW.val rfl rfl (EX.move rfl) ?_
    refine OW.val rfl rfl (EX.move rfl) ?_
    refine OW.val rfl rfl (by first | exact EX.addN (b := 1) (m := 9223372036854775807) rfl rfl rfl (by omega) | exact EX.addZ (m := 9223372036854775807) rfl rfl rfl rfl (by omega)) ?_
    refine OW.val rfl rfl (EX.sliceLH (s := [48, 49, 50, 51, 52, 53, 54, 55, 56, 57]) Tryz.underlying9 rfl rfl rfl (by simp only [List.length_cons, List.length_nil]; omega)) ?_
    refine OW.val rfl rfl (EX.assign rfl) ?_
    refine OW.nil ?_
    refine KW.seq (KW.block ?_)
    refine KW.as 4 (str ([dgt (m % 10)])) rfl (by rw [digit_at18 _ (by omega)]) ?_
    refine KW.loop2 (fun (x : Nat) (l : List UInt8) => x ≤ m ∧ Lib.decDigits m = Lib.decDigits x ++ l) (fun (x : Nat) (l : List UInt8) => [(0, .int .i64 ((x : Nat) : Int)), (4, str ((dgt (x % 10) :: l)))]) (fun (x : Nat) (l : List UInt8) => w) (fun (x : Nat) (l : List UInt8) => x) (m) ([]) ⟨rfl, rfl, trivial⟩ rfl ?_ ?_
    · exact ⟨by omega, by simp⟩
    · rintro x l ⟨hx, he⟩
      have hl : l.length ≤ 20 := by rw [he, List.length_append] at hlen; omega
      refine KW.seq (KW.seq (KW.region ?_))
      refine OW.val rfl rfl (EX.move rfl) ?_
      refine OW.val rfl rfl (by first | exact EX.geqN (b := 10) rfl rfl | exact EX.geqZ rfl rfl) ?_
      refine OW.nil ?_
      refine KW.condD rfl (fun h2 => ?_) (fun h2 => ?_)
      · refine KW.skip (KW.block (KW.seq (KW.region ?_)))
        refine OW.val rfl rfl (EX.move rfl) ?_
        refine OW.val rfl rfl (EX.quoN (b := 10) (m := 9223372036854775807) rfl rfl rfl (by omega)) ?_
        refine OW.val rfl rfl (EX.assign rfl) ?_
        refine OW.nil ?_
        refine KW.seq (KW.region ?_)
        refine OW.val rfl rfl (EX.move rfl) ?_
        refine OW.val rfl rfl (by first | exact EX.remN (b := 10) rfl rfl (by omega) | exact EX.remZ rfl rfl (by decide)) ?_
        refine OW.val rfl rfl (EX.assign rfl) ?_
        refine OW.nil ?_
        refine KW.region ?_
        refine OW.val rfl rfl (EX.move rfl) ?_
        refine OW.val rfl rfl (EX.move rfl) ?_
        refine OW.val rfl rfl (by first | exact EX.addN (b := 1) (m := 9223372036854775807) rfl rfl rfl (by omega) | exact EX.addZ (m := 9223372036854775807) rfl rfl rfl rfl (by omega)) ?_
        refine OW.val rfl rfl (EX.sliceLH (s := [48, 49, 50, 51, 52, 53, 54, 55, 56, 57]) Tryz.underlying9 rfl rfl rfl (by simp only [List.length_cons, List.length_nil]; omega)) ?_
        refine OW.val rfl rfl (EX.move rfl) ?_
        refine OW.val rfl rfl (EX.addS rfl rfl (by first | omega | (simp only [List.length_append, List.length_cons, List.length_nil, List.length_take, List.length_drop, List.length_replicate]; omega))) ?_
        refine OW.val rfl rfl (EX.assign rfl) ?_
        refine OW.nil ?_
        refine KW.leave ?_
        refine KW.as 4 (str ((dgt (x / 10 % 10) :: dgt (x % 10) :: l))) rfl (by rw [digit_at18 _ (by omega)]; rfl) ?_
        refine KW.back2 (x / 10) (dgt (x % 10) :: l) ⟨rfl, rfl, trivial⟩ rfl ?_ (by omega)
        refine ⟨by omega, ?_⟩
        rw [he, dec_step (by omega : ¬ x < 10), List.append_assoc]
        rfl
      · refine KW.exit rfl (KW.seq (KW.region ?_))
        refine OW.val rfl rfl (EX.move rfl) ?_
        refine OW.val rfl rfl (EX.assign rfl) ?_
        refine OW.nil ?_
        refine KW.ret (ret1 rfl rfl ?_)
        rw [he, dec_small (by omega : x < 10), Nat.mod_eq_of_lt (by omega : x < 10)]
        exact ⟨rfl, rfl⟩
theorem pmay_s (key : List UInt8) (hk : key.length ≤ 140737488355328) (w : World) : Ret Tryz.prog 51 [str key] w fun v w' => v = .bool (okK key) ∧ w = w' := by
  refine Ret.enter Tryz.func51 rfl Tryz.ntmps51 (by kernel_rfl) rfl ?_
  refine KW.seq (KW.region ?_)
  refine OW.val rfl rfl (EX.assign rfl) ?_
  refine OW.nil ?_
  refine KW.seq (KW.seq (KW.region ?_))
  refine OW.val rfl rfl (EX.assign rfl) ?_
  refine OW.nil ?_
  refine KW.block ?_
  refine KW.loop1 (fun (i : Nat) => i ≤ key.length ∧ (61 : UInt8) ∉ key.take i) (fun (i : Nat) => [(0, str (key)), (3, .int .i64 ((i : Nat) : Int))]) (fun (i : Nat) => w) (fun (i : Nat) => key.length - i) (0) ⟨rfl, rfl, trivial⟩ rfl ?_ ?_
  · exact ⟨Nat.zero_le _, by simp⟩
  · rintro i ⟨hi, hn⟩
    refine KW.seq (KW.seq (KW.region ?_))
    refine OW.val rfl rfl (EX.move rfl) ?_
    refine OW.val rfl rfl (EX.move rfl) ?_
    refine OW.val rfl rfl (EX.lenS Tryz.underlying9 rfl) ?_
    refine OW.val rfl rfl (by first | exact EX.lssN rfl rfl | exact EX.lssZ rfl rfl) ?_
    refine OW.nil ?_
    refine KW.condD rfl (fun hl => ?_) (fun hl => ?_)
    · refine KW.skip (KW.seq (KW.block (KW.seq (KW.region ?_))))
      refine OW.val rfl rfl (EX.move rfl) ?_
      refine OW.val rfl rfl (EX.move rfl) ?_
      refine OW.val rfl rfl (EX.indexS Tryz.underlying9 rfl rfl (List.getElem?_eq_getElem (by omega))) ?_
      refine OW.val rfl rfl (by first | exact EX.eqlN (b := 61) rfl rfl | exact EX.eqlZ rfl rfl) ?_
      refine OW.nil ?_
      refine KW.condD rfl (fun h61 => ?_) (fun h61 => ?_)
      · have hc : key[i] = 61 := UInt8.toNat_inj.1 (by rw [h61]; rfl)
        have e : okK key = false := by
          unfold okK
          rw [decide_eq_false_iff_not]
          exact fun z => z.2 (hc ▸ List.getElem_mem hl)
        refine KW.seq (KW.region ?_)
        refine OW.val rfl rfl (EX.assign rfl) ?_
        refine OW.nil ?_
        refine KW.ret (ret1 rfl rfl ?_)
        rw [e]
        exact ⟨rfl, rfl⟩
      · refine KW.skip (KW.leave (KW.region ?_))
        refine OW.val rfl rfl (EX.move rfl) ?_
        refine OW.val rfl rfl (by first | exact EX.addN (b := 1) (m := 9223372036854775807) rfl rfl rfl (by omega) | exact EX.addZ (m := 9223372036854775807) rfl rfl rfl rfl (by omega)) ?_
        refine OW.val rfl rfl (EX.assign rfl) ?_
        refine OW.nil ?_
        refine KW.back1 (i + 1) ⟨rfl, rfl, trivial⟩ rfl ?_ (by omega)
        refine ⟨by omega, ?_⟩
        rw [← List.take_append_getElem hl]
        simp only [List.mem_append, List.mem_singleton, not_or]
        exact ⟨hn, fun z => h61 (by rw [← z]; rfl)⟩
    · obtain rfl : i = key.length := by omega
      rw [List.take_length] at hn
      refine KW.exit rfl (KW.seq (KW.region ?_))
      refine OW.val rfl rfl (EX.move rfl) ?_
      refine OW.val rfl rfl (EX.neqS (r := []) rfl rfl) ?_
      refine OW.val rfl rfl (EX.assign rfl) ?_
      refine OW.nil ?_
      refine KW.ret (ret1 rfl rfl ?_)
      refine ⟨congrArg Value.bool ?_, rfl⟩
      unfold okK
      exact decide_eq_decide.2 ⟨fun h => ⟨h, hn⟩, fun h => h.1⟩
theorem first_small : ∀ r, r < 200 → ∀ d, d < 4 → (1 ≤ d ∧ d < dOf r → dl (d + r) ≠ d) := by decide +kernel
theorem precord_s (p : Pr) (h : rest p < 200) (w : World) : Ret Tryz.prog 52 [.agg p.cells.toArray] w fun v w' => v = str (recT p) ∧ Ext w w' := by
  have hfx := fix_small _ h
  have hfi := first_small _ h
  have hr0 : rest p = p.key.length + p.val.length + 3 := rfl
  obtain ⟨R, hR⟩ : ∃ R, R = [32] ++ p.key ++ [61] ++ p.val ++ [10] := ⟨_, rfl⟩
  have hRl : R.length = rest p := by rw [hR, hr0]; simp; omega
  have hrt : recT p = Lib.decDigits (dOf (rest p) + rest p) ++ R := by rw [hR]; simp [recT, sizeP]
  have hdl : (Lib.decDigits (dOf (rest p) + rest p)).length = dOf (rest p) := hfx.1
  refine Ret.enter Tryz.func52 rfl Tryz.ntmps52 (by kernel_rfl) rfl ?_
  refine KW.seq (KW.region ?_)
  refine OW.boxS rfl rfl rfl ?_
  rintro pb w1 hge1 hp1 hx1
  refine OW.val rfl rfl (EX.assign rfl) ?_
  refine OW.nil ?_
  refine KW.seq (KW.region ?_)
  refine OW.val rfl rfl (EX.fieldAddr (off := 0) Tryz.underlying49 rfl rfl ti9 rfl rfl) ?_
  replace hp1 : Bk w1 pb 49 p.cells := hp1
  refine OW.val rfl rfl (EX.load Tryz.underlying9 rfl rfl (hp1.cell_of rfl)) ?_
  refine OW.val rfl rfl (EX.addS (s := [32]) rfl rfl (by first | omega | (simp only [List.length_append, List.length_cons, List.length_nil, List.length_take, List.length_drop, List.length_replicate]; omega))) ?_
  refine OW.val rfl rfl (EX.addS (r := [61]) rfl rfl (by first | omega | (simp only [List.length_append, List.length_cons, List.length_nil, List.length_take, List.length_drop, List.length_replicate]; omega))) ?_
  refine OW.val rfl rfl (EX.fieldAddr (off := 1) Tryz.underlying49 rfl rfl ti9 rfl rfl) ?_
  refine OW.val rfl rfl (EX.load Tryz.underlying9 rfl rfl (hp1.cell_of rfl)) ?_
  refine OW.val rfl rfl (EX.addS rfl rfl (by first | omega | (simp only [List.length_append, List.length_cons, List.length_nil, List.length_take, List.length_drop, List.length_replicate]; omega))) ?_
  refine OW.val rfl rfl (EX.addS (r := [10]) rfl rfl (by first | omega | (simp only [List.length_append, List.length_cons, List.length_nil, List.length_take, List.length_drop, List.length_replicate]; omega))) ?_
  refine OW.val rfl rfl (EX.assign rfl) ?_
  refine OW.nil ?_
  refine KW.seq (KW.seq (KW.region ?_))
  refine OW.val rfl rfl (EX.assign rfl) ?_
  refine OW.nil ?_
  refine KW.block ?_
  refine KW.as 3 (str (R)) rfl (by rw [hR]) ?_
  refine KW.loop1 (fun (d : Nat) => 1 ≤ d ∧ d ≤ dOf (rest p)) (fun (d : Nat) => [(3, str (R)), (4, .int .i64 ((d : Nat) : Int))]) (fun (d : Nat) => w1) (fun (d : Nat) => 20 - d) (1) ⟨rfl, rfl, trivial⟩ rfl ?_ ?_
  · exact ⟨Nat.le_refl _, hfx.2.1⟩
  · rintro d ⟨hd1, hd2⟩
    have c1 := rdigits_s (d + R.length) (by omega) w1
    have hlr : ∀ q, (Lib.decDigits q).length = dl q := fun _ => rfl
    have hsm : d < dOf (rest p) → dl (d + rest p) ≠ d := fun z => hfi d (by omega) ⟨hd1, z⟩
    rw [← hRl] at hsm hrt hdl
    refine KW.seq (KW.seq (KW.region ?_))
    refine OW.val rfl rfl (EX.move rfl) ?_
    refine OW.val rfl rfl (by first | exact EX.lssN (b := 20) rfl rfl | exact EX.lssZ rfl rfl) ?_
    refine OW.nil ?_
    refine KW.condD rfl (fun h20 => ?_) (fun h20 => ?_)
    · refine KW.skip (KW.seq (KW.block (KW.seq (KW.region ?_))))
      refine OW.val rfl rfl (EX.move rfl) ?_
      refine OW.val rfl rfl (EX.move rfl) ?_
      refine OW.val rfl rfl (EX.lenS Tryz.underlying9 rfl) ?_
      refine OW.val rfl rfl (by first | exact EX.addN (m := 9223372036854775807) rfl rfl rfl (by omega) | exact EX.addZ (m := 9223372036854775807) rfl rfl rfl rfl (by omega)) ?_
      refine OW.call rfl rfl rfl (c1) ?_
      rintro _ _ ⟨rfl, rfl⟩
      refine OW.val rfl rfl (EX.assign rfl) ?_
      refine OW.nil ?_
      refine KW.seq (KW.region ?_)
      refine OW.val rfl rfl (EX.move rfl) ?_
      refine OW.val rfl rfl (EX.lenS Tryz.underlying9 rfl) ?_
      refine OW.val rfl rfl (EX.move rfl) ?_
      refine OW.val rfl rfl (by first | exact EX.eqlN rfl rfl | exact EX.eqlZ rfl rfl) ?_
      refine OW.nil ?_
      refine KW.condD rfl (fun heq => ?_) (fun heq => ?_)
      · have hde : d = dOf R.length := by
          rw [hRl]
          rcases Nat.lt_or_ge d (dOf (rest p)) with q | q
          · exact absurd heq (by rw [hRl]; have := hsm (by rw [hRl]; exact q); rwa [hRl] at this)
          · omega
        refine KW.seq (KW.region ?_)
        refine OW.val rfl rfl (EX.move rfl) ?_
        refine OW.val rfl rfl (EX.move rfl) ?_
        refine OW.val rfl rfl (EX.addS rfl rfl (by first | omega | (simp only [List.length_append, List.length_cons, List.length_nil, List.length_take, List.length_drop, List.length_replicate]; omega))) ?_
        refine OW.val rfl rfl (EX.assign rfl) ?_
        refine OW.nil ?_
        refine KW.ret (ret1 rfl rfl ?_)
        rw [hrt, ← hde]
        exact ⟨rfl, hx1⟩
      · refine KW.skip (KW.leave (KW.region ?_))
        refine OW.val rfl rfl (EX.move rfl) ?_
        refine OW.val rfl rfl (by first | exact EX.addN (b := 1) (m := 9223372036854775807) rfl rfl rfl (by omega) | exact EX.addZ (m := 9223372036854775807) rfl rfl rfl rfl (by omega)) ?_
        refine OW.val rfl rfl (EX.assign rfl) ?_
        refine OW.nil ?_
        refine KW.back1 (d + 1) ⟨rfl, rfl, trivial⟩ rfl ?_ (by omega)
        refine ⟨by omega, ?_⟩
        rcases Nat.lt_or_ge d (dOf (rest p)) with q | q
        · omega
        · exfalso
          have e : d = dOf (rest p) := by omega
          apply heq
          rw [e, ← hRl]
          exact hdl
    · omega
set_option maxRecDepth 20000 in
theorem rpencode_s (p : Pr) (h : rest p < 200) (hk : okK p.key = true) (A : Option Addr) (c B : Nat) (w : World) (hs : Sl w B A (prsV [p])) :
    Ret Tryz.prog 27 [.slice A 1 c] w fun v w' => v = .tuple #[str (recT p), .int .i64 ((0 : Nat) : Int)] ∧ Ext w w' := by
  have hr0 : rest p = p.key.length + p.val.length + 3 := rfl
  have hrl := rec_len h
  have hfx := fix_small _ h
  have hsz : sizeP p = dOf (rest p) + rest p := rfl
  have m1 := fun w => pmay_s p.key (by omega) w
  rw [hk] at m1
  refine Ret.enter Tryz.func27 rfl Tryz.ntmps27 (by kernel_rfl) rfl ?_
  refine KW.seq (KW.region ?_)
  refine OW.val rfl rfl (EX.assign rfl) ?_
  refine OW.val rfl rfl (EX.assign rfl) ?_
  refine OW.nil ?_
  refine KW.seq (KW.seq (KW.region ?_))
  refine OW.val rfl rfl (EX.assign rfl) ?_
  refine OW.nil ?_
  refine KW.cut1 (fun (wr : World) => Ext w wr) (fun (wr : World) => [(0, .slice A 1 c)]) (fun (wr : World) => wr) ?_ ?_
  · refine KW.block ?_
    refine KW.loop2 (fun (i : Nat) (wr : World) => i ≤ 1 ∧ Ext w wr) (fun (i : Nat) (wr : World) => [(0, .slice A 1 c), (4, .int .i64 ((i : Nat) : Int))]) (fun (i : Nat) (wr : World) => wr) (fun (i : Nat) (wr : World) => 1 - i) (0) (w) ⟨rfl, rfl, trivial⟩ rfl ?_ ?_
    · exact ⟨Nat.zero_le _, Ext.refl _⟩
    · rintro i wr ⟨hi, hx⟩
      refine KW.seq (KW.seq (KW.region ?_))
      refine OW.val rfl rfl (EX.move rfl) ?_
      refine OW.val rfl rfl (EX.move rfl) ?_
      refine OW.val rfl rfl (EX.lenA Tryz.underlying50 rfl) ?_
      refine OW.val rfl rfl (by first | exact EX.lssN rfl rfl | exact EX.lssZ rfl rfl) ?_
      refine OW.nil ?_
      refine KW.condD rfl (fun hlt => ?_) (fun hlt => ?_)
      · obtain rfl : i = 0 := by omega
        obtain ⟨b, o, rfl, _, hcell⟩ := (hs.ext hx).flat (l := [p]) (i := 0) (c := 2) (fun _ => rfl) (by decide) (Nat.zero_lt_succ _)
        refine KW.skip (KW.seq (KW.block (KW.seq (KW.region ?_))))
        refine OW.val rfl rfl (EX.move rfl) ?_
        refine OW.val rfl rfl (EX.move rfl) ?_
        refine OW.val rfl rfl (EX.indexAddrS Tryz.underlying50 ti49 rfl rfl (by omega)) ?_
        refine OW.val rfl rfl (EX.fieldAddr (off := 0) Tryz.underlying49 rfl rfl ti9 rfl rfl) ?_
        refine OW.val rfl rfl (EX.load Tryz.underlying9 rfl rfl (hcell 0 _ rfl)) ?_
        refine OW.call rfl rfl rfl (m1 wr) ?_
        rintro _ _ ⟨rfl, rfl⟩
        refine OW.val rfl rfl (by first | exact EX.notD rfl | exact EX.notB rfl) ?_
        refine OW.nil ?_
        refine KW.condF rfl (KW.skip (KW.leave (KW.region ?_)))
        refine OW.val rfl rfl (EX.move rfl) ?_
        refine OW.val rfl rfl (by first | exact EX.addN (b := 1) (m := 9223372036854775807) rfl rfl rfl (by omega) | exact EX.addZ (m := 9223372036854775807) rfl rfl rfl rfl (by omega)) ?_
        refine OW.val rfl rfl (EX.assign rfl) ?_
        refine OW.nil ?_
        refine KW.back2 (1) (wr) ⟨rfl, rfl, trivial⟩ rfl ?_ (by omega)
        exact ⟨by omega, hx⟩
      · refine KW.exit rfl ?_
        refine KW.meet1 (wr) ⟨rfl, trivial⟩ rfl ?_
        exact hx
  · rintro wr hx
    refine KW.seq (KW.region ?_)
    refine OW.val rfl rfl (EX.assign rfl) ?_
    refine OW.nil ?_
    refine KW.seq (KW.seq (KW.region ?_))
    refine OW.val rfl rfl (EX.assign rfl) ?_
    refine OW.nil ?_
    refine KW.block ?_
    refine KW.loop3 (fun (i : Nat) (out : (List UInt8)) (wr : World) => ((i = 0 ∧ out = []) ∨ (i = 1 ∧ out = recT p)) ∧ Ext w wr) (fun (i : Nat) (out : (List UInt8)) (wr : World) => [(0, .slice A 1 c), (5, str (out)), (6, .int .i64 ((i : Nat) : Int))]) (fun (i : Nat) (out : (List UInt8)) (wr : World) => wr) (fun (i : Nat) (out : (List UInt8)) (wr : World) => 1 - i) (0) ([]) (wr) ⟨rfl, rfl, rfl, trivial⟩ rfl ?_ ?_
    · exact ⟨.inl ⟨rfl, rfl⟩, hx⟩
    · rintro i out wr ⟨hi, hx⟩
      have hol : out.length ≤ 300 := by rcases hi with ⟨_, rfl⟩ | ⟨_, rfl⟩ <;> (try simp) <;> omega
      refine KW.seq (KW.seq (KW.region ?_))
      refine OW.val rfl rfl (EX.move rfl) ?_
      refine OW.val rfl rfl (EX.move rfl) ?_
      refine OW.val rfl rfl (EX.lenA Tryz.underlying50 rfl) ?_
      refine OW.val rfl rfl (by first | exact EX.lssN rfl rfl | exact EX.lssZ rfl rfl) ?_
      refine OW.nil ?_
      refine KW.condD rfl (fun hlt => ?_) (fun hlt => ?_)
      · obtain ⟨rfl, rfl⟩ : i = 0 ∧ out = [] := by
          rcases hi with h | ⟨h, _⟩
          · exact h
          · omega
        obtain ⟨b, o, rfl, _, hcell⟩ := (hs.ext hx).flat (l := [p]) (i := 0) (c := 2) (fun _ => rfl) (by decide) (Nat.zero_lt_succ _)
        refine KW.skip (KW.seq (KW.block (KW.seq (KW.region ?_))))
        refine OW.val rfl rfl (EX.move rfl) ?_
        refine OW.val rfl rfl (EX.move rfl) ?_
        refine OW.val rfl rfl (EX.move rfl) ?_
        refine OW.val rfl rfl (EX.indexAddrS Tryz.underlying50 ti49 rfl rfl (by omega)) ?_
        refine OW.val rfl rfl (EX.loadA (l := p.cells) Tryz.underlying49 rfl ti49 rfl rfl hcell) ?_
        refine OW.call rfl rfl rfl (precord_s p h wr) ?_
        rintro _ w2 ⟨rfl, hx2⟩
        refine OW.val rfl rfl (EX.addS rfl rfl (by first | omega | (simp only [List.length_append, List.length_cons, List.length_nil, List.length_take, List.length_drop, List.length_replicate]; omega))) ?_
        refine OW.val rfl rfl (EX.assign rfl) ?_
        refine OW.nil ?_
        refine KW.seq (KW.region ?_)
        refine OW.val rfl rfl (EX.move rfl) ?_
        refine OW.val rfl rfl (EX.lenS Tryz.underlying9 rfl) ?_
        refine OW.val rfl rfl (by first | exact EX.gtrN (b := 262144) rfl rfl | exact EX.gtrZ rfl rfl) ?_
        refine OW.nil ?_
        refine KW.condD rfl (fun hbig => ?_) (fun hbig => ?_)
        · simp only [List.nil_append] at hbig
          omega
        · refine KW.skip (KW.leave (KW.region ?_))
          refine OW.val rfl rfl (EX.move rfl) ?_
          refine OW.val rfl rfl (by first | exact EX.addN (b := 1) (m := 9223372036854775807) rfl rfl rfl (by omega) | exact EX.addZ (m := 9223372036854775807) rfl rfl rfl rfl (by omega)) ?_
          refine OW.val rfl rfl (EX.assign rfl) ?_
          refine OW.nil ?_
          refine KW.back3 (1) (recT p) (w2) ⟨rfl, rfl, rfl, trivial⟩ rfl ?_ (by omega)
          exact ⟨.inr ⟨rfl, rfl⟩, hx.trans hx2⟩
      · obtain ⟨rfl, rfl⟩ : i = 1 ∧ out = recT p := by
          rcases hi with ⟨h, _⟩ | h
          · omega
          · exact h
        refine KW.exit rfl (KW.seq (KW.region ?_))
        refine OW.val rfl rfl (EX.move rfl) ?_
        refine OW.val rfl rfl (EX.assign rfl) ?_
        refine OW.val rfl rfl (EX.assign rfl) ?_
        refine OW.nil ?_
        refine KW.ret (ret2 rfl rfl rfl ?_)
        exact ⟨rfl, hx⟩
theorem rfilled_s (s : List UInt8) (hs : s.length ≤ 1000000) (w : World) : Ret Tryz.prog 50 [str s] w fun v w' => v = str (s ++ nul (fil s.length - s.length)) ∧ Ext w w' := by
  refine Ret.enter Tryz.func50 rfl Tryz.ntmps50 (by kernel_rfl) rfl ?_
  refine KW.seq (KW.region ?_)
  refine OW.val rfl rfl (EX.assign rfl) ?_
  refine OW.nil ?_
  refine KW.seq (KW.region ?_)
  refine OW.val rfl rfl (EX.move rfl) ?_
  refine OW.val rfl rfl (EX.lenS Tryz.underlying9 rfl) ?_
  refine OW.val rfl rfl (by first | exact EX.remN (b := 512) rfl rfl (by omega) | exact EX.remZ rfl rfl (by decide)) ?_
  refine OW.val rfl rfl (EX.assign rfl) ?_
  refine OW.nil ?_
  refine KW.seq (KW.seq (KW.region ?_))
  refine OW.val rfl rfl (EX.move rfl) ?_
  refine OW.val rfl rfl (by first | exact EX.eqlN (b := 0) rfl rfl | exact EX.eqlZ rfl rfl) ?_
  refine OW.nil ?_
  refine KW.condD rfl (fun h0 => ?_) (fun h0 => ?_)
  · have e : s ++ nul (fil s.length - s.length) = s := by
      have : fil s.length - s.length = 0 := by unfold fil; omega
      rw [this]
      simp [nul]
    refine KW.seq (KW.region ?_)
    refine OW.val rfl rfl (EX.move rfl) ?_
    refine OW.val rfl rfl (EX.assign rfl) ?_
    refine OW.nil ?_
    refine KW.ret (ret1 rfl rfl ?_)
    rw [e]
    exact ⟨rfl, Ext.refl _⟩
  · have e : fil s.length - s.length = 512 - s.length % 512 := by unfold fil; omega
    rw [e]
    refine KW.skip (KW.seq (KW.region ?_))
    refine OW.val rfl rfl (EX.move rfl) ?_
    refine OW.val rfl rfl (EX.move rfl) ?_
    refine OW.val rfl rfl (by first | exact EX.subN (a := 512) (m := 9223372036854775807) rfl rfl rfl (by omega) | exact EX.subZ (m := 9223372036854775807) rfl rfl rfl rfl (by omega)) ?_
    refine OW.makeB rfl rfl Tryz.underlying55 ti5 rfl rfl rfl (by omega) (by omega) ?_
    rintro b w1 hge1 hb1 hx1
    rw [← bytesV_nul] at hb1
    have hnl := nul_length (512 - s.length % 512)
    refine OW.val rfl rfl (EX.strOf Tryz.underlying55 Tryz.underlying5 Tryz.underlying9 rfl (hb1.sl) (nul_length _)) ?_
    refine OW.val rfl rfl (EX.addS rfl rfl (by first | omega | (simp only [List.length_append, List.length_cons, List.length_nil, List.length_take, List.length_drop, List.length_replicate]; omega))) ?_
    refine OW.val rfl rfl (EX.assign rfl) ?_
    refine OW.nil ?_
    refine KW.ret (ret1 rfl rfl ?_)
    exact ⟨rfl, hx1⟩
theorem rpart_s (p : List UInt8) (k : Nat) (d : List UInt8) (g : Tar.Good p k d.length) (hp : p.length ≤ 1000000) (hk : k ≤ 255) (hd : d.length ≤ 1000000) (w : World) :
    Ret Tryz.prog 26 [str p, .int .u8 (k : Int), str d] w fun v w' => v = str (sect p k d) ∧ Ext w w' := by
  have c1 := rencode_s (hdOf p k d.length) (hdOf_ok hp hk (by omega)) w
  rw [g.enc] at c1
  have hl : (hdText (hdOf p k d.length)).length = 512 := g.len
  have hf := fil_ge d.length
  have hf2 := fil_le d.length
  have hnl : (nul (fil d.length - d.length)).length = fil d.length - d.length := nul_len _
  unfold sect
  generalize hdText (hdOf p k d.length) = h at c1 hl
  refine Ret.enter Tryz.func26 rfl Tryz.ntmps26 (by kernel_rfl) rfl ?_
  refine KW.seq (KW.region ?_)
  refine OW.val rfl rfl (EX.assign rfl) ?_
  refine OW.nil ?_
  refine KW.seq (KW.region ?_)
  refine OW.val rfl rfl (EX.move rfl) ?_
  refine OW.val rfl rfl (EX.move rfl) ?_
  refine OW.val rfl rfl (EX.move rfl) ?_
  refine OW.val rfl rfl (EX.lenS Tryz.underlying9 rfl) ?_
  refine OW.val rfl rfl (EX.buildS (pl := [(0, 1), (1, 1), (2, 1), (3, 1), (4, 1), (5, 1), (6, 2), (8, 2)]) (ks := [0, 2, 1, 3]) (is := [0, 2, 1, 3]) (zs := [str [], .int .i64 0, .int .u8 0, .int .i64 0, .int .i64 0, str [], str [], str [], .int .i64 0, .int .i64 0]) Tryz.underlying72 ti72 (by kernel_rfl) rfl rfl rfl (by first | rfl | (simp only [List.all_cons, List.all_nil, Bool.and_true, Bool.true_and, Bool.and_eq_true, Value.oneCell']; repeat (first | assumption | exact Own.one (by assumption) | constructor))) (by simp only [setAll, List.set_cons_zero, List.set_cons_succ]; rfl)) ?_
  refine OW.call rfl rfl rfl (c1) ?_
  rintro _ w1 ⟨rfl, hx1⟩
  refine OW.val rfl rfl (EX.move rfl) ?_
  refine OW.val rfl rfl (EX.extract rfl rfl) ?_
  refine OW.val rfl rfl (EX.extract rfl rfl) ?_
  refine OW.val rfl rfl (EX.assign rfl) ?_
  refine OW.val rfl rfl (EX.assign rfl) ?_
  refine OW.nil ?_
  refine KW.seq (KW.region ?_)
  refine OW.val rfl rfl (EX.move rfl) ?_
  refine OW.val rfl rfl (EX.move rfl) ?_
  refine OW.call rfl rfl rfl (rfilled_s d hd w1) ?_
  rintro _ w2 ⟨rfl, hx2⟩
  refine OW.val rfl rfl (EX.addS rfl rfl (by first | omega | (simp only [List.length_append, List.length_cons, List.length_nil, List.length_take, List.length_drop, List.length_replicate]; omega))) ?_
  refine OW.val rfl rfl (EX.assign rfl) ?_
  refine OW.nil ?_
  refine KW.ret (ret1 rfl rfl ?_)
  exact ⟨by rw [List.append_assoc], hx1.trans hx2⟩
set_option maxRecDepth 20000 in
theorem rentry_s (x : En) (hp : x.path.length ≤ 1000000000000) (hd : x.data.length ≤ 140737488355328) (w : World) :
    Ret Tryz.prog 10 [.agg x.cells.toArray] w fun v w' => v = .tuple #[str (entE x).1, .int .i64 (((entE x).2 : Nat) : Int)] ∧ Ext w w' := by
  refine Ret.enter Tryz.func10 rfl Tryz.ntmps10 (by kernel_rfl) rfl ?_
  refine KW.seq (KW.region ?_)
  refine OW.boxS rfl rfl rfl ?_
  rintro xb w1 hge1 hb1 hx1
  refine OW.val rfl rfl (EX.assign rfl) ?_
  refine OW.val rfl rfl (EX.assign rfl) ?_
  refine OW.nil ?_
  refine KW.seq (KW.seq (KW.region ?_))
  refine OW.val rfl rfl (EX.fieldAddr (off := 0) Tryz.underlying23 rfl rfl ti9 rfl rfl) ?_
  replace hb1 : Bk w1 xb 23 x.cells := hb1
  refine OW.val rfl rfl (EX.load Tryz.underlying9 rfl rfl (hb1.cell_of rfl)) ?_
  refine OW.call rfl rfl rfl (rcheck_s x.path hp w1) ?_
  rintro _ w2 ⟨rfl, hx2⟩
  refine OW.val rfl rfl (by first | exact EX.neqN (b := 0) rfl rfl | exact EX.neqZ rfl rfl) ?_
  refine OW.nil ?_
  have x2 := hx1.trans hx2
  have hb2 := hb1.ext hx2
  refine KW.condD rfl (fun hc => ?_) (fun hc => ?_)
  · have e : entE x = ([], 140) := by unfold entE; rw [if_pos (by omega)]
    refine KW.seq (KW.region ?_)
    refine OW.val rfl rfl (EX.assign rfl) ?_
    refine OW.val rfl rfl (EX.assign rfl) ?_
    refine OW.nil ?_
    refine KW.ret (ret2 rfl rfl rfl ?_)
    rw [e]
    exact ⟨rfl, x2⟩
  · have hc0 : checkP x.path = 0 := by omega
    obtain ⟨hcl, hne, h120, hz⟩ := check_clean hc0
    refine KW.skip (KW.seq (KW.seq (KW.region ?_)))
    refine OW.val rfl rfl (EX.fieldAddr (off := 1) Tryz.underlying23 rfl rfl ti9 rfl rfl) ?_
    refine OW.val rfl rfl (EX.load Tryz.underlying9 rfl rfl (hb2.cell_of rfl)) ?_
    refine OW.val rfl rfl (EX.lenS Tryz.underlying9 rfl) ?_
    refine OW.val rfl rfl (by first | exact EX.gtrN (b := 262144) rfl rfl | exact EX.gtrZ rfl rfl) ?_
    refine OW.nil ?_
    refine KW.condD rfl (fun hbig => ?_) (fun hbig => ?_)
    · have e : entE x = ([], 3) := by unfold entE; rw [if_neg (by omega), if_pos (by omega)]
      refine KW.seq (KW.region ?_)
      refine OW.val rfl rfl (EX.assign rfl) ?_
      refine OW.val rfl rfl (EX.assign rfl) ?_
      refine OW.nil ?_
      refine KW.ret (ret2 rfl rfl rfl ?_)
      rw [e]
      exact ⟨rfl, x2⟩
    · have hd2 : x.data.length ≤ 262144 := by omega
      have e : entE x = (entT x, 0) := by unfold entE; rw [if_neg (by omega), if_neg (by omega)]
      refine KW.skip (KW.seq (KW.region ?_))
      refine OW.val rfl rfl (EX.fieldAddr (off := 0) Tryz.underlying23 rfl rfl ti9 rfl rfl) ?_
      refine OW.val rfl rfl (EX.load Tryz.underlying9 rfl rfl (hb2.cell_of rfl)) ?_
      refine OW.call rfl rfl rfl (rsplit_s x.path (by omega) w2) ?_
      rintro _ w3 ⟨r, rfl, hr, hx3⟩
      refine OW.val rfl rfl (EX.move rfl) ?_
      refine OW.val rfl rfl (EX.extract rfl rfl) ?_
      refine OW.val rfl rfl (EX.extract rfl rfl) ?_
      refine OW.val rfl rfl (EX.extract rfl rfl) ?_
      refine OW.val rfl rfl (EX.assign rfl) ?_
      refine OW.val rfl rfl (EX.assign rfl) ?_
      refine OW.val rfl rfl (EX.assign rfl) ?_
      refine OW.nil ?_
      refine KW.seq (KW.seq (KW.region ?_))
      refine OW.val rfl rfl (EX.move rfl) ?_
      refine OW.nil ?_
      obtain rfl := split_val hr
      have x3 := x2.trans hx3
      have hb3 := hb2.ext hx3
      refine KW.cond rfl (fun hs => ?_) (fun hs => ?_)
      · have e2 : entT x = sect x.path 48 x.data := by unfold entT; rw [if_pos hs]
        have g := good_one hc0 hd2 hs
        refine KW.seq (KW.region ?_)
        refine OW.val rfl rfl (EX.fieldAddr (off := 0) Tryz.underlying23 rfl rfl ti9 rfl rfl) ?_
        refine OW.val rfl rfl (EX.load Tryz.underlying9 rfl rfl (hb3.cell_of rfl)) ?_
        refine OW.val rfl rfl (EX.fieldAddr (off := 1) Tryz.underlying23 rfl rfl ti9 rfl rfl) ?_
        refine OW.val rfl rfl (EX.load Tryz.underlying9 rfl rfl (hb3.cell_of rfl)) ?_
        refine OW.call rfl rfl rfl (rpart_s x.path 48 x.data g (by omega) (by decide) (by omega) w3) ?_
        rintro _ w4 ⟨rfl, hx4⟩
        refine OW.val rfl rfl (EX.assign rfl) ?_
        refine OW.val rfl rfl (EX.assign rfl) ?_
        refine OW.nil ?_
        refine KW.ret (ret2 rfl rfl rfl ?_)
        rw [e, e2]
        exact ⟨rfl, x3.trans hx4⟩
      · have hns : ¬ (splitP x.path).2.2 = true := by rw [hs]; decide
        have e2 : entT x = sect pname 120 (recT ⟨pkey, x.path⟩) ++ sect (x.path.take 100) 48 x.data := by unfold entT; rw [if_neg hns]
        have hl100 := not_split hns
        have hrl := rec_len (path_rest h120)
        have hfx := fix_small _ (path_rest h120)
        have hsz : sizeP ⟨pkey, x.path⟩ ≤ 300 := by unfold sizeP; have := path_rest h120; omega
        have g1 := good_pax (n := (recT ⟨pkey, x.path⟩).length) (by omega)
        have g2 := good_cut hc0 hd2
        have hl1 := sect_len g1
        have hl2 := sect_len g2
        have hf1 := fil_le (recT ⟨pkey, x.path⟩).length
        have hf2 := fil_le x.data.length
        refine KW.skip (KW.seq (KW.region ?_))
        refine OW.val rfl rfl (EX.fieldAddr (off := 0) Tryz.underlying23 rfl rfl ti9 rfl rfl) ?_
        refine OW.val rfl rfl (EX.load Tryz.underlying9 rfl rfl (hb3.cell_of rfl)) ?_
        refine OW.val rfl rfl (EX.buildS (pl := [(0, 1), (1, 1)]) (ks := [0, 1]) (is := [0, 1]) (zs := [str [], str []]) Tryz.underlying49 ti49 (by kernel_rfl) rfl rfl rfl (by first | rfl | (simp only [List.all_cons, List.all_nil, Bool.and_true, Bool.true_and, Bool.and_eq_true, Value.oneCell']; repeat (first | assumption | exact Own.one (by assumption) | constructor))) (by simp only [setAll, List.set_cons_zero, List.set_cons_succ]; rfl)) ?_
        refine OW.buildG 1 ([[str pkey, str x.path]]) rfl rfl Tryz.underlying50 ti49 rfl (by decide) rfl rfl rfl (by repeat' (first | exact List.forall_mem_nil _ | refine List.forall_mem_cons.2 ⟨by first | rfl | assumption, ?_⟩)) (by decide) ?_
        rintro pb w4 hge4 hp4 hx4
        replace hp4 : Bk w4 pb 49 (prsV [⟨pkey, x.path⟩]) := hp4
        have x4 := x3.trans hx4
        have c1 := rpencode_s ⟨pkey, x.path⟩ (path_rest h120) (show okK pkey = true by decide) (some ⟨pb, 0, none⟩) 1 _ w4 (Sl.of_bk hp4 hp4.lt)
        refine OW.call rfl rfl rfl (c1) ?_
        rintro _ w5 ⟨rfl, hx5⟩
        refine OW.val rfl rfl (EX.move rfl) ?_
        refine OW.val rfl rfl (EX.extract rfl rfl) ?_
        refine OW.val rfl rfl (EX.extract rfl rfl) ?_
        refine OW.val rfl rfl (EX.assign rfl) ?_
        refine OW.val rfl rfl (EX.assign rfl) ?_
        refine OW.nil ?_
        refine KW.seq ?_
        have hb5 := (hb3.ext hx4).ext hx5
        have x5 := x4.trans hx5
        have c2 := fun w => rpart_s pname 120 (recT ⟨pkey, x.path⟩) g1 (by decide) (by decide) (by omega) w
        have c3 := fun w => rpart_s (x.path.take 100) 48 x.data g2 (by rw [List.length_take]; omega) (by decide) (by omega) w
        refine KW.regionG (N := 11) (fun w' => Ext w w' ∧ Bk w' xb 23 x.cells) (by kernel_rfl) rfl ?_
        have hS := (⟨x5.trans (Ext.drew _), hb5.drew⟩ : Ext w w5.drew ∧ Bk w5.drew xb 23 x.cells)
        refine GW.val 0 rfl (by kernel_rfl) (by kernel_rfl) (by kernel_rfl) rfl rfl hS (fun w' hS' => EX.move rfl) ?_
        refine GW.val 2 rfl (by kernel_rfl) (by kernel_rfl) (by kernel_rfl) rfl rfl hS (fun w' hS' => EX.fieldAddr (off := 0) Tryz.underlying23 rfl rfl ti9 rfl rfl) ?_
        refine GW.val 3 rfl (by kernel_rfl) (by kernel_rfl) (by kernel_rfl) rfl rfl hS (fun w' hS' => EX.load Tryz.underlying9 rfl rfl (hS'.2.cell_of rfl)) ?_
        refine GW.val 4 rfl (by kernel_rfl) (by kernel_rfl) (by kernel_rfl) rfl rfl hS (fun w' hS' => EX.sliceFH (j := 100) Tryz.underlying9 rfl rfl (by omega)) ?_
        refine GW.val 5 rfl (by kernel_rfl) (by kernel_rfl) (by kernel_rfl) rfl rfl hS (fun w' hS' => EX.fieldAddr (off := 1) Tryz.underlying23 rfl rfl ti9 rfl rfl) ?_
        refine GW.val 6 rfl (by kernel_rfl) (by kernel_rfl) (by kernel_rfl) rfl rfl hS (fun w' hS' => EX.load Tryz.underlying9 rfl rfl (hS'.2.cell_of rfl)) ?_
        refine GW.call 1 rfl (by kernel_rfl) rfl rfl rfl (c2 _) ?_
        rintro _ w6 ⟨rfl, hx6⟩
        refine ⟨⟨hS.1.trans hx6, hS.2.ext hx6⟩, fun hS => ?_⟩
        refine GW.call 7 rfl (by kernel_rfl) rfl rfl rfl (c3 _) ?_
        rintro _ w7 ⟨rfl, hx7⟩
        refine ⟨⟨hS.1.trans hx7, hS.2.ext hx7⟩, fun hS => ?_⟩
        refine GW.val 8 rfl (by kernel_rfl) (by kernel_rfl) (by kernel_rfl) rfl rfl hS (fun w' hS' => EX.addS rfl rfl (by first | omega | (simp only [List.length_append, List.length_cons, List.length_nil, List.length_take, List.length_drop, List.length_replicate]; omega))) ?_
        refine GW.val 9 rfl (by kernel_rfl) (by kernel_rfl) (by kernel_rfl) rfl rfl hS (fun w' hS' => EX.assign rfl) ?_
        refine GW.val 10 rfl (by kernel_rfl) (by kernel_rfl) (by kernel_rfl) rfl rfl hS (fun w' hS' => EX.assign rfl) ?_
        refine GW.done (by kernel_rfl) ?_
        refine KW.ret (ret2 rfl rfl rfl ?_)
        rw [e, e2]
        exact ⟨rfl, hS.1⟩
end Go.Proofs.YtjgeoeeikfjmdaaGreatDoor
/- tar: any file's sectors, any files packed: the statements against the document's answer. -/
namespace Go.Proofs.YtjgeoeeikfjmdaaGreatDoor
set_option linter.unnecessarySimpa false
open Go.ChangeShapes Go.WideShapes Go.ChangeAt Go.RowKit Go.Deep Fld Ust Pax Pth Tar
set_option linter.unusedVariables false
set_option linter.unusedSimpArgs false

set_option maxRecDepth 20000 in
theorem rpack_s (l : List En) (hl : hv l ≤ 40000) (A : Option Addr) (c B : Nat) (w : World) (hs : Sl w B A (ensV l)) :
    Ret Tryz.prog 13 [.slice A l.length c] w fun v w' => v = .tuple #[str (packT l).1, .int .i64 (((packT l).2 : Nat) : Int)] ∧ Ext w w' := by
  have hll := hv_len l
  have hld := light_data hl
  refine Ret.enter Tryz.func13 rfl Tryz.ntmps13 (by kernel_rfl) rfl ?_
  refine KW.seq (KW.region ?_)
  refine OW.val rfl rfl (EX.assign rfl) ?_
  refine OW.val rfl rfl (EX.assign rfl) ?_
  refine OW.nil ?_
  refine KW.seq (KW.seq (KW.region ?_))
  refine OW.val rfl rfl (EX.assign rfl) ?_
  refine OW.nil ?_
  refine KW.cut1 (fun (wr : World) => okL l ∧ Ext w wr) (fun (wr : World) => [(0, .slice A l.length c)]) (fun (wr : World) => wr) ?_ ?_
  · refine KW.block ?_
    refine KW.loop2 (fun (i : Nat) (wr : World) => i ≤ l.length ∧ okL (l.take i) ∧ Ext w wr) (fun (i : Nat) (wr : World) => [(0, .slice A l.length c), (4, .int .i64 ((i : Nat) : Int))]) (fun (i : Nat) (wr : World) => wr) (fun (i : Nat) (wr : World) => l.length - i) (0) (w) ⟨rfl, rfl, trivial⟩ rfl ?_ ?_
    · exact ⟨Nat.zero_le _, fun x hx => by simp at hx, Ext.refl _⟩
    · rintro i wr ⟨hi, hok, hx⟩
      refine KW.seq (KW.seq (KW.region ?_))
      refine OW.val rfl rfl (EX.move rfl) ?_
      refine OW.val rfl rfl (EX.move rfl) ?_
      refine OW.val rfl rfl (EX.lenA Tryz.underlying31 rfl) ?_
      refine OW.val rfl rfl (by first | exact EX.lssN rfl rfl | exact EX.lssZ rfl rfl) ?_
      refine OW.nil ?_
      refine KW.condD rfl (fun hlt => ?_) (fun hlt => ?_)
      · obtain ⟨b, o, rfl, _, hcell⟩ := (hs.ext hx).flat (c := 2) (fun _ => rfl) (by decide) hlt
        have hsn : l.take (i + 1) = l.take i ++ [l[i]] := (List.take_append_getElem hlt).symm
        have hxd := hld l[i] (List.getElem_mem hlt)
        have hat := fun h => errT_at hlt hok h
        generalize hx0 : l[i] = x at hcell hsn hxd hat
        refine KW.skip (KW.seq (KW.block (KW.seq (KW.seq (KW.region ?_)))))
        refine OW.val rfl rfl (EX.move rfl) ?_
        refine OW.val rfl rfl (EX.move rfl) ?_
        refine OW.val rfl rfl (EX.indexAddrS Tryz.underlying31 ti23 rfl rfl (by omega)) ?_
        refine OW.val rfl rfl (EX.fieldAddr (off := 0) Tryz.underlying23 rfl rfl ti9 rfl rfl) ?_
        refine OW.val rfl rfl (EX.load Tryz.underlying9 rfl rfl (hcell 0 _ rfl)) ?_
        refine OW.call rfl rfl rfl (rcheck_s x.path (by omega) wr) ?_
        rintro _ w2 ⟨rfl, hx2⟩
        refine OW.val rfl rfl (by first | exact EX.neqN (b := 0) rfl rfl | exact EX.neqZ rfl rfl) ?_
        refine OW.nil ?_
        have x2 := hx.trans hx2
        refine KW.condD rfl (fun hc => ?_) (fun hc => ?_)
        · have e : entE x = ([], 140) := by unfold entE; rw [if_pos (by omega)]
          have e2 : packT l = ([], 140) := by
            unfold packT
            rw [hat (by rw [e]; decide), e, if_pos (by decide)]
          refine KW.seq (KW.region ?_)
          refine OW.val rfl rfl (EX.assign rfl) ?_
          refine OW.val rfl rfl (EX.assign rfl) ?_
          refine OW.nil ?_
          refine KW.ret (ret2 rfl rfl rfl ?_)
          rw [e2]
          exact ⟨rfl, x2⟩
        · obtain ⟨b', o', hbo, _, hcell2⟩ := (hs.ext x2).flat (i := i) (c := 2) (fun _ => rfl) (by decide) hlt
          cases hbo
          rw [hx0] at hcell2
          refine KW.skip (KW.seq (KW.region ?_))
          refine OW.val rfl rfl (EX.move rfl) ?_
          refine OW.val rfl rfl (EX.move rfl) ?_
          refine OW.val rfl rfl (EX.indexAddrS Tryz.underlying31 ti23 rfl rfl (by omega)) ?_
          refine OW.val rfl rfl (EX.fieldAddr (off := 1) Tryz.underlying23 rfl rfl ti9 rfl rfl) ?_
          refine OW.val rfl rfl (EX.load Tryz.underlying9 rfl rfl (hcell2 1 _ rfl)) ?_
          refine OW.val rfl rfl (EX.lenS Tryz.underlying9 rfl) ?_
          refine OW.val rfl rfl (by first | exact EX.gtrN (b := 262144) rfl rfl | exact EX.gtrZ rfl rfl) ?_
          refine OW.nil ?_
          refine KW.condD rfl (fun hbig => ?_) (fun hbig => ?_)
          · omega
          · refine KW.skip (KW.leave (KW.region ?_))
            refine OW.val rfl rfl (EX.move rfl) ?_
            refine OW.val rfl rfl (by first | exact EX.addN (b := 1) (m := 9223372036854775807) rfl rfl rfl (by omega) | exact EX.addZ (m := 9223372036854775807) rfl rfl rfl rfl (by omega)) ?_
            refine OW.val rfl rfl (EX.assign rfl) ?_
            refine OW.nil ?_
            refine KW.back2 (i + 1) (w2) ⟨rfl, rfl, trivial⟩ rfl ?_ (by omega)
            refine ⟨by omega, fun y hy => ?_, x2⟩
            rw [hsn] at hy
            rcases List.mem_append.1 hy with hy | hy
            · exact hok y hy
            · simp only [List.mem_singleton] at hy
              subst hy
              exact ⟨by omega, by omega⟩
      · obtain rfl : i = l.length := by omega
        rw [List.take_length] at hok
        refine KW.exit rfl ?_
        refine KW.meet1 (wr) ⟨rfl, trivial⟩ rfl ?_
        exact ⟨hok, hx⟩
  · rintro wr ⟨hok, hx⟩
    have e : packT l = (catT l ++ nul 1024, 0) := packT_good hok
    have hct : ∀ i, (catT (l.take i)).length ≤ 120000 := fun i => by
      have h1 := cat_le (l.take i) (fun x hx => hok x (List.mem_of_mem_take hx))
      have h2 := hv_take l i
      omega
    refine KW.seq (KW.region ?_)
    refine OW.val rfl rfl (EX.assign rfl) ?_
    refine OW.nil ?_
    refine KW.seq (KW.seq (KW.region ?_))
    refine OW.val rfl rfl (EX.assign rfl) ?_
    refine OW.nil ?_
    refine KW.cut1 (fun (wr : World) => Ext w wr) (fun (wr : World) => [(0, .slice A l.length c), (5, str ((catT l)))]) (fun (wr : World) => wr) ?_ ?_
    · refine KW.block ?_
      refine KW.loop2 (fun (i : Nat) (wr : World) => i ≤ l.length ∧ Ext w wr) (fun (i : Nat) (wr : World) => [(0, .slice A l.length c), (5, str ((catT (l.take i)))), (6, .int .i64 ((i : Nat) : Int))]) (fun (i : Nat) (wr : World) => wr) (fun (i : Nat) (wr : World) => l.length - i) (0) (wr) ⟨rfl, rfl, rfl, trivial⟩ rfl ?_ ?_
      · exact ⟨Nat.zero_le _, hx⟩
      · rintro i wr ⟨hi, hx⟩
        have hc1 := hct i
        have hc2 := hct (i + 1)
        refine KW.seq (KW.seq (KW.region ?_))
        refine OW.val rfl rfl (EX.move rfl) ?_
        refine OW.val rfl rfl (EX.move rfl) ?_
        refine OW.val rfl rfl (EX.lenA Tryz.underlying31 rfl) ?_
        refine OW.val rfl rfl (by first | exact EX.lssN rfl rfl | exact EX.lssZ rfl rfl) ?_
        refine OW.nil ?_
        refine KW.condD rfl (fun hlt => ?_) (fun hlt => ?_)
        · obtain ⟨b, o, rfl, _, hcell⟩ := (hs.ext hx).flat (c := 2) (fun _ => rfl) (by decide) hlt
          have hsn : l.take (i + 1) = l.take i ++ [l[i]] := (List.take_append_getElem hlt).symm
          have hxd := hld l[i] (List.getElem_mem hlt)
          have hxo := hok l[i] (List.getElem_mem hlt)
          generalize l[i] = x at hcell hsn hxd hxo
          have hcs : catT (l.take (i + 1)) = catT (l.take i) ++ entT x := by rw [hsn, catT_snoc]
          have hel := ent_len hxo.1 hxo.2
          have c1 := rentry_s x (by omega) (by omega) wr
          have hee : entE x = (entT x, 0) := by unfold entE; rw [if_neg (by omega), if_neg (by omega)]
          rw [hee] at c1
          simp only at c1
          rw [hcs] at hc2
          refine KW.skip (KW.seq (KW.block (KW.seq (KW.region ?_))))
          refine OW.val rfl rfl (EX.move rfl) ?_
          refine OW.val rfl rfl (EX.move rfl) ?_
          refine OW.val rfl rfl (EX.indexAddrS Tryz.underlying31 ti23 rfl rfl (by omega)) ?_
          refine OW.val rfl rfl (EX.loadA (l := x.cells) Tryz.underlying23 rfl ti23 rfl rfl hcell) ?_
          refine OW.call rfl rfl rfl (c1) ?_
          rintro _ w2 ⟨rfl, hx2⟩
          refine OW.val rfl rfl (EX.move rfl) ?_
          refine OW.val rfl rfl (EX.extract rfl rfl) ?_
          refine OW.val rfl rfl (EX.extract rfl rfl) ?_
          refine OW.val rfl rfl (EX.assign rfl) ?_
          refine OW.val rfl rfl (EX.assign rfl) ?_
          refine OW.nil ?_
          refine KW.seq (KW.region ?_)
          refine OW.val rfl rfl (EX.move rfl) ?_
          refine OW.val rfl rfl (EX.move rfl) ?_
          refine OW.val rfl rfl (EX.addS rfl rfl (by first | omega | (simp only [List.length_append, List.length_cons, List.length_nil, List.length_take, List.length_drop, List.length_replicate]; omega))) ?_
          refine OW.val rfl rfl (EX.assign rfl) ?_
          refine OW.nil ?_
          refine KW.seq (KW.region ?_)
          refine OW.val rfl rfl (EX.move rfl) ?_
          refine OW.val rfl rfl (EX.lenS Tryz.underlying9 rfl) ?_
          refine OW.val rfl rfl (by first | exact EX.addN (b := 1024) (m := 9223372036854775807) rfl rfl rfl (by omega) | exact EX.addZ (m := 9223372036854775807) rfl rfl rfl rfl (by omega)) ?_
          refine OW.val rfl rfl (by first | exact EX.gtrN (b := 524288) rfl rfl | exact EX.gtrZ rfl rfl) ?_
          refine OW.nil ?_
          refine KW.as 5 (str ((catT (l.take (i + 1))))) rfl (congrArg str hcs.symm) ?_
          refine KW.condD rfl (fun hbig => ?_) (fun hbig => ?_)
          · omega
          · refine KW.skip (KW.leave (KW.region ?_))
            refine OW.val rfl rfl (EX.move rfl) ?_
            refine OW.val rfl rfl (by first | exact EX.addN (b := 1) (m := 9223372036854775807) rfl rfl rfl (by omega) | exact EX.addZ (m := 9223372036854775807) rfl rfl rfl rfl (by omega)) ?_
            refine OW.val rfl rfl (EX.assign rfl) ?_
            refine OW.nil ?_
            refine KW.back2 (i + 1) (w2) ⟨rfl, rfl, rfl, trivial⟩ rfl ?_ (by omega)
            exact ⟨by omega, hx.trans hx2⟩
        · obtain rfl : i = l.length := by omega
          refine KW.exit rfl ?_
          refine KW.as 5 (str ((catT l))) rfl (by rw [List.take_length]) ?_
          refine KW.meet1 (wr) ⟨rfl, rfl, trivial⟩ rfl ?_
          exact hx
    · rintro wr hx
      have hc1 := hct l.length
      rw [List.take_length] at hc1
      refine KW.seq (KW.region ?_)
      refine OW.val rfl rfl (EX.move rfl) ?_
      refine OW.makeB (len := 1024) rfl rfl Tryz.underlying55 ti5 rfl rfl rfl (by omega) (by omega) ?_
      rintro gb w2 hge2 hg2 hx2
      rw [show List.replicate 1024 (Value.int .u8 0) = bytesV (nul 1024) from (bytesV_nul 1024).symm] at hg2
      have hnl : (nul 1024).length = 1024 := nul_len _
      refine OW.val rfl rfl (EX.strOf Tryz.underlying55 Tryz.underlying5 Tryz.underlying9 rfl (hg2.sl) (nul_len _)) ?_
      refine OW.val rfl rfl (EX.addS rfl rfl (by first | omega | (simp only [List.length_append, List.length_cons, List.length_nil, List.length_take, List.length_drop, List.length_replicate]; omega))) ?_
      refine OW.val rfl rfl (EX.assign rfl) ?_
      refine OW.val rfl rfl (EX.assign rfl) ?_
      refine OW.nil ?_
      refine KW.ret (ret2 rfl rfl rfl ?_)
      rw [e]
      exact ⟨rfl, hx.trans hx2⟩
set_option maxRecDepth 20000 in
theorem tarEntries_s (x : En) (hx : x.path.length ≤ 1048576 ∧ x.data.length ≤ 1048576) (w : World) (ht : Tab w) (hm : ∃ m : Int, w.cell? ⟨0, 0, none⟩ = some (.int .i64 m)) :
    Ret Tryz.prog 3 [.agg x.cells.toArray] w fun v w' => v = .bool true ∧ Ext w w' := by
  have hG : Env w := ⟨ht, hm⟩
  have bye : ∀ w', Ext w w' → Ret Tryz.prog 8 [] w' fun v w'' => v = .bool true ∧ Ext w w'' := fun w' hx => (awake18_s w' (hG.ext hx)).mono fun _ _ h => ⟨h.1, hx.trans h.2⟩
  obtain ⟨hxp, hxd⟩ := hx
  refine Ret.enter Tryz.func3 rfl Tryz.ntmps3 (by kernel_rfl) rfl ?_
  refine KW.seq (KW.region ?_)
  refine OW.boxS rfl rfl rfl ?_
  rintro xb w1 hge1 hb1 hx1
  refine OW.val rfl rfl (EX.assign rfl) ?_
  refine OW.nil ?_
  refine KW.seq (KW.seq ?_)
  replace hb1 : Bk w1 xb 23 x.cells := hb1
  refine KW.cut1 (fun (_u : Unit) => True) (fun (_u : Unit) => [(1, .pointer (some ⟨xb, 0, none⟩)), (16, .bool (decide (40000 < x.data.length ∧ x.data.length ≤ 262144)))]) (fun (_u : Unit) => w1) ?_ ?_
  · refine KW.region ?_
    refine OW.val rfl rfl (EX.fieldAddr (off := 1) Tryz.underlying23 rfl rfl ti9 rfl rfl) ?_
    refine OW.val rfl rfl (EX.load Tryz.underlying9 rfl rfl (hb1.cell_of rfl)) ?_
    refine OW.val rfl rfl (EX.lenS Tryz.underlying9 rfl) ?_
    refine OW.val rfl rfl (by first | exact EX.gtrN (b := 40000) rfl rfl | exact EX.gtrZ rfl rfl) ?_
    refine OW.val rfl rfl (EX.move rfl) ?_
    refine OW.splitD 11 rfl (fun h1 => ?_) (fun h1 => ?_)
    · refine OW.val rfl rfl (EX.fieldAddr (off := 1) Tryz.underlying23 rfl rfl ti9 rfl rfl) ?_
      refine OW.val rfl rfl (EX.load Tryz.underlying9 rfl rfl (hb1.cell_of rfl)) ?_
      refine OW.val rfl rfl (EX.lenS Tryz.underlying9 rfl) ?_
      refine OW.val rfl rfl (by first | exact EX.leqN (b := 262144) rfl rfl | exact EX.leqZ rfl rfl) ?_
      refine OW.val rfl rfl (EX.pickT rfl rfl) ?_
      refine OW.nil ?_
      refine KW.as 16 (.bool (decide (40000 < x.data.length ∧ x.data.length ≤ 262144))) rfl (congrArg Value.bool (decide_eq_decide.2 (by omega))) ?_
      refine KW.meet1 (()) ⟨rfl, rfl, trivial⟩ rfl ?_
      trivial
    · refine OW.pass rfl rfl ?_
      refine OW.pass rfl rfl ?_
      refine OW.pass rfl rfl ?_
      refine OW.pass rfl rfl ?_
      refine OW.val rfl rfl (EX.pickF rfl rfl) ?_
      refine OW.nil ?_
      refine KW.as 16 (.bool (decide (40000 < x.data.length ∧ x.data.length ≤ 262144))) rfl (congrArg Value.bool (decide_eq_false (by omega)).symm) ?_
      refine KW.meet1 (()) ⟨rfl, rfl, trivial⟩ rfl ?_
      trivial
  · rintro _ _
    refine KW.condD rfl (fun hmid => ?_) (fun hmid => ?_)
    · refine KW.seq (KW.region ?_)
      refine OW.call rfl rfl rfl (bye w1 hx1) ?_
      rintro _ w2 ⟨rfl, hx2⟩
      refine OW.val rfl rfl (EX.assign rfl) ?_
      refine OW.nil ?_
      refine KW.ret (ret1 rfl rfl ?_)
      exact ⟨rfl, hx2⟩
    · have c1 := entry_s x (by omega) (by omega) w1 (hG.ext hx1)
      have c2 := fun w => rentry_s x (by omega) (by omega) w
      generalize (entE x).1 = et at c1 c2
      generalize (entE x).2 = ee at c1 c2
      refine KW.skip (KW.seq (KW.region ?_))
      refine OW.val rfl rfl (EX.loadBk Tryz.underlying23 rfl ti23 rfl (hb1) (rfl)) ?_
      refine OW.call rfl rfl rfl (c1) ?_
      rintro _ w2 ⟨rfl, hx2⟩
      refine OW.val rfl rfl (EX.move rfl) ?_
      refine OW.val rfl rfl (EX.extract rfl rfl) ?_
      refine OW.val rfl rfl (EX.extract rfl rfl) ?_
      refine OW.val rfl rfl (EX.assign rfl) ?_
      refine OW.val rfl rfl (EX.assign rfl) ?_
      refine OW.nil ?_
      refine KW.seq (KW.region ?_)
      have hb2 := hb1.ext hx2
      refine OW.val rfl rfl (EX.loadBk Tryz.underlying23 rfl ti23 rfl (hb2) (rfl)) ?_
      refine OW.call rfl rfl rfl (c2 w2) ?_
      rintro _ w3 ⟨rfl, hx3⟩
      refine OW.val rfl rfl (EX.move rfl) ?_
      refine OW.val rfl rfl (EX.extract rfl rfl) ?_
      refine OW.val rfl rfl (EX.extract rfl rfl) ?_
      refine OW.val rfl rfl (EX.assign rfl) ?_
      refine OW.val rfl rfl (EX.assign rfl) ?_
      refine OW.nil ?_
      refine KW.seq ?_
      have x3 := (hx1.trans hx2).trans hx3
      refine KW.region ?_
      refine OW.val rfl rfl (EX.move rfl) ?_
      refine OW.val rfl rfl (EX.move rfl) ?_
      refine OW.val rfl rfl (EX.eqlS rfl rfl) ?_
      refine OW.val rfl rfl (EX.move rfl) ?_
      refine OW.as 31 (.bool true) rfl (congrArg Value.bool (decide_eq_true (rfl))) ?_
      refine OW.val rfl rfl (EX.move rfl) ?_
      refine OW.val rfl rfl (EX.move rfl) ?_
      refine OW.val rfl rfl (by first | exact EX.eqlN rfl rfl | exact EX.eqlZ rfl rfl) ?_
      refine OW.val rfl rfl (EX.pickT rfl rfl) ?_
      refine OW.val rfl rfl (EX.move rfl) ?_
      refine OW.as 36 (.bool true) rfl (congrArg Value.bool (decide_eq_true (rfl))) ?_
      refine OW.call rfl rfl rfl (bye w3 x3) ?_
      rintro _ w4 ⟨rfl, hx4⟩
      refine OW.val rfl rfl (EX.pickT rfl rfl) ?_
      refine OW.val rfl rfl (EX.assign rfl) ?_
      refine OW.nil ?_
      refine KW.ret (ret1 rfl rfl ?_)
      exact ⟨rfl, hx4⟩
set_option maxRecDepth 20000 in
theorem tarPacks_s (l : List En) (hl : (∀ x ∈ l, EnOk x) ∧ l.length ≤ 140737488355328) (A : Option Addr) (c : Nat) (w : World) (B : Nat) (hs : Sl w B A (ensV l)) (ht : Tab w) (hm : ∃ m : Int, w.cell? ⟨0, 0, none⟩ = some (.int .i64 m)) :
    Ret Tryz.prog 4 [.slice A l.length c] w fun v w' => v = .bool true ∧ Ext w w' := by
  have hG : Env w := ⟨ht, hm⟩
  have c0 := light_s l hl.1 hl.2 A c B w hs
  have bye : ∀ w', Ext w w' → Ret Tryz.prog 8 [] w' fun v w'' => v = .bool true ∧ Ext w w'' := fun w' hx => (awake18_s w' (hG.ext hx)).mono fun _ _ h => ⟨h.1, hx.trans h.2⟩
  refine Ret.enter Tryz.func4 rfl Tryz.ntmps4 (by kernel_rfl) rfl ?_
  refine KW.seq (KW.region ?_)
  refine OW.val rfl rfl (EX.assign rfl) ?_
  refine OW.nil ?_
  refine KW.seq (KW.seq (KW.region ?_))
  refine OW.val rfl rfl (EX.move rfl) ?_
  rcases Decidable.em (hv l ≤ 40000) with hlight | hlight
  · rw [decide_eq_true hlight] at c0
    refine OW.call rfl rfl rfl (c0) ?_
    rintro _ w1 ⟨rfl, hx1⟩
    refine OW.val rfl rfl (by first | exact EX.notD rfl | exact EX.notB rfl) ?_
    refine OW.nil ?_
    refine KW.condF rfl (KW.skip (KW.seq (KW.region ?_)))
    refine OW.val rfl rfl (EX.move rfl) ?_
    have c1 := pack_s l hlight A c B w1 (hG.ext hx1) (hs.ext hx1)
    have c2 := fun w hs => rpack_s l hlight A c B w hs
    generalize (packT l).1 = pt at c1 c2
    generalize (packT l).2 = pe at c1 c2
    refine OW.call rfl rfl rfl (c1) ?_
    rintro _ w2 ⟨rfl, hx2⟩
    refine OW.val rfl rfl (EX.move rfl) ?_
    refine OW.val rfl rfl (EX.extract rfl rfl) ?_
    refine OW.val rfl rfl (EX.extract rfl rfl) ?_
    refine OW.val rfl rfl (EX.assign rfl) ?_
    refine OW.val rfl rfl (EX.assign rfl) ?_
    refine OW.nil ?_
    refine KW.seq (KW.region ?_)
    refine OW.val rfl rfl (EX.move rfl) ?_
    have x2 := hx1.trans hx2
    refine OW.call rfl rfl rfl (c2 w2 (hs.ext x2)) ?_
    rintro _ w3 ⟨rfl, hx3⟩
    refine OW.val rfl rfl (EX.move rfl) ?_
    refine OW.val rfl rfl (EX.extract rfl rfl) ?_
    refine OW.val rfl rfl (EX.extract rfl rfl) ?_
    refine OW.val rfl rfl (EX.assign rfl) ?_
    refine OW.val rfl rfl (EX.assign rfl) ?_
    refine OW.nil ?_
    refine KW.seq ?_
    refine KW.region ?_
    refine OW.val rfl rfl (EX.move rfl) ?_
    refine OW.val rfl rfl (EX.move rfl) ?_
    refine OW.val rfl rfl (EX.eqlS rfl rfl) ?_
    refine OW.val rfl rfl (EX.move rfl) ?_
    refine OW.as 24 (.bool true) rfl (congrArg Value.bool (decide_eq_true (rfl))) ?_
    refine OW.val rfl rfl (EX.move rfl) ?_
    refine OW.val rfl rfl (EX.move rfl) ?_
    refine OW.val rfl rfl (by first | exact EX.eqlN rfl rfl | exact EX.eqlZ rfl rfl) ?_
    refine OW.val rfl rfl (EX.pickT rfl rfl) ?_
    refine OW.val rfl rfl (EX.move rfl) ?_
    refine OW.as 29 (.bool true) rfl (congrArg Value.bool (decide_eq_true (rfl))) ?_
    refine OW.call rfl rfl rfl (bye w3 (x2.trans hx3)) ?_
    rintro _ w4 ⟨rfl, hx4⟩
    refine OW.val rfl rfl (EX.pickT rfl rfl) ?_
    refine OW.val rfl rfl (EX.assign rfl) ?_
    refine OW.nil ?_
    refine KW.ret (ret1 rfl rfl ?_)
    exact ⟨rfl, hx4⟩
  · rw [decide_eq_false hlight] at c0
    refine OW.call rfl rfl rfl (c0) ?_
    rintro _ w1 ⟨rfl, hx1⟩
    refine OW.val rfl rfl (by first | exact EX.notD rfl | exact EX.notB rfl) ?_
    refine OW.nil ?_
    refine KW.condT rfl (KW.seq (KW.region ?_))
    refine OW.call rfl rfl rfl (bye w1 hx1) ?_
    rintro _ w2 ⟨rfl, hx2⟩
    refine OW.val rfl rfl (EX.assign rfl) ?_
    refine OW.nil ?_
    refine KW.ret (ret1 rfl rfl ?_)
    exact ⟨rfl, hx2⟩
section
variable {H : Type} {enc : TypeId × Value → H} {W : World} {base : Nat} {v : Value} {d : DataW H} {p : List MemPlace} {r : Reach} {b0 : Nat}
set_option maxRecDepth 20000 in
theorem openU_Entry (hval : Value.okWide Tryz.prog W r b0 23 v) (hd : DataW.Trod enc Tryz.prog W base (fun _ => true) true 23 v d p) (hb : Rows.uptoBulk d ≤ 1048576) : ∃ a : En, v = .agg a.cells.toArray ∧ (a.path.length ≤ 1048576 ∧ a.data.length ≤ 1048576) := by
  obtain ⟨⟨l⟩, rfl, hs⟩ := okWide_struct Tryz.underlying23 hval
  obtain ⟨fuel, hf⟩ := hd
  obtain ⟨a, h1, xs, h2, h3, h4⟩ := en_shape fuel _ _ hf
  simp only [Value.cells] at h1
  simp only at h2
  refine ⟨a, by rw [← h1], ?_⟩
  rw [h2] at hb
  match xs, h3, h4 with
  | [], h3, _ => cases h3
  | [_], _, h4 => cases h4
  | y :: z :: xs, h3, h4 =>
    simp only [List.getElem?_cons_zero, List.getElem?_cons_succ, Option.some.injEq] at h3 h4
    subst h3 h4
    simp only [Rows.uptoBulk, Rows.uptoBulkAll] at hb
    omega
end
end Go.Proofs.YtjgeoeeikfjmdaaGreatDoor
