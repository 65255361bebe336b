/-
  What the statements rest on, part 4 of 7: many small texts, one behind the other.
-/
import Derived.Test.YtjgeoeeikfjmdaaGreatDoorMrgC
import Derived.Scope
import Derived.RangeFuncFrom
import Derived.RangeFuncLeaves
import Derived.RangeFuncCalls
import Derived.RangeFuncBound
/- ustar: headers are laid, by the document. -/
namespace Go.Proofs.YtjgeoeeikfjmdaaGreatDoor
set_option linter.unnecessarySimpa false
open Go.RowKit Fld Ust
set_option linter.unusedVariables false
set_option linter.unusedSimpArgs false

theorem RetQ.of {P : Program} {f : FuncId} {args : List Value} {w : World} {v : Value} (h : Ret P f args w fun v' w' => v' = v ∧ w = w') : RetQ P f args w v :=
  h.mono fun _ _ ⟨h1, h2⟩ => ⟨h1, 0, by subst h2; rfl⟩
theorem rlaid_s (s : List UInt8) (hs : s.length ≤ 140737488355328) (n : Nat) (hn : n ≤ 512) (h : mayT s n) (w : World) :
    Ret Tryz.prog 79 [str s, .int .i64 ((n : Nat) : Int)] w fun v w' => v = str (lay s n) ∧ w = w' := by
  have c := refText_s s hs (n : Int) (by omega) (by omega) w
  have h1 := h.1
  rw [text_yes (by omega) (by rw [not_or, Classical.not_not]; exact ⟨by omega, cut_none h.2⟩)] at c
  refine Ret.enter Tryz.func79 rfl Tryz.ntmps79 (by kernel_rfl) rfl ?_
  refine KW.seq (KW.region ?_)
  refine OW.val rfl rfl (EX.assign rfl) ?_
  refine OW.nil ?_
  refine KW.seq (KW.region ?_)
  refine OW.val rfl rfl (EX.move rfl) ?_
  refine OW.val rfl rfl (EX.move rfl) ?_
  refine OW.call rfl rfl rfl (c) ?_
  rintro _ _ ⟨rfl, rfl⟩
  refine OW.val rfl rfl (EX.move rfl) ?_
  refine OW.val rfl rfl (EX.extract rfl rfl) ?_
  refine OW.val rfl rfl (EX.extract rfl rfl) ?_
  refine OW.val rfl rfl (EX.assign rfl) ?_
  refine OW.val rfl rfl (EX.assign rfl) ?_
  refine OW.nil ?_
  refine KW.seq (KW.region ?_)
  refine OW.val rfl rfl (EX.move rfl) ?_
  refine OW.val rfl rfl (EX.assign rfl) ?_
  refine OW.nil ?_
  refine KW.ret (ret1 rfl rfl ?_)
  exact ⟨rfl, rfl⟩
theorem rnumber_s (n : Int) (k : Nat) (hk : 1 ≤ k) (hk2 : k ≤ 19) (m : Int) (h : mayN n m) (hm : m < ((8 ^ k : Nat) : Int)) (w : World) :
    Ret Tryz.prog 80 [.int .i64 n, .int .i64 ((k + 1 : Nat) : Int)] w fun v w' => v = str (oc n k) ∧ w = w' := by
  have h63 : m ≤ 9223372036854775807 := by
    have : (8 ^ k : Nat) ≤ 8 ^ 19 := Nat.pow_le_pow_right (by decide) hk2
    have h2 : (8 : Nat) ^ 20 = 1152921504606846976 := by decide
    have h3 : (8 ^ 19 : Nat) ≤ 1152921504606846976 := by decide
    omega
  have c := refOctal_s n (by have := h.1; omega) (by have := h.2; omega) ((k + 1 : Nat) : Int) (by omega) (by omega) w
  rw [octal_may hk hk2 h hm] at c
  refine Ret.enter Tryz.func80 rfl Tryz.ntmps80 (by kernel_rfl) rfl ?_
  refine KW.seq (KW.region ?_)
  refine OW.val rfl rfl (EX.assign rfl) ?_
  refine OW.nil ?_
  refine KW.seq (KW.region ?_)
  refine OW.val rfl rfl (EX.move rfl) ?_
  refine OW.val rfl rfl (EX.move rfl) ?_
  refine OW.call rfl rfl rfl (c) ?_
  rintro _ _ ⟨rfl, rfl⟩
  refine OW.val rfl rfl (EX.move rfl) ?_
  refine OW.val rfl rfl (EX.extract rfl rfl) ?_
  refine OW.val rfl rfl (EX.extract rfl rfl) ?_
  refine OW.val rfl rfl (EX.assign rfl) ?_
  refine OW.val rfl rfl (EX.assign rfl) ?_
  refine OW.nil ?_
  refine KW.seq (KW.region ?_)
  refine OW.val rfl rfl (EX.move rfl) ?_
  refine OW.val rfl rfl (EX.assign rfl) ?_
  refine OW.nil ?_
  refine KW.ret (ret1 rfl rfl ?_)
  exact ⟨rfl, rfl⟩
/-- what the document asks of a head -/
def MayR (h : Hd) : Prop := May h ∧ h.path.length ≤ 1099511627776
instance (h : Hd) : Decidable (MayR h) := by unfold MayR; infer_instance
def txts (h : Hd) : List (List UInt8) := [h.path, h.link, h.n0, h.n1]
def mosts : List Nat := [1099511627776, 100, 31, 31]
def smalls (h : Hd) : List Int := [h.mode, h.i0, h.i1]
theorem mayR_of {h : Hd} (hk : mayK h.kind) (ht : ∀ j, j < 4 → ∀ t m, (txts h)[j]? = some t → mosts[j]? = some m → mayT t m) (hs : ∀ j, j < 3 → ∀ n, (smalls h)[j]? = some n → mayN n 2097151) (h1 : mayN h.size 8589934591) (h2 : mayN h.time 8589934591) : MayR h :=
  ⟨⟨hk, (ht 0 (by decide) _ _ rfl rfl).2, ht 1 (by decide) _ _ rfl rfl, ht 2 (by decide) _ _ rfl rfl, ht 3 (by decide) _ _ rfl rfl, hs 0 (by decide) _ rfl, hs 1 (by decide) _ rfl, hs 2 (by decide) _ rfl, h1, h2⟩, (ht 0 (by decide) _ _ rfl rfl).1⟩
theorem mayR_txt {h : Hd} (hm : MayR h) : ∀ j, j < 4 → ∀ t m, (txts h)[j]? = some t → mosts[j]? = some m → mayT t m := by
  intro j hj t m ht hm'
  have : j = 0 ∨ j = 1 ∨ j = 2 ∨ j = 3 := by omega
  rcases this with rfl | rfl | rfl | rfl <;> cases ht <;> cases hm'
  · exact ⟨hm.2, hm.1.path⟩
  · exact hm.1.link
  · exact hm.1.n0
  · exact hm.1.n1
theorem mayR_small {h : Hd} (hm : MayR h) : ∀ j, j < 3 → ∀ n, (smalls h)[j]? = some n → mayN n 2097151 := by
  intro j hj n hn
  have : j = 0 ∨ j = 1 ∨ j = 2 := by omega
  rcases this with rfl | rfl | rfl <;> cases hn
  · exact hm.1.mode
  · exact hm.1.i0
  · exact hm.1.i1
set_option maxRecDepth 20000 in
theorem rmay_s (h : Hd) (ho : h.Ok) (w : World) : Ret Tryz.prog 78 [.agg h.cells.toArray] w fun v w' => v = .bool (decide (MayR h)) ∧ Ext w w' := by
  have hk := ho.kind
  have o1 := ho.path
  have o2 := ho.link
  have o3 := ho.n0
  have o4 := ho.n1
  have q1 := ho.size
  have q2 := ho.mode
  have q3 := ho.time
  have q4 := ho.i0
  have q5 := ho.i1
  unfold I64 at q1 q2 q3 q4 q5
  have hlen : ∀ t ∈ txts h, t.length ≤ 140737488351232 := by
    intro t ht
    simp only [txts, List.mem_cons, List.not_mem_nil, or_false] at ht
    rcases ht with rfl | rfl | rfl | rfl <;> assumption
  have hsml : ∀ n ∈ smalls h, -9223372036854775808 ≤ n ∧ n ≤ 9223372036854775807 := by
    intro n hn
    simp only [smalls, List.mem_cons, List.not_mem_nil, or_false] at hn
    rcases hn with rfl | rfl | rfl <;> assumption
  have hml : ∀ m ∈ mosts, m ≤ 1099511627776 := by decide
  have no : ¬ MayR h → ∀ w', Ext w w' → (Value.bool false = .bool (decide (MayR h)) ∧ Ext w w') := fun hn w' hx => ⟨congrArg Value.bool (decide_eq_false hn).symm, hx⟩
  refine Ret.enter Tryz.func78 rfl Tryz.ntmps78 (by kernel_rfl) rfl ?_
  refine KW.seq (KW.region ?_)
  refine OW.boxS rfl rfl rfl ?_
  rintro hb w0 hge0 hb0 hx0
  refine OW.val rfl rfl (EX.assign rfl) ?_
  refine OW.nil ?_
  refine KW.seq (KW.seq ?_)
  replace hb0 : Bk w0 hb 72 h.cells := hb0
  refine KW.cutd1 (fun (_u : Unit) => mayK h.kind) (fun (_u : Unit) => [(1, .pointer (some ⟨hb, 0, none⟩))]) (fun (_u : Unit) => w0) ?_ ?_
  · refine KW.region ?_
    refine OW.val rfl rfl (EX.fieldAddr (off := 2) Tryz.underlying72 rfl rfl ti5 rfl rfl) ?_
    refine OW.val rfl rfl (EX.load Tryz.underlying5 rfl rfl (hb0.cell_of rfl)) ?_
    refine OW.val rfl rfl (by first | exact EX.neqN (b := 48) rfl rfl | exact EX.neqZ rfl rfl) ?_
    refine OW.val rfl rfl (EX.move rfl) ?_
    refine OW.splitD 11 rfl (fun k1 => ?_) (fun k1 => ?_)
    · refine OW.val rfl rfl (EX.fieldAddr (off := 2) Tryz.underlying72 rfl rfl ti5 rfl rfl) ?_
      refine OW.val rfl rfl (EX.load Tryz.underlying5 rfl rfl (hb0.cell_of rfl)) ?_
      refine OW.val rfl rfl (by first | exact EX.neqN (b := 53) rfl rfl | exact EX.neqZ rfl rfl) ?_
      refine OW.val rfl rfl (EX.pickT rfl rfl) ?_
      refine OW.val rfl rfl (EX.move rfl) ?_
      refine OW.splitD 16 rfl (fun k2 => ?_) (fun k2 => ?_)
      · refine OW.val rfl rfl (EX.fieldAddr (off := 2) Tryz.underlying72 rfl rfl ti5 rfl rfl) ?_
        refine OW.val rfl rfl (EX.load Tryz.underlying5 rfl rfl (hb0.cell_of rfl)) ?_
        refine OW.val rfl rfl (by first | exact EX.neqN (b := 120) rfl rfl | exact EX.neqZ rfl rfl) ?_
        refine OW.val rfl rfl (EX.pickT rfl rfl) ?_
        refine OW.val rfl rfl (EX.move rfl) ?_
        refine OW.splitD 21 rfl (fun k3 => ?_) (fun k3 => ?_)
        · refine OW.val rfl rfl (EX.fieldAddr (off := 2) Tryz.underlying72 rfl rfl ti5 rfl rfl) ?_
          refine OW.val rfl rfl (EX.load Tryz.underlying5 rfl rfl (hb0.cell_of rfl)) ?_
          refine OW.val rfl rfl (by first | exact EX.neqN (b := 103) rfl rfl | exact EX.neqZ rfl rfl) ?_
          refine OW.val rfl rfl (EX.pickT rfl rfl) ?_
          refine OW.nil ?_
          refine KW.condD rfl (fun k4 => ?_) (fun k4 => ?_)
          · refine KW.seq (KW.region ?_)
            refine OW.val rfl rfl (EX.assign rfl) ?_
            refine OW.nil ?_
            refine KW.ret (ret1 rfl rfl ?_)
            exact no (fun hm => by have := hm.1.kind; unfold mayK at this; omega) _ hx0
          · refine KW.skip ?_
            refine KW.meet1 (()) ⟨rfl, trivial⟩ rfl ?_
            unfold mayK; omega
        · refine OW.pass rfl rfl ?_
          refine OW.pass rfl rfl ?_
          refine OW.pass rfl rfl ?_
          refine OW.val rfl rfl (EX.pickF rfl rfl) ?_
          refine OW.nil ?_
          refine KW.condF rfl (KW.skip ?_)
          refine KW.meet1 (()) ⟨rfl, trivial⟩ rfl ?_
          unfold mayK; omega
      · refine OW.pass rfl rfl ?_
        refine OW.pass rfl rfl ?_
        refine OW.pass rfl rfl ?_
        refine OW.val rfl rfl (EX.pickF rfl rfl) ?_
        refine OW.val rfl rfl (EX.move rfl) ?_
        refine OW.pass rfl rfl ?_
        refine OW.pass rfl rfl ?_
        refine OW.pass rfl rfl ?_
        refine OW.val rfl rfl (EX.pickF rfl rfl) ?_
        refine OW.nil ?_
        refine KW.condF rfl (KW.skip ?_)
        refine KW.meet1 (()) ⟨rfl, trivial⟩ rfl ?_
        unfold mayK; omega
    · refine OW.pass rfl rfl ?_
      refine OW.pass rfl rfl ?_
      refine OW.pass rfl rfl ?_
      refine OW.val rfl rfl (EX.pickF rfl rfl) ?_
      refine OW.val rfl rfl (EX.move rfl) ?_
      refine OW.pass rfl rfl ?_
      refine OW.pass rfl rfl ?_
      refine OW.pass rfl rfl ?_
      refine OW.val rfl rfl (EX.pickF rfl rfl) ?_
      refine OW.val rfl rfl (EX.move rfl) ?_
      refine OW.pass rfl rfl ?_
      refine OW.pass rfl rfl ?_
      refine OW.pass rfl rfl ?_
      refine OW.val rfl rfl (EX.pickF rfl rfl) ?_
      refine OW.nil ?_
      refine KW.condF rfl (KW.skip ?_)
      refine KW.meet1 (()) ⟨rfl, trivial⟩ rfl ?_
      unfold mayK; omega
  · rintro _ hkind
    refine KW.seq (KW.region ?_)
    refine OW.val rfl rfl (EX.fieldAddr (off := 0) Tryz.underlying72 rfl rfl ti9 rfl rfl) ?_
    refine OW.val rfl rfl (EX.load Tryz.underlying9 rfl rfl (hb0.cell_of rfl)) ?_
    refine OW.val rfl rfl (EX.fieldAddr (off := 5) Tryz.underlying72 rfl rfl ti9 rfl rfl) ?_
    refine OW.val rfl rfl (EX.load Tryz.underlying9 rfl rfl (hb0.cell_of rfl)) ?_
    refine OW.val rfl rfl (EX.fieldAddr (off := 6) Tryz.underlying72 rfl rfl ti69 rfl rfl) ?_
    refine OW.val rfl rfl (by first | exact EX.indexAddrA0 (i := 0) Tryz.underlying69 ti9 rfl rfl (by omega) | exact EX.indexAddrA1 (i := 0) Tryz.underlying69 ti9 rfl rfl (by omega)) ?_
    refine OW.val rfl rfl (EX.load Tryz.underlying9 rfl rfl (hb0.cell_of rfl)) ?_
    refine OW.val rfl rfl (EX.fieldAddr (off := 6) Tryz.underlying72 rfl rfl ti69 rfl rfl) ?_
    refine OW.val rfl rfl (by first | exact EX.indexAddrA0 (i := 1) Tryz.underlying69 ti9 rfl rfl (by omega) | exact EX.indexAddrA1 (i := 1) Tryz.underlying69 ti9 rfl rfl (by omega)) ?_
    refine OW.val rfl rfl (EX.load Tryz.underlying9 rfl rfl (hb0.cell_of rfl)) ?_
    refine OW.buildB 4 rfl rfl Tryz.underlying81 ti9 rfl rfl rfl rfl (by first | rfl | (simp only [List.all_cons, List.all_nil, Bool.and_true, Bool.and_eq_true]; assumption)) (by decide) ?_
    rintro tb w1 hge1 ht1 hx1
    refine OW.val rfl rfl (EX.assign rfl) ?_
    refine OW.nil ?_
    refine KW.seq (KW.region ?_)
    refine OW.buildB 4 rfl rfl Tryz.underlying130 ti3 rfl rfl rfl rfl (by first | rfl | (simp only [List.all_cons, List.all_nil, Bool.and_true, Bool.and_eq_true]; assumption)) (by decide) ?_
    rintro mb w2 hge2 hm2 hx2
    refine OW.val rfl rfl (EX.assign rfl) ?_
    refine OW.nil ?_
    refine KW.seq (KW.seq (KW.region ?_))
    refine OW.val rfl rfl (EX.assign rfl) ?_
    refine OW.nil ?_
    have hb2 := (hb0.ext hx1).ext hx2
    have ht2 : Bk w2 tb 9 ((txts h).map str) := ht1.ext hx2
    replace hm2 : Bk w2 mb 3 (mosts.map fun (x : Nat) => Value.int .i64 (x : Int)) := hm2
    have x2 := (hx0.trans hx1).trans hx2
    refine KW.cut1 (fun (wr : World) => (∀ j, j < 4 → ∀ t m, (txts h)[j]? = some t → mosts[j]? = some m → mayT t m) ∧ Ext w2 wr) (fun (wr : World) => [(1, .pointer (some ⟨hb, 0, none⟩))]) (fun (wr : World) => wr) ?_ ?_
    · refine KW.block ?_
      refine KW.loop2 (fun (i : Nat) (wr : World) => i ≤ 4 ∧ (∀ j, j < i → ∀ t m, (txts h)[j]? = some t → mosts[j]? = some m → mayT t m) ∧ Ext w2 wr) (fun (i : Nat) (wr : World) => [(1, .pointer (some ⟨hb, 0, none⟩)), (3, .slice (some ⟨tb, 0, none⟩) 4 4), (4, .slice (some ⟨mb, 0, none⟩) 4 4), (5, .int .i64 ((i : Nat) : Int))]) (fun (i : Nat) (wr : World) => wr) (fun (i : Nat) (wr : World) => 4 - i) (0) (w2) ⟨rfl, rfl, rfl, rfl, trivial⟩ rfl ?_ ?_
      · exact ⟨by omega, fun j hj => by omega, Ext.refl _⟩
      · rintro i wr ⟨hi, hj, hx⟩
        refine KW.seq (KW.seq (KW.region ?_))
        refine OW.val rfl rfl (EX.move rfl) ?_
        refine OW.val rfl rfl (by first | exact EX.lssN (b := 4) rfl rfl | exact EX.lssZ rfl rfl) ?_
        refine OW.nil ?_
        refine KW.condD rfl (fun hlt => ?_) (fun hlt => ?_)
        · have ht3 := ht2.ext hx
          have hm3 := hm2.ext hx
          obtain ⟨t, et⟩ : ∃ t, (txts h)[i]? = some t := ⟨_, List.getElem?_eq_getElem (by simpa [txts] using hlt)⟩
          obtain ⟨m, em⟩ : ∃ m, mosts[i]? = some m := ⟨_, List.getElem?_eq_getElem (by simpa [mosts] using hlt)⟩
          have ct : ((txts h).map str)[i]? = some (str t) := by rw [List.getElem?_map, et]; rfl
          have cm : (mosts.map fun (x : Nat) => Value.int .i64 (x : Int))[i]? = some (.int .i64 (m : Int)) := by rw [List.getElem?_map, em]; rfl
          have lt := hlen t (List.mem_of_getElem? et)
          have lm := hml m (List.mem_of_getElem? em)
          refine KW.skip (KW.seq (KW.block (KW.seq ?_)))
          refine KW.regionQ (by kernel_rfl) (by kernel_rfl) ?_
          refine QW.val rfl rfl (fun _ => EX.move rfl) ?_
          refine QW.val rfl rfl (fun _ => EX.move rfl) ?_
          refine QW.val rfl rfl (fun _ => by first | exact EX.indexAddrS0 Tryz.underlying81 ti9 rfl rfl (by omega) | exact EX.indexAddrS1 Tryz.underlying81 ti9 rfl rfl (by omega)) ?_
          refine QW.val rfl rfl (fun _ => EX.load Tryz.underlying9 rfl rfl (ht3.cell_of ct)) ?_
          refine QW.val rfl rfl (fun _ => EX.lenS Tryz.underlying9 rfl) ?_
          refine QW.val rfl rfl (fun _ => EX.move rfl) ?_
          refine QW.val rfl rfl (fun _ => EX.move rfl) ?_
          refine QW.val rfl rfl (fun _ => by first | exact EX.indexAddrS0 Tryz.underlying130 ti3 rfl rfl (by omega) | exact EX.indexAddrS1 Tryz.underlying130 ti3 rfl rfl (by omega)) ?_
          refine QW.val rfl rfl (fun _ => EX.load Tryz.underlying3 rfl rfl (hm3.cell_of cm)) ?_
          refine QW.val rfl rfl (fun _ => by first | exact EX.gtrN rfl rfl | exact EX.gtrZ rfl rfl) ?_
          refine QW.val rfl rfl (fun _ => EX.move rfl) ?_
          refine QW.splitD 52 rfl (fun a1 => ?_) (fun a1 => ?_)
          · refine QW.pass rfl rfl ?_
            refine QW.pass rfl rfl ?_
            refine QW.pass rfl rfl ?_
            refine QW.pass rfl rfl ?_
            refine QW.pass rfl rfl ?_
            refine QW.pass rfl rfl ?_
            refine QW.pass rfl rfl ?_
            refine QW.pass rfl rfl ?_
            refine QW.pass rfl rfl ?_
            refine QW.pass rfl rfl ?_
            refine QW.val rfl rfl (fun _ => EX.pickT rfl rfl) ?_
            refine QW.nil (fun nq => ?_)
            refine KW.condT rfl (KW.seq (KW.region ?_))
            refine OW.val rfl rfl (EX.assign rfl) ?_
            refine OW.nil ?_
            refine KW.ret (ret1 rfl rfl ?_)
            exact no (fun hm => by have := (mayR_txt hm i hlt t m et em).1; omega) _ (x2.trans (hx.trans (Ext.drewN wr nq)))
          · refine QW.val rfl rfl (fun _ => EX.move rfl) ?_
            refine QW.val rfl rfl (fun _ => EX.move rfl) ?_
            refine QW.val rfl rfl (fun _ => by first | exact EX.indexAddrS0 Tryz.underlying81 ti9 rfl rfl (by omega) | exact EX.indexAddrS1 Tryz.underlying81 ti9 rfl rfl (by omega)) ?_
            refine QW.val rfl rfl (fun _ => EX.load Tryz.underlying9 rfl rfl (ht3.cell_of ct)) ?_
            refine QW.call rfl rfl rfl (fun _ => RetQ.of (refCut_s t (by omega) _)) ?_
            refine QW.val rfl rfl (fun _ => EX.move rfl) ?_
            refine QW.val rfl rfl (fun _ => EX.move rfl) ?_
            refine QW.val rfl rfl (fun _ => by first | exact EX.indexAddrS0 Tryz.underlying81 ti9 rfl rfl (by omega) | exact EX.indexAddrS1 Tryz.underlying81 ti9 rfl rfl (by omega)) ?_
            refine QW.val rfl rfl (fun _ => EX.load Tryz.underlying9 rfl rfl (ht3.cell_of ct)) ?_
            refine QW.val rfl rfl (fun _ => EX.neqS rfl rfl) ?_
            refine QW.val rfl rfl (fun _ => EX.pickF rfl rfl) ?_
            refine QW.nil (fun nq => ?_)
            refine KW.condD rfl (fun a2 => ?_) (fun a2 => ?_)
            · refine KW.seq (KW.region ?_)
              refine OW.val rfl rfl (EX.assign rfl) ?_
              refine OW.nil ?_
              refine KW.ret (ret1 rfl rfl ?_)
              exact no (fun hm => a2 ((cut_eq_iff t).2 (mayR_txt hm i hlt t m et em).2)) _ (x2.trans (hx.trans (Ext.drewN wr nq)))
            · refine KW.skip (KW.leave (KW.region ?_))
              refine OW.val rfl rfl (EX.move rfl) ?_
              refine OW.val rfl rfl (by first | exact EX.addN (b := 1) (m := 9223372036854775807) rfl rfl rfl (by omega) | exact EX.addZ (m := 9223372036854775807) rfl rfl rfl rfl (by omega)) ?_
              refine OW.val rfl rfl (EX.assign rfl) ?_
              refine OW.nil ?_
              refine KW.back2 (i + 1) (wr.drewN nq) ⟨rfl, rfl, rfl, rfl, trivial⟩ rfl ?_ (by omega)
              refine ⟨by omega, fun j hj2 t' m' et' em' => ?_, hx.trans (Ext.drewN wr nq)⟩
              by_cases e : j = i
              · subst e
                rw [et] at et'
                rw [em] at em'
                cases et'
                cases em'
                exact ⟨by omega, (cut_eq_iff t).1 (Classical.not_not.1 a2)⟩
              · exact hj j (by omega) t' m' et' em'
        · obtain rfl : i = 4 := by omega
          refine KW.exit rfl ?_
          refine KW.meet1 (wr) ⟨rfl, trivial⟩ rfl ?_
          exact ⟨hj, hx⟩
    · rintro wr ⟨htx, hxr⟩
      have hbr := hb2.ext hxr
      have xr := x2.trans hxr
      refine KW.seq (KW.region ?_)
      refine OW.val rfl rfl (EX.fieldAddr (off := 3) Tryz.underlying72 rfl rfl ti3 rfl rfl) ?_
      refine OW.val rfl rfl (EX.load Tryz.underlying3 rfl rfl (hbr.cell_of rfl)) ?_
      refine OW.val rfl rfl (EX.fieldAddr (off := 8) Tryz.underlying72 rfl rfl ti70 rfl rfl) ?_
      refine OW.val rfl rfl (by first | exact EX.indexAddrA0 (i := 0) Tryz.underlying70 ti3 rfl rfl (by omega) | exact EX.indexAddrA1 (i := 0) Tryz.underlying70 ti3 rfl rfl (by omega)) ?_
      refine OW.val rfl rfl (EX.load Tryz.underlying3 rfl rfl (hbr.cell_of rfl)) ?_
      refine OW.val rfl rfl (EX.fieldAddr (off := 8) Tryz.underlying72 rfl rfl ti70 rfl rfl) ?_
      refine OW.val rfl rfl (by first | exact EX.indexAddrA0 (i := 1) Tryz.underlying70 ti3 rfl rfl (by omega) | exact EX.indexAddrA1 (i := 1) Tryz.underlying70 ti3 rfl rfl (by omega)) ?_
      refine OW.val rfl rfl (EX.load Tryz.underlying3 rfl rfl (hbr.cell_of rfl)) ?_
      refine OW.buildB 3 rfl rfl Tryz.underlying130 ti3 rfl rfl rfl rfl (by first | rfl | (simp only [List.all_cons, List.all_nil, Bool.and_true, Bool.and_eq_true]; assumption)) (by decide) ?_
      rintro sb w3 hge3 hs3 hx3
      refine OW.val rfl rfl (EX.assign rfl) ?_
      refine OW.nil ?_
      refine KW.seq (KW.seq (KW.region ?_))
      refine OW.val rfl rfl (EX.assign rfl) ?_
      refine OW.nil ?_
      replace hs3 : Bk w3 sb 3 ((smalls h).map fun (x : Int) => Value.int .i64 x) := hs3
      have hb3 := hbr.ext hx3
      have x3 := xr.trans hx3
      refine KW.cut1 (fun (_u : Unit) => (∀ j, j < 3 → ∀ n, (smalls h)[j]? = some n → mayN n 2097151)) (fun (_u : Unit) => [(1, .pointer (some ⟨hb, 0, none⟩))]) (fun (_u : Unit) => w3) ?_ ?_
      · refine KW.block ?_
        refine KW.loop1 (fun (i : Nat) => i ≤ 3 ∧ (∀ j, j < i → ∀ n, (smalls h)[j]? = some n → mayN n 2097151)) (fun (i : Nat) => [(1, .pointer (some ⟨hb, 0, none⟩)), (6, .slice (some ⟨sb, 0, none⟩) 3 3), (7, .int .i64 ((i : Nat) : Int))]) (fun (i : Nat) => w3) (fun (i : Nat) => 3 - i) (0) ⟨rfl, rfl, rfl, trivial⟩ rfl ?_ ?_
        · exact ⟨by omega, fun j hj => by omega⟩
        · rintro i ⟨hi, hj⟩
          refine KW.seq (KW.seq (KW.region ?_))
          refine OW.val rfl rfl (EX.move rfl) ?_
          refine OW.val rfl rfl (by first | exact EX.lssN (b := 3) rfl rfl | exact EX.lssZ rfl rfl) ?_
          refine OW.nil ?_
          refine KW.condD rfl (fun hlt => ?_) (fun hlt => ?_)
          · obtain ⟨n, en⟩ : ∃ n, (smalls h)[i]? = some n := ⟨_, List.getElem?_eq_getElem (by simpa [smalls] using hlt)⟩
            have cn : ((smalls h).map fun (x : Int) => Value.int .i64 x)[i]? = some (.int .i64 n) := by rw [List.getElem?_map, en]; rfl
            have hn := hsml n (List.mem_of_getElem? en)
            refine KW.skip (KW.seq (KW.block (KW.seq ?_)))
            refine KW.region ?_
            refine OW.val rfl rfl (EX.move rfl) ?_
            refine OW.val rfl rfl (EX.move rfl) ?_
            refine OW.val rfl rfl (by first | exact EX.indexAddrS0 Tryz.underlying130 ti3 rfl rfl (by omega) | exact EX.indexAddrS1 Tryz.underlying130 ti3 rfl rfl (by omega)) ?_
            refine OW.val rfl rfl (EX.load Tryz.underlying3 rfl rfl (hs3.cell_of cn)) ?_
            refine OW.val rfl rfl (by first | exact EX.lssN (b := 0) rfl rfl | exact EX.lssZ rfl rfl) ?_
            refine OW.val rfl rfl (EX.move rfl) ?_
            refine OW.splitD 82 rfl (fun a1 => ?_) (fun a1 => ?_)
            · refine OW.pass rfl rfl ?_
              refine OW.pass rfl rfl ?_
              refine OW.pass rfl rfl ?_
              refine OW.pass rfl rfl ?_
              refine OW.pass rfl rfl ?_
              refine OW.val rfl rfl (EX.pickT rfl rfl) ?_
              refine OW.nil ?_
              refine KW.condT rfl (KW.seq (KW.region ?_))
              refine OW.val rfl rfl (EX.assign rfl) ?_
              refine OW.nil ?_
              refine KW.ret (ret1 rfl rfl ?_)
              exact no (fun hm => by have := (mayR_small hm i hlt n en).1; omega) _ x3
            · refine OW.val rfl rfl (EX.move rfl) ?_
              refine OW.val rfl rfl (EX.move rfl) ?_
              refine OW.val rfl rfl (by first | exact EX.indexAddrS0 Tryz.underlying130 ti3 rfl rfl (by omega) | exact EX.indexAddrS1 Tryz.underlying130 ti3 rfl rfl (by omega)) ?_
              refine OW.val rfl rfl (EX.load Tryz.underlying3 rfl rfl (hs3.cell_of cn)) ?_
              refine OW.val rfl rfl (by first | exact EX.gtrN (b := 2097151) rfl rfl | exact EX.gtrZ rfl rfl) ?_
              refine OW.val rfl rfl (EX.pickF rfl rfl) ?_
              refine OW.nil ?_
              refine KW.condD rfl (fun a2 => ?_) (fun a2 => ?_)
              · refine KW.seq (KW.region ?_)
                refine OW.val rfl rfl (EX.assign rfl) ?_
                refine OW.nil ?_
                refine KW.ret (ret1 rfl rfl ?_)
                exact no (fun hm => by have := (mayR_small hm i hlt n en).2; omega) _ x3
              · refine KW.skip (KW.leave (KW.region ?_))
                refine OW.val rfl rfl (EX.move rfl) ?_
                refine OW.val rfl rfl (by first | exact EX.addN (b := 1) (m := 9223372036854775807) rfl rfl rfl (by omega) | exact EX.addZ (m := 9223372036854775807) rfl rfl rfl rfl (by omega)) ?_
                refine OW.val rfl rfl (EX.assign rfl) ?_
                refine OW.nil ?_
                refine KW.back1 (i + 1) ⟨rfl, rfl, rfl, trivial⟩ rfl ?_ (by omega)
                refine ⟨by omega, fun j hj2 n' en' => ?_⟩
                by_cases e : j = i
                · subst e
                  rw [en] at en'
                  cases en'
                  exact ⟨by omega, by omega⟩
                · exact hj j (by omega) n' en'
          · obtain rfl : i = 3 := by omega
            refine KW.exit rfl ?_
            refine KW.meet1 (()) ⟨rfl, trivial⟩ rfl ?_
            exact hj
      · rintro _ hsm
        have fin : ∀ (q : Bool), (q = true ↔ mayN h.size 8589934591 ∧ mayN h.time 8589934591) → (Value.bool q = .bool (decide (MayR h)) ∧ Ext w w3) := fun q hq => by
          refine ⟨congrArg Value.bool ?_, x3⟩
          rw [Bool.eq_iff_iff, hq, decide_eq_true_eq]
          exact ⟨fun ⟨a, b⟩ => mayR_of hkind htx hsm a b, fun hm => ⟨hm.1.size, hm.1.time⟩⟩
        refine KW.seq ?_
        refine KW.region ?_
        refine OW.val rfl rfl (EX.fieldAddr (off := 1) Tryz.underlying72 rfl rfl ti3 rfl rfl) ?_
        refine OW.val rfl rfl (EX.load Tryz.underlying3 rfl rfl (hb3.cell_of rfl)) ?_
        refine OW.val rfl rfl (by first | exact EX.geqN (b := 0) rfl rfl | exact EX.geqZ rfl rfl) ?_
        refine OW.val rfl rfl (EX.move rfl) ?_
        refine OW.splitD 92 rfl (fun c1 => ?_) (fun c1 => ?_)
        · refine OW.val rfl rfl (EX.fieldAddr (off := 1) Tryz.underlying72 rfl rfl ti3 rfl rfl) ?_
          refine OW.val rfl rfl (EX.load Tryz.underlying3 rfl rfl (hb3.cell_of rfl)) ?_
          refine OW.val rfl rfl (by first | exact EX.leqN (b := 8589934591) rfl rfl | exact EX.leqZ rfl rfl) ?_
          refine OW.val rfl rfl (EX.pickT rfl rfl) ?_
          refine OW.val rfl rfl (EX.move rfl) ?_
          refine OW.splitD 97 rfl (fun c2 => ?_) (fun c2 => ?_)
          · refine OW.val rfl rfl (EX.fieldAddr (off := 4) Tryz.underlying72 rfl rfl ti3 rfl rfl) ?_
            refine OW.val rfl rfl (EX.load Tryz.underlying3 rfl rfl (hb3.cell_of rfl)) ?_
            refine OW.val rfl rfl (by first | exact EX.geqN (b := 0) rfl rfl | exact EX.geqZ rfl rfl) ?_
            refine OW.val rfl rfl (EX.pickT rfl rfl) ?_
            refine OW.val rfl rfl (EX.move rfl) ?_
            refine OW.splitD 102 rfl (fun c3 => ?_) (fun c3 => ?_)
            · refine OW.val rfl rfl (EX.fieldAddr (off := 4) Tryz.underlying72 rfl rfl ti3 rfl rfl) ?_
              refine OW.val rfl rfl (EX.load Tryz.underlying3 rfl rfl (hb3.cell_of rfl)) ?_
              refine OW.val rfl rfl (by first | exact EX.leqN (b := 8589934591) rfl rfl | exact EX.leqZ rfl rfl) ?_
              refine OW.val rfl rfl (EX.pickT rfl rfl) ?_
              refine OW.val rfl rfl (EX.assign rfl) ?_
              refine OW.nil ?_
              refine KW.ret (ret1 rfl rfl ?_)
              exact fin _ (by rw [decide_eq_true_eq]; unfold mayN; omega)
            · refine OW.pass rfl rfl ?_
              refine OW.pass rfl rfl ?_
              refine OW.pass rfl rfl ?_
              refine OW.val rfl rfl (EX.pickF rfl rfl) ?_
              refine OW.val rfl rfl (EX.assign rfl) ?_
              refine OW.nil ?_
              refine KW.ret (ret1 rfl rfl ?_)
              exact fin _ (by unfold mayN; simp; omega)
          · refine OW.pass rfl rfl ?_
            refine OW.pass rfl rfl ?_
            refine OW.pass rfl rfl ?_
            refine OW.val rfl rfl (EX.pickF rfl rfl) ?_
            refine OW.val rfl rfl (EX.move rfl) ?_
            refine OW.pass rfl rfl ?_
            refine OW.pass rfl rfl ?_
            refine OW.pass rfl rfl ?_
            refine OW.val rfl rfl (EX.pickF rfl rfl) ?_
            refine OW.val rfl rfl (EX.assign rfl) ?_
            refine OW.nil ?_
            refine KW.ret (ret1 rfl rfl ?_)
            exact fin _ (by unfold mayN; simp; omega)
        · refine OW.pass rfl rfl ?_
          refine OW.pass rfl rfl ?_
          refine OW.pass rfl rfl ?_
          refine OW.val rfl rfl (EX.pickF rfl rfl) ?_
          refine OW.val rfl rfl (EX.move rfl) ?_
          refine OW.pass rfl rfl ?_
          refine OW.pass rfl rfl ?_
          refine OW.pass rfl rfl ?_
          refine OW.val rfl rfl (EX.pickF rfl rfl) ?_
          refine OW.val rfl rfl (EX.move rfl) ?_
          refine OW.pass rfl rfl ?_
          refine OW.pass rfl rfl ?_
          refine OW.pass rfl rfl ?_
          refine OW.val rfl rfl (EX.pickF rfl rfl) ?_
          refine OW.val rfl rfl (EX.assign rfl) ?_
          refine OW.nil ?_
          refine KW.ret (ret1 rfl rfl ?_)
          exact fin _ (by unfold mayN; simp; omega)
theorem lay_nil (n : Nat) : lay [] n = nul n := by simp [lay]
set_option maxRecDepth 20000 in
theorem rencode_s (h : Hd) (ho : h.Ok) (w : World) : Ret Tryz.prog 49 [.agg h.cells.toArray] w fun v w' => v = .tuple #[str (encH h).1, .int .i64 (((encH h).2 : Nat) : Int)] ∧ Ext w w' := by
  have hk := ho.kind
  have hpl := ho.path
  refine Ret.enter Tryz.func49 rfl Tryz.ntmps49 (by kernel_rfl) rfl ?_
  refine KW.seq (KW.region ?_)
  refine OW.boxS rfl rfl rfl ?_
  rintro hb w0 hge0 hb0 hx0
  refine OW.val rfl rfl (EX.assign rfl) ?_
  refine OW.val rfl rfl (EX.assign rfl) ?_
  refine OW.nil ?_
  refine KW.seq (KW.region ?_)
  refine OW.val rfl rfl (EX.fieldAddr (off := 0) Tryz.underlying72 rfl rfl ti9 rfl rfl) ?_
  replace hb0 : Bk w0 hb 72 h.cells := hb0
  refine OW.val rfl rfl (EX.load Tryz.underlying9 rfl rfl (hb0.cell_of rfl)) ?_
  refine OW.call rfl rfl rfl (rsplit_s h.path (by omega) w0) ?_
  rintro _ w1 ⟨r, rfl, hr, hx1⟩
  refine OW.val rfl rfl (EX.move rfl) ?_
  refine OW.val rfl rfl (EX.extract rfl rfl) ?_
  refine OW.val rfl rfl (EX.extract rfl rfl) ?_
  refine OW.val rfl rfl (EX.extract rfl rfl) ?_
  refine OW.val rfl rfl (EX.assign rfl) ?_
  refine OW.val rfl rfl (EX.assign rfl) ?_
  refine OW.val rfl rfl (EX.assign rfl) ?_
  refine OW.nil ?_
  refine KW.seq (KW.seq ?_)
  obtain rfl := split_val hr
  have x1 := hx0.trans hx1
  have hb1 := hb0.ext hx1
  rcases hs1 : (splitP h.path).2.2 with _ | _
  · skip
    have e : encH h = ([], 140) := by unfold encH; rw [if_pos (.inl hs1)]
    refine KW.region ?_
    refine OW.val rfl rfl (EX.move rfl) ?_
    refine OW.val rfl rfl (by first | exact EX.notD rfl | exact EX.notB rfl) ?_
    refine OW.val rfl rfl (EX.move rfl) ?_
    refine OW.pass rfl rfl ?_
    refine OW.pass rfl rfl ?_
    refine OW.pass rfl rfl ?_
    refine OW.val rfl rfl (EX.pickT rfl rfl) ?_
    refine OW.nil ?_
    refine KW.condT rfl (KW.seq (KW.region ?_))
    refine OW.val rfl rfl (EX.assign rfl) ?_
    refine OW.val rfl rfl (EX.assign rfl) ?_
    refine OW.nil ?_
    refine KW.ret (ret2 rfl rfl rfl ?_)
    rw [e]
    exact ⟨rfl, x1⟩
  · skip
    refine KW.region ?_
    refine OW.val rfl rfl (EX.move rfl) ?_
    refine OW.val rfl rfl (by first | exact EX.notD rfl | exact EX.notB rfl) ?_
    refine OW.val rfl rfl (EX.move rfl) ?_
    refine OW.val rfl rfl (EX.fieldAddr (off := 0) Tryz.underlying72 rfl rfl ti9 rfl rfl) ?_
    refine OW.val rfl rfl (EX.load Tryz.underlying9 rfl rfl (hb1.cell_of rfl)) ?_
    refine OW.val rfl rfl (EX.eqlS (r := []) rfl rfl) ?_
    refine OW.val rfl rfl (EX.pickF rfl rfl) ?_
    refine OW.nil ?_
    refine KW.condD rfl (fun hnil => ?_) (fun hnil => ?_)
    · have e : encH h = ([], 140) := by unfold encH; rw [if_pos (.inr hnil)]
      refine KW.seq (KW.region ?_)
      refine OW.val rfl rfl (EX.assign rfl) ?_
      refine OW.val rfl rfl (EX.assign rfl) ?_
      refine OW.nil ?_
      refine KW.ret (ret2 rfl rfl rfl ?_)
      rw [e]
      exact ⟨rfl, x1⟩
    · obtain ⟨p1, p2, p3, p4, p5, p6, p7⟩ := splitP_ok hs1 hnil
      have hno : ¬ ((splitP h.path).2.2 = false ∨ h.path = []) := by rw [hs1]; simp [hnil]
      have eno : ¬ May h → encH h = ([], 160) := fun hm => by unfold encH; rw [if_neg hno, if_neg hm]
      have eyes : May h → encH h = (hdText h, 0) := fun hm => by unfold encH; rw [if_neg hno, if_pos hm]
      refine KW.skip (KW.seq (KW.seq (KW.region ?_)))
      refine OW.val rfl rfl (EX.loadBk Tryz.underlying72 rfl ti72 rfl (hb1) (rfl)) ?_
      refine OW.call rfl rfl rfl (rmay_s h ho w1) ?_
      rintro _ w2 ⟨rfl, hx2⟩
      refine OW.val rfl rfl (by first | exact EX.notD rfl | exact EX.notB rfl) ?_
      refine OW.nil ?_
      have x2 := x1.trans hx2
      have hb2 := hb1.ext hx2
      refine KW.condD rfl (fun hmr => ?_) (fun hmr => ?_)
      · refine KW.seq (KW.region ?_)
        refine OW.val rfl rfl (EX.assign rfl) ?_
        refine OW.val rfl rfl (EX.assign rfl) ?_
        refine OW.nil ?_
        refine KW.ret (ret2 rfl rfl rfl ?_)
        rw [eno fun hm => hmr ⟨hm, by omega⟩]
        exact ⟨rfl, x2⟩
      · have hm : May h := (Classical.not_not.1 hmr).1
        have m1 : mayT (splitP h.path).2.1 100 := ⟨p1, fun z => hm.path (p5 _ z)⟩
        have m2 : mayT (splitP h.path).1 155 := ⟨p3, fun z => hm.path (p4 _ z)⟩
        have m3 : mayT h.n0 32 := ⟨by have := hm.n0.1; omega, hm.n0.2⟩
        have m4 : mayT h.n1 32 := ⟨by have := hm.n1.1; omega, hm.n1.2⟩
        have o2 := ho.link
        have o3 := ho.n0
        have o4 := ho.n1
        have b1 := lay_len p1
        have b2 : ∀ n k, (oc n k).length = k + 1 := oc_len
        have b3 := b2 h.mode 7
        have b4 := b2 h.i0 7
        have b5 := b2 h.i1 7
        have b6 := b2 h.size 11
        have b7 := b2 h.time 11
        refine KW.skip (KW.seq ?_)
        refine KW.cut1 (fun (wr : World) => Ext w wr ∧ Bk wr hb 72 h.cells) (fun (wr : World) => [(1, .pointer (some ⟨hb, 0, none⟩)), (4, str ((splitP h.path).1)), (7, str (lay (splitP h.path).2.1 100 ++ oc h.mode 7 ++ oc h.i0 7 ++ oc h.i1 7 ++ oc h.size 11 ++ oc h.time 11))]) (fun (wr : World) => wr) ?_ ?_
        · skip
          refine KW.regionG (N := 25) (fun w' => Ext w w' ∧ Bk w' hb 72 h.cells) (by kernel_rfl) rfl ?_
          have hS : (fun w' => Ext w w' ∧ Bk w' hb 72 h.cells) w2.drew := ⟨x2.trans (Ext.drew w2), hb2.drew⟩
          refine GW.val 0 rfl (by kernel_rfl) (by kernel_rfl) (by kernel_rfl) rfl rfl hS (fun w' hS' => EX.move rfl) ?_
          refine GW.val 2 rfl (by kernel_rfl) (by kernel_rfl) (by kernel_rfl) rfl rfl hS (fun w' hS' => EX.fieldAddr (off := 3) Tryz.underlying72 rfl rfl ti3 rfl rfl) ?_
          refine GW.val 3 rfl (by kernel_rfl) (by kernel_rfl) (by kernel_rfl) rfl rfl hS (fun w' hS' => EX.load Tryz.underlying3 rfl rfl (hS'.2.cell_of rfl)) ?_
          refine GW.val 6 rfl (by kernel_rfl) (by kernel_rfl) (by kernel_rfl) rfl rfl hS (fun w' hS' => EX.fieldAddr (off := 8) Tryz.underlying72 rfl rfl ti70 rfl rfl) ?_
          refine GW.val 7 rfl (by kernel_rfl) (by kernel_rfl) (by kernel_rfl) rfl rfl hS (fun w' hS' => by first | exact EX.indexAddrA0 (i := 0) Tryz.underlying70 ti3 rfl rfl (by omega) | exact EX.indexAddrA1 (i := 0) Tryz.underlying70 ti3 rfl rfl (by omega)) ?_
          refine GW.val 8 rfl (by kernel_rfl) (by kernel_rfl) (by kernel_rfl) rfl rfl hS (fun w' hS' => EX.load Tryz.underlying3 rfl rfl (hS'.2.cell_of rfl)) ?_
          refine GW.val 11 rfl (by kernel_rfl) (by kernel_rfl) (by kernel_rfl) rfl rfl hS (fun w' hS' => EX.fieldAddr (off := 8) Tryz.underlying72 rfl rfl ti70 rfl rfl) ?_
          refine GW.val 12 rfl (by kernel_rfl) (by kernel_rfl) (by kernel_rfl) rfl rfl hS (fun w' hS' => by first | exact EX.indexAddrA0 (i := 1) Tryz.underlying70 ti3 rfl rfl (by omega) | exact EX.indexAddrA1 (i := 1) Tryz.underlying70 ti3 rfl rfl (by omega)) ?_
          refine GW.val 13 rfl (by kernel_rfl) (by kernel_rfl) (by kernel_rfl) rfl rfl hS (fun w' hS' => EX.load Tryz.underlying3 rfl rfl (hS'.2.cell_of rfl)) ?_
          refine GW.val 16 rfl (by kernel_rfl) (by kernel_rfl) (by kernel_rfl) rfl rfl hS (fun w' hS' => EX.fieldAddr (off := 1) Tryz.underlying72 rfl rfl ti3 rfl rfl) ?_
          refine GW.val 17 rfl (by kernel_rfl) (by kernel_rfl) (by kernel_rfl) rfl rfl hS (fun w' hS' => EX.load Tryz.underlying3 rfl rfl (hS'.2.cell_of rfl)) ?_
          refine GW.val 20 rfl (by kernel_rfl) (by kernel_rfl) (by kernel_rfl) rfl rfl hS (fun w' hS' => EX.fieldAddr (off := 4) Tryz.underlying72 rfl rfl ti3 rfl rfl) ?_
          refine GW.val 21 rfl (by kernel_rfl) (by kernel_rfl) (by kernel_rfl) rfl rfl hS (fun w' hS' => EX.load Tryz.underlying3 rfl rfl (hS'.2.cell_of rfl)) ?_
          refine GW.call 1 rfl (by kernel_rfl) rfl rfl rfl (rlaid_s (splitP h.path).2.1 (by omega) 100 (by decide) m1 w2.drew) ?_
          rintro _ _ ⟨rfl, rfl⟩
          refine ⟨hS, fun hS => ?_⟩
          refine GW.call 4 rfl (by kernel_rfl) rfl rfl rfl (rnumber_s h.mode 7 (by decide) (by decide) _ hm.mode (by decide) w2.drew) ?_
          rintro _ _ ⟨rfl, rfl⟩
          refine ⟨hS, fun hS => ?_⟩
          refine GW.val 5 rfl (by kernel_rfl) (by kernel_rfl) (by kernel_rfl) rfl rfl hS (fun w' hS' => EX.addS rfl rfl (by first | omega | (simp only [List.length_append, List.length_cons, List.length_nil, List.length_take, List.length_drop, List.length_replicate]; omega))) ?_
          refine GW.call 9 rfl (by kernel_rfl) rfl rfl rfl (rnumber_s h.i0 7 (by decide) (by decide) _ hm.i0 (by decide) w2.drew) ?_
          rintro _ _ ⟨rfl, rfl⟩
          refine ⟨hS, fun hS => ?_⟩
          refine GW.val 10 rfl (by kernel_rfl) (by kernel_rfl) (by kernel_rfl) rfl rfl hS (fun w' hS' => EX.addS rfl rfl (by first | omega | (simp only [List.length_append, List.length_cons, List.length_nil, List.length_take, List.length_drop, List.length_replicate]; omega))) ?_
          refine GW.call 14 rfl (by kernel_rfl) rfl rfl rfl (rnumber_s h.i1 7 (by decide) (by decide) _ hm.i1 (by decide) w2.drew) ?_
          rintro _ _ ⟨rfl, rfl⟩
          refine ⟨hS, fun hS => ?_⟩
          refine GW.val 15 rfl (by kernel_rfl) (by kernel_rfl) (by kernel_rfl) rfl rfl hS (fun w' hS' => EX.addS rfl rfl (by first | omega | (simp only [List.length_append, List.length_cons, List.length_nil, List.length_take, List.length_drop, List.length_replicate]; omega))) ?_
          refine GW.call 18 rfl (by kernel_rfl) rfl rfl rfl (rnumber_s h.size 11 (by decide) (by decide) _ hm.size (by decide) w2.drew) ?_
          rintro _ _ ⟨rfl, rfl⟩
          refine ⟨hS, fun hS => ?_⟩
          refine GW.val 19 rfl (by kernel_rfl) (by kernel_rfl) (by kernel_rfl) rfl rfl hS (fun w' hS' => EX.addS rfl rfl (by first | omega | (simp only [List.length_append, List.length_cons, List.length_nil, List.length_take, List.length_drop, List.length_replicate]; omega))) ?_
          refine GW.call 22 rfl (by kernel_rfl) rfl rfl rfl (rnumber_s h.time 11 (by decide) (by decide) _ hm.time (by decide) w2.drew) ?_
          rintro _ _ ⟨rfl, rfl⟩
          refine ⟨hS, fun hS => ?_⟩
          refine GW.val 23 rfl (by kernel_rfl) (by kernel_rfl) (by kernel_rfl) rfl rfl hS (fun w' hS' => EX.addS rfl rfl (by first | omega | (simp only [List.length_append, List.length_cons, List.length_nil, List.length_take, List.length_drop, List.length_replicate]; omega))) ?_
          refine GW.val 24 rfl (by kernel_rfl) (by kernel_rfl) (by kernel_rfl) rfl rfl hS (fun w' hS' => EX.assign rfl) ?_
          refine GW.done (by kernel_rfl) ?_
          refine KW.meet1 w2.drew ⟨rfl, rfl, rfl, trivial⟩ rfl ?_
          exact hS
        · rintro wr ⟨xr, hbr⟩
          generalize hH : lay (splitP h.path).2.1 100 ++ oc h.mode 7 ++ oc h.i0 7 ++ oc h.i1 7 ++ oc h.size 11 ++ oc h.time 11 = H
          have hHf : (headL h (splitP h.path).2.1).flatten = H := by rw [← hH]; simp [headL]
          have hlH : H.length = 148 := by rw [← hHf, List.length_flatten, head_len h p1]; rfl
          have b8 := lay_len hm.link.1
          have b9 := lay_len m3.1
          have b10 := lay_len m4.1
          refine KW.seq ?_
          refine KW.cut1 (fun (wq : World) => Ext w wq) (fun (wq : World) => [(4, str ((splitP h.path).1)), (7, str (H ++ [32, 32, 32, 32, 32, 32, 32, 32] ++ [UInt8.ofNat h.kind] ++ lay h.link 100 ++ magic ++ lay h.n0 32 ++ lay h.n1 32))]) (fun (wq : World) => wq) ?_ ?_
          · skip
            refine KW.regionG (N := 23) (fun w' => Ext w w' ∧ Bk w' hb 72 h.cells) (by kernel_rfl) rfl ?_
            have hS : (fun w' => Ext w w' ∧ Bk w' hb 72 h.cells) wr.drew := ⟨xr.trans (Ext.drew wr), hbr.drew⟩
            refine GW.val 0 rfl (by kernel_rfl) (by kernel_rfl) (by kernel_rfl) rfl rfl hS (fun w' hS' => EX.move rfl) ?_
            refine GW.val 1 rfl (by kernel_rfl) (by kernel_rfl) (by kernel_rfl) rfl rfl hS (fun w' hS' => EX.addS (r := [32, 32, 32, 32, 32, 32, 32, 32]) rfl rfl (by first | omega | (simp only [List.length_append, List.length_cons, List.length_nil, List.length_take, List.length_drop, List.length_replicate]; omega))) ?_
            refine GW.val 2 rfl (by kernel_rfl) (by kernel_rfl) (by kernel_rfl) rfl rfl hS (fun w' hS' => EX.fieldAddr (off := 2) Tryz.underlying72 rfl rfl ti5 rfl rfl) ?_
            refine GW.val 3 rfl (by kernel_rfl) (by kernel_rfl) (by kernel_rfl) rfl rfl hS (fun w' hS' => EX.load Tryz.underlying5 rfl rfl (hS'.2.cell_of rfl)) ?_
            refine GW.val 7 rfl (by kernel_rfl) (by kernel_rfl) (by kernel_rfl) rfl rfl hS (fun w' hS' => EX.fieldAddr (off := 5) Tryz.underlying72 rfl rfl ti9 rfl rfl) ?_
            refine GW.val 8 rfl (by kernel_rfl) (by kernel_rfl) (by kernel_rfl) rfl rfl hS (fun w' hS' => EX.load Tryz.underlying9 rfl rfl (hS'.2.cell_of rfl)) ?_
            refine GW.val 12 rfl (by kernel_rfl) (by kernel_rfl) (by kernel_rfl) rfl rfl hS (fun w' hS' => EX.fieldAddr (off := 6) Tryz.underlying72 rfl rfl ti69 rfl rfl) ?_
            refine GW.val 13 rfl (by kernel_rfl) (by kernel_rfl) (by kernel_rfl) rfl rfl hS (fun w' hS' => by first | exact EX.indexAddrA0 (i := 0) Tryz.underlying69 ti9 rfl rfl (by omega) | exact EX.indexAddrA1 (i := 0) Tryz.underlying69 ti9 rfl rfl (by omega)) ?_
            refine GW.val 14 rfl (by kernel_rfl) (by kernel_rfl) (by kernel_rfl) rfl rfl hS (fun w' hS' => EX.load Tryz.underlying9 rfl rfl (hS'.2.cell_of rfl)) ?_
            refine GW.val 17 rfl (by kernel_rfl) (by kernel_rfl) (by kernel_rfl) rfl rfl hS (fun w' hS' => EX.fieldAddr (off := 6) Tryz.underlying72 rfl rfl ti69 rfl rfl) ?_
            refine GW.val 18 rfl (by kernel_rfl) (by kernel_rfl) (by kernel_rfl) rfl rfl hS (fun w' hS' => by first | exact EX.indexAddrA0 (i := 1) Tryz.underlying69 ti9 rfl rfl (by omega) | exact EX.indexAddrA1 (i := 1) Tryz.underlying69 ti9 rfl rfl (by omega)) ?_
            refine GW.val 19 rfl (by kernel_rfl) (by kernel_rfl) (by kernel_rfl) rfl rfl hS (fun w' hS' => EX.load Tryz.underlying9 rfl rfl (hS'.2.cell_of rfl)) ?_
            refine GW.two 4 9 (by kernel_rfl) ?_ ?_
            · refine GO.buildB 4 1 rfl rfl rfl Tryz.underlying55 ti5 rfl rfl rfl rfl rfl (by decide) ?_
              rintro gb w4 hge4 h4 hx4
              refine ⟨⟨hS.1.trans hx4, hS.2.ext hx4⟩, fun hS => ?_⟩
              refine GW.strong (fun w' => Ext w w' ∧ Bk w' hb 72 h.cells ∧ Bk w' gb 5 [.int .u8 (h.kind : Int)]) (fun _ h => ⟨h.1, h.2.1⟩) ?_
              replace hS := (⟨hS.1, hS.2, h4⟩ : (fun w' => Ext w w' ∧ Bk w' hb 72 h.cells ∧ Bk w' gb 5 [.int .u8 (h.kind : Int)]) w4)
              refine GW.val 5 rfl (by kernel_rfl) (by kernel_rfl) (by kernel_rfl) rfl rfl hS (fun w' hS' => EX.strOf Tryz.underlying55 Tryz.underlying5 Tryz.underlying9 rfl (oneB hS'.2.2 hk) rfl) ?_
              refine GW.val 6 rfl (by kernel_rfl) (by kernel_rfl) (by kernel_rfl) rfl rfl hS (fun w' hS' => EX.addS rfl rfl (by first | omega | (simp only [List.length_append, List.length_cons, List.length_nil, List.length_take, List.length_drop, List.length_replicate]; omega))) ?_
              refine GW.call 9 rfl (by kernel_rfl) rfl rfl rfl (rlaid_s h.link (by omega) 100 (by decide) hm.link w4) ?_
              rintro _ _ ⟨rfl, rfl⟩
              refine ⟨hS, fun hS => ?_⟩
              refine GW.val 10 rfl (by kernel_rfl) (by kernel_rfl) (by kernel_rfl) rfl rfl hS (fun w' hS' => EX.addS rfl rfl (by first | omega | (simp only [List.length_append, List.length_cons, List.length_nil, List.length_take, List.length_drop, List.length_replicate]; omega))) ?_
              refine GW.val 11 rfl (by kernel_rfl) (by kernel_rfl) (by kernel_rfl) rfl rfl hS (fun w' hS' => EX.addS (r := [117, 115, 116, 97, 114, 0, 48, 48]) rfl rfl (by first | omega | (simp only [List.length_append, List.length_cons, List.length_nil, List.length_take, List.length_drop, List.length_replicate]; omega))) ?_
              refine GW.call 15 rfl (by kernel_rfl) rfl rfl rfl (rlaid_s h.n0 (by omega) 32 (by decide) m3 w4) ?_
              rintro _ _ ⟨rfl, rfl⟩
              refine ⟨hS, fun hS => ?_⟩
              refine GW.val 16 rfl (by kernel_rfl) (by kernel_rfl) (by kernel_rfl) rfl rfl hS (fun w' hS' => EX.addS rfl rfl (by first | omega | (simp only [List.length_append, List.length_cons, List.length_nil, List.length_take, List.length_drop, List.length_replicate]; omega))) ?_
              refine GW.call 20 rfl (by kernel_rfl) rfl rfl rfl (rlaid_s h.n1 (by omega) 32 (by decide) m4 w4) ?_
              rintro _ _ ⟨rfl, rfl⟩
              refine ⟨hS, fun hS => ?_⟩
              refine GW.val 21 rfl (by kernel_rfl) (by kernel_rfl) (by kernel_rfl) rfl rfl hS (fun w' hS' => EX.addS rfl rfl (by first | omega | (simp only [List.length_append, List.length_cons, List.length_nil, List.length_take, List.length_drop, List.length_replicate]; omega))) ?_
              refine GW.val 22 rfl (by kernel_rfl) (by kernel_rfl) (by kernel_rfl) rfl rfl hS (fun w' hS' => EX.assign rfl) ?_
              refine GW.done (by kernel_rfl) ?_
              refine KW.meet1 w4 ⟨rfl, rfl, trivial⟩ rfl ?_
              exact hS.1
            · refine GO.call 9 rfl rfl rfl rfl (rlaid_s h.link (by omega) 100 (by decide) hm.link wr.drew) ?_
              rintro _ _ ⟨rfl, rfl⟩
              refine ⟨hS, fun hS => ?_⟩
              refine GW.two 4 15 (by kernel_rfl) ?_ ?_
              · refine GO.buildB 4 1 rfl rfl rfl Tryz.underlying55 ti5 rfl rfl rfl rfl rfl (by decide) ?_
                rintro gb w4 hge4 h4 hx4
                refine ⟨⟨hS.1.trans hx4, hS.2.ext hx4⟩, fun hS => ?_⟩
                refine GW.strong (fun w' => Ext w w' ∧ Bk w' hb 72 h.cells ∧ Bk w' gb 5 [.int .u8 (h.kind : Int)]) (fun _ h => ⟨h.1, h.2.1⟩) ?_
                replace hS := (⟨hS.1, hS.2, h4⟩ : (fun w' => Ext w w' ∧ Bk w' hb 72 h.cells ∧ Bk w' gb 5 [.int .u8 (h.kind : Int)]) w4)
                refine GW.val 5 rfl (by kernel_rfl) (by kernel_rfl) (by kernel_rfl) rfl rfl hS (fun w' hS' => EX.strOf Tryz.underlying55 Tryz.underlying5 Tryz.underlying9 rfl (oneB hS'.2.2 hk) rfl) ?_
                refine GW.val 6 rfl (by kernel_rfl) (by kernel_rfl) (by kernel_rfl) rfl rfl hS (fun w' hS' => EX.addS rfl rfl (by first | omega | (simp only [List.length_append, List.length_cons, List.length_nil, List.length_take, List.length_drop, List.length_replicate]; omega))) ?_
                refine GW.val 10 rfl (by kernel_rfl) (by kernel_rfl) (by kernel_rfl) rfl rfl hS (fun w' hS' => EX.addS rfl rfl (by first | omega | (simp only [List.length_append, List.length_cons, List.length_nil, List.length_take, List.length_drop, List.length_replicate]; omega))) ?_
                refine GW.val 11 rfl (by kernel_rfl) (by kernel_rfl) (by kernel_rfl) rfl rfl hS (fun w' hS' => EX.addS (r := [117, 115, 116, 97, 114, 0, 48, 48]) rfl rfl (by first | omega | (simp only [List.length_append, List.length_cons, List.length_nil, List.length_take, List.length_drop, List.length_replicate]; omega))) ?_
                refine GW.call 15 rfl (by kernel_rfl) rfl rfl rfl (rlaid_s h.n0 (by omega) 32 (by decide) m3 w4) ?_
                rintro _ _ ⟨rfl, rfl⟩
                refine ⟨hS, fun hS => ?_⟩
                refine GW.val 16 rfl (by kernel_rfl) (by kernel_rfl) (by kernel_rfl) rfl rfl hS (fun w' hS' => EX.addS rfl rfl (by first | omega | (simp only [List.length_append, List.length_cons, List.length_nil, List.length_take, List.length_drop, List.length_replicate]; omega))) ?_
                refine GW.call 20 rfl (by kernel_rfl) rfl rfl rfl (rlaid_s h.n1 (by omega) 32 (by decide) m4 w4) ?_
                rintro _ _ ⟨rfl, rfl⟩
                refine ⟨hS, fun hS => ?_⟩
                refine GW.val 21 rfl (by kernel_rfl) (by kernel_rfl) (by kernel_rfl) rfl rfl hS (fun w' hS' => EX.addS rfl rfl (by first | omega | (simp only [List.length_append, List.length_cons, List.length_nil, List.length_take, List.length_drop, List.length_replicate]; omega))) ?_
                refine GW.val 22 rfl (by kernel_rfl) (by kernel_rfl) (by kernel_rfl) rfl rfl hS (fun w' hS' => EX.assign rfl) ?_
                refine GW.done (by kernel_rfl) ?_
                refine KW.meet1 w4 ⟨rfl, rfl, trivial⟩ rfl ?_
                exact hS.1
              · refine GO.call 15 rfl rfl rfl rfl (rlaid_s h.n0 (by omega) 32 (by decide) m3 wr.drew) ?_
                rintro _ _ ⟨rfl, rfl⟩
                refine ⟨hS, fun hS => ?_⟩
                refine GW.two 4 20 (by kernel_rfl) ?_ ?_
                · refine GO.buildB 4 1 rfl rfl rfl Tryz.underlying55 ti5 rfl rfl rfl rfl rfl (by decide) ?_
                  rintro gb w4 hge4 h4 hx4
                  refine ⟨⟨hS.1.trans hx4, hS.2.ext hx4⟩, fun hS => ?_⟩
                  refine GW.strong (fun w' => Ext w w' ∧ Bk w' hb 72 h.cells ∧ Bk w' gb 5 [.int .u8 (h.kind : Int)]) (fun _ h => ⟨h.1, h.2.1⟩) ?_
                  replace hS := (⟨hS.1, hS.2, h4⟩ : (fun w' => Ext w w' ∧ Bk w' hb 72 h.cells ∧ Bk w' gb 5 [.int .u8 (h.kind : Int)]) w4)
                  refine GW.val 5 rfl (by kernel_rfl) (by kernel_rfl) (by kernel_rfl) rfl rfl hS (fun w' hS' => EX.strOf Tryz.underlying55 Tryz.underlying5 Tryz.underlying9 rfl (oneB hS'.2.2 hk) rfl) ?_
                  refine GW.val 6 rfl (by kernel_rfl) (by kernel_rfl) (by kernel_rfl) rfl rfl hS (fun w' hS' => EX.addS rfl rfl (by first | omega | (simp only [List.length_append, List.length_cons, List.length_nil, List.length_take, List.length_drop, List.length_replicate]; omega))) ?_
                  refine GW.val 10 rfl (by kernel_rfl) (by kernel_rfl) (by kernel_rfl) rfl rfl hS (fun w' hS' => EX.addS rfl rfl (by first | omega | (simp only [List.length_append, List.length_cons, List.length_nil, List.length_take, List.length_drop, List.length_replicate]; omega))) ?_
                  refine GW.val 11 rfl (by kernel_rfl) (by kernel_rfl) (by kernel_rfl) rfl rfl hS (fun w' hS' => EX.addS (r := [117, 115, 116, 97, 114, 0, 48, 48]) rfl rfl (by first | omega | (simp only [List.length_append, List.length_cons, List.length_nil, List.length_take, List.length_drop, List.length_replicate]; omega))) ?_
                  refine GW.val 16 rfl (by kernel_rfl) (by kernel_rfl) (by kernel_rfl) rfl rfl hS (fun w' hS' => EX.addS rfl rfl (by first | omega | (simp only [List.length_append, List.length_cons, List.length_nil, List.length_take, List.length_drop, List.length_replicate]; omega))) ?_
                  refine GW.call 20 rfl (by kernel_rfl) rfl rfl rfl (rlaid_s h.n1 (by omega) 32 (by decide) m4 w4) ?_
                  rintro _ _ ⟨rfl, rfl⟩
                  refine ⟨hS, fun hS => ?_⟩
                  refine GW.val 21 rfl (by kernel_rfl) (by kernel_rfl) (by kernel_rfl) rfl rfl hS (fun w' hS' => EX.addS rfl rfl (by first | omega | (simp only [List.length_append, List.length_cons, List.length_nil, List.length_take, List.length_drop, List.length_replicate]; omega))) ?_
                  refine GW.val 22 rfl (by kernel_rfl) (by kernel_rfl) (by kernel_rfl) rfl rfl hS (fun w' hS' => EX.assign rfl) ?_
                  refine GW.done (by kernel_rfl) ?_
                  refine KW.meet1 w4 ⟨rfl, rfl, trivial⟩ rfl ?_
                  exact hS.1
                · refine GO.call 20 rfl rfl rfl rfl (rlaid_s h.n1 (by omega) 32 (by decide) m4 wr.drew) ?_
                  rintro _ _ ⟨rfl, rfl⟩
                  refine ⟨hS, fun hS => ?_⟩
                  refine GW.buildB 4 1 rfl (by kernel_rfl) rfl rfl Tryz.underlying55 ti5 rfl rfl rfl rfl rfl (by decide) ?_
                  rintro gb w4 hge4 h4 hx4
                  refine ⟨⟨hS.1.trans hx4, hS.2.ext hx4⟩, fun hS => ?_⟩
                  refine GW.strong (fun w' => Ext w w' ∧ Bk w' hb 72 h.cells ∧ Bk w' gb 5 [.int .u8 (h.kind : Int)]) (fun _ h => ⟨h.1, h.2.1⟩) ?_
                  replace hS := (⟨hS.1, hS.2, h4⟩ : (fun w' => Ext w w' ∧ Bk w' hb 72 h.cells ∧ Bk w' gb 5 [.int .u8 (h.kind : Int)]) w4)
                  refine GW.val 5 rfl (by kernel_rfl) (by kernel_rfl) (by kernel_rfl) rfl rfl hS (fun w' hS' => EX.strOf Tryz.underlying55 Tryz.underlying5 Tryz.underlying9 rfl (oneB hS'.2.2 hk) rfl) ?_
                  refine GW.val 6 rfl (by kernel_rfl) (by kernel_rfl) (by kernel_rfl) rfl rfl hS (fun w' hS' => EX.addS rfl rfl (by first | omega | (simp only [List.length_append, List.length_cons, List.length_nil, List.length_take, List.length_drop, List.length_replicate]; omega))) ?_
                  refine GW.val 10 rfl (by kernel_rfl) (by kernel_rfl) (by kernel_rfl) rfl rfl hS (fun w' hS' => EX.addS rfl rfl (by first | omega | (simp only [List.length_append, List.length_cons, List.length_nil, List.length_take, List.length_drop, List.length_replicate]; omega))) ?_
                  refine GW.val 11 rfl (by kernel_rfl) (by kernel_rfl) (by kernel_rfl) rfl rfl hS (fun w' hS' => EX.addS (r := [117, 115, 116, 97, 114, 0, 48, 48]) rfl rfl (by first | omega | (simp only [List.length_append, List.length_cons, List.length_nil, List.length_take, List.length_drop, List.length_replicate]; omega))) ?_
                  refine GW.val 16 rfl (by kernel_rfl) (by kernel_rfl) (by kernel_rfl) rfl rfl hS (fun w' hS' => EX.addS rfl rfl (by first | omega | (simp only [List.length_append, List.length_cons, List.length_nil, List.length_take, List.length_drop, List.length_replicate]; omega))) ?_
                  refine GW.val 21 rfl (by kernel_rfl) (by kernel_rfl) (by kernel_rfl) rfl rfl hS (fun w' hS' => EX.addS rfl rfl (by first | omega | (simp only [List.length_append, List.length_cons, List.length_nil, List.length_take, List.length_drop, List.length_replicate]; omega))) ?_
                  refine GW.val 22 rfl (by kernel_rfl) (by kernel_rfl) (by kernel_rfl) rfl rfl hS (fun w' hS' => EX.assign rfl) ?_
                  refine GW.done (by kernel_rfl) ?_
                  refine KW.meet1 w4 ⟨rfl, rfl, trivial⟩ rfl ?_
                  exact hS.1
          · rintro wq xq
            have z0 : mayN 0 0 := ⟨by decide, by decide⟩
            have b11 := b2 0 7
            have b12 := lay_len p3
            have b13 := lay_len (s := []) (n := 12) (by simp)
            generalize hM : H ++ [32, 32, 32, 32, 32, 32, 32, 32] ++ [UInt8.ofNat h.kind] ++ lay h.link 100 ++ magic ++ lay h.n0 32 ++ lay h.n1 32 = M
            have hlM : M.length ≤ 1000 := by rw [← hM]; simp only [List.length_append, List.length_cons, List.length_nil, b8, b9, b10, hlH]; show _ ≤ 1000; decide
            refine KW.seq (KW.region ?_)
            refine OW.val rfl rfl (EX.move rfl) ?_
            refine OW.call rfl rfl rfl (rnumber_s 0 7 (by decide) (by decide) _ z0 (by decide) wq) ?_
            rintro _ _ ⟨rfl, rfl⟩
            refine OW.val rfl rfl (EX.addS rfl rfl (by first | omega | (simp only [List.length_append, List.length_cons, List.length_nil, List.length_take, List.length_drop, List.length_replicate]; omega))) ?_
            refine OW.call rfl rfl rfl (rnumber_s 0 7 (by decide) (by decide) _ z0 (by decide) wq) ?_
            rintro _ _ ⟨rfl, rfl⟩
            refine OW.val rfl rfl (EX.addS rfl rfl (by first | omega | (simp only [List.length_append, List.length_cons, List.length_nil, List.length_take, List.length_drop, List.length_replicate]; omega))) ?_
            refine OW.val rfl rfl (EX.move rfl) ?_
            refine OW.call rfl rfl rfl (rlaid_s (splitP h.path).1 (by omega) 155 (by decide) m2 wq) ?_
            rintro _ _ ⟨rfl, rfl⟩
            refine OW.val rfl rfl (EX.addS rfl rfl (by first | omega | (simp only [List.length_append, List.length_cons, List.length_nil, List.length_take, List.length_drop, List.length_replicate]; omega))) ?_
            refine OW.call rfl rfl rfl (rlaid_s [] (by simp) 12 (by decide) ⟨by simp, by simp⟩ wq) ?_
            rintro _ _ ⟨rfl, rfl⟩
            refine OW.val rfl rfl (EX.addS rfl rfl (by first | omega | (simp only [List.length_append, List.length_cons, List.length_nil, List.length_take, List.length_drop, List.length_replicate]; omega))) ?_
            refine OW.val rfl rfl (EX.assign rfl) ?_
            refine OW.nil ?_
            refine KW.seq (KW.region ?_)
            refine OW.val rfl rfl (EX.move rfl) ?_
            have hall : M ++ oc 0 7 ++ oc 0 7 ++ lay (splitP h.path).1 155 ++ lay [] 12 = withS h (splitP h.path).1 (splitP h.path).2.1 [32, 32, 32, 32, 32, 32, 32, 32] := by
              unfold withS
              rw [hHf, ← hM, lay_nil]
              simp [tailL]
            have hlS := (fields_of (s := [32, 32, 32, 32, 32, 32, 32, 32]) hm p1 p3 rfl).1
            rw [hall]
            have hsum : sum (withS h (splitP h.path).1 (splitP h.path).2.1 [32, 32, 32, 32, 32, 32, 32, 32]) = (hdSum h, 0) := by
              unfold sum
              rw [if_neg (by omega)]
              unfold hdSum withS
              rw [sumTo_mid (b := [32, 32, 32, 32, 32, 32, 32, 32]) (b' := nul 8) (by rw [hHf, hlH]) rfl (nul_len 8)]
            have cs := refSum_s (withS h (splitP h.path).1 (splitP h.path).2.1 [32, 32, 32, 32, 32, 32, 32, 32]) (by omega) wq
            rw [hsum] at cs
            have hle : mayN ((hdSum h : Nat) : Int) 262143 := ⟨by omega, by have := sumTo_le (withS h (splitP h.path).1 (splitP h.path).2.1 (nul 8)) 512; unfold hdSum; omega⟩
            have b14 := b2 ((hdSum h : Nat) : Int) 6
            rw [eyes hm]
            refine OW.call rfl rfl rfl (cs) ?_
            rintro _ _ ⟨rfl, rfl⟩
            refine OW.val rfl rfl (EX.move rfl) ?_
            refine OW.val rfl rfl (EX.extract rfl rfl) ?_
            refine OW.val rfl rfl (EX.extract rfl rfl) ?_
            refine OW.val rfl rfl (EX.assign rfl) ?_
            refine OW.val rfl rfl (EX.assign rfl) ?_
            refine OW.nil ?_
            refine KW.seq ?_
            refine KW.regionQ (by kernel_rfl) (by kernel_rfl) ?_
            refine QW.val rfl rfl (fun _ => EX.move rfl) ?_
            refine QW.val rfl rfl (fun _ => EX.sliceFH (j := 148) Tryz.underlying9 rfl rfl (by omega)) ?_
            refine QW.val rfl rfl (fun _ => EX.move rfl) ?_
            refine QW.call rfl rfl rfl (fun _ => RetQ.of (rnumber_s ((hdSum h : Nat) : Int) 6 (by decide) (by decide) _ hle (by decide) _)) ?_
            refine QW.val rfl rfl (fun _ => EX.addS rfl rfl (by first | omega | (simp only [List.length_append, List.length_cons, List.length_nil, List.length_take, List.length_drop, List.length_replicate]; omega))) ?_
            refine QW.val rfl rfl (fun _ => EX.addS (r := [32]) rfl rfl (by first | omega | (simp only [List.length_append, List.length_cons, List.length_nil, List.length_take, List.length_drop, List.length_replicate]; omega))) ?_
            refine QW.val rfl rfl (fun _ => EX.move rfl) ?_
            refine QW.val rfl rfl (fun _ => EX.sliceLE (i := 156) Tryz.underlying9 rfl rfl (by omega)) ?_
            refine QW.val rfl rfl (fun _ => EX.addS rfl rfl (by first | omega | (simp only [List.length_append, List.length_cons, List.length_nil, List.length_take, List.length_drop, List.length_replicate]; omega))) ?_
            refine QW.val rfl rfl (fun _ => EX.assign rfl) ?_
            refine QW.val rfl rfl (fun _ => EX.assign rfl) ?_
            refine QW.nil (fun nq => ?_)
            refine KW.ret (ret2 rfl rfl rfl ?_)
            refine ⟨?_, xq.trans (Ext.drewN _ nq)⟩
            have ew : withS h (splitP h.path).1 (splitP h.path).2.1 [32, 32, 32, 32, 32, 32, 32, 32] = H ++ ([32, 32, 32, 32, 32, 32, 32, 32] ++ (tailL h (splitP h.path).1).flatten) := by unfold withS; rw [hHf, List.append_assoc]
            have e1 : (withS h (splitP h.path).1 (splitP h.path).2.1 [32, 32, 32, 32, 32, 32, 32, 32]).take 148 = H := by rw [ew, ← hlH]; exact List.take_left' rfl
            have e2 : (withS h (splitP h.path).1 (splitP h.path).2.1 [32, 32, 32, 32, 32, 32, 32, 32]).drop 156 = (tailL h (splitP h.path).1).flatten := by
              rw [ew, show 156 = H.length + 8 by omega, ← List.drop_drop, List.drop_left' rfl]
              rfl
            have ed : hdText h = H ++ oc ((hdSum h : Nat) : Int) 6 ++ [32] ++ (tailL h (splitP h.path).1).flatten := by
              unfold hdText withS sumF oc
              rw [hHf]
              simp
            simp only [ed, e1, e2]
            rfl
end Go.Proofs.YtjgeoeeikfjmdaaGreatDoor
/- The engine's laws for arrays of two within structs: they are built, and compared. No program is spoken of. -/
namespace Go.Proofs.YtjgeoeeikfjmdaaGreatDoor
set_option linter.unnecessarySimpa false
open Go.RowKit
set_option linter.unusedSimpArgs false
set_option linter.unusedVariables false
section
variable {P : Program} {n : Nat} {σ : Sig} {w : World} {x y : Operand} {t e ty T T' : TypeId} {b o : Nat} {z v : Value} {s bs : Nat} {l : List Value}
theorem EX.buildA {m : Nat} {parts : Array (Nat × Operand)} {ks : List Nat} {vs zs : List Value} {s' bs' : Nat} {z' : Value} (hu : P.underlying t = some (.array m e)) (hi : TI P t (.agg zs.toArray) s bs) (he : TI P e z' s' bs')
    (hk : parts.toList.map (·.1) = ks) (hv : evs σ (parts.toList.map (·.2)) = some vs) (hf : Instr.fill (fun i => some (i * s', s')) zs.toArray (ks.zip vs) = some l.toArray) :
    EX P n σ (.build t parts) ty w (.agg l.toArray) w := fun A ha dst pos after g => by
  have hev := ha.evs hv
  have hpv : (parts.map fun (p : Nat × Operand) => (p.1, A.eval p.2)).toList = ks.zip vs := by
    rw [← hk, ← hev]
    simp only [Array.toList_map, List.map_map, List.zip_map']
    rfl
  simp only [execOp, Instr.build, Sem.run_bind, run_zeroValue hi, Result.andThen_ok, run_underlying hu, run_sizeOf he]
  rw [show (parts.map fun (x : Nat × Operand) => match x with | (i, x) => (i, A.eval x)).toList = ks.zip vs from hpv]
  rw [show ((Value.agg zs.toArray).cells) = zs.toArray from rfl, hf]
  rfl
theorem EX.buildA2 {zs : List Value} {bs' : Nat} {z' u0 u1 : Value} (hu : P.underlying t = some (.array 2 e)) (hi : TI P t (.agg zs.toArray) 2 bs) (he : TI P e z' 1 bs') (hz : zs.length = 2) (hx : ev σ x = some u0) (hy : ev σ y = some u1) (h0 : u0.oneCell' = true) (h1 : u1.oneCell' = true) :
    EX P n σ (.build t #[(0, x), (1, y)]) ty w (.agg [u0, u1].toArray) w := by
  match zs, hz with
  | [a, b], _ =>
    refine EX.buildA (ks := [0, 1]) (vs := [u0, u1]) hu hi he rfl (by simp [evs, hx, hy]) ?_
    simp [Instr.fill, oneCell_cells h0, oneCell_cells h1]
/-- a struct's cells where some parts are given -/
def fillL (pl : List (Nat × Nat)) : List Value → List (Nat × List Value) → List Value
  | zs, [] => zs
  | zs, (i, cs) :: r => fillL pl (zs.take (pl.getD i (0, 0)).1 ++ (cs ++ zs.drop ((pl.getD i (0, 0)).1 + cs.length))) r
def fitL (pl : List (Nat × Nat)) (n : Nat) : List (Nat × Nat) → Bool
  | [] => true
  | (i, c) :: r => Nat.blt i pl.length && (pl.getD i (0, 0)).2 == c && Nat.ble ((pl.getD i (0, 0)).1 + c) n && fitL pl n r
theorem fold_in (off : Nat) : ∀ (vs : List Value) (k : Nat) (zs : List Value), off + k + vs.length ≤ zs.length →
    (vs.zipIdx k).foldl (fun (cs : Array Value) (x : Value × Nat) => cs.setIfInBounds (off + x.2) x.1) zs.toArray = (zs.take (off + k) ++ (vs ++ zs.drop (off + k + vs.length))).toArray
  | [], k, zs, _ => by simp
  | v :: vs, k, zs, h => by
    have hlt : off + k < zs.length := by simp at h; omega
    have hset : zs.toArray.setIfInBounds (off + k) v = (zs.set (off + k) v).toArray := by simp
    simp only [List.zipIdx_cons, List.foldl_cons, hset]
    rw [fold_in off vs (k + 1) (zs.set (off + k) v) (by simp at h ⊢; omega)]
    congr 1
    have e1 : (zs.set (off + k) v).take (off + (k + 1)) = zs.take (off + k) ++ [v] := by
      rw [show off + (k + 1) = off + k + 1 by omega, List.take_add_one, List.getElem?_set_self hlt, List.take_set_of_le (by omega)]
      rfl
    have e2 : (zs.set (off + k) v).drop (off + (k + 1) + vs.length) = zs.drop (off + k + (v :: vs).length) := by
      rw [List.drop_set_of_lt (by omega)]
      congr 1
      simp; omega
    rw [e1, e2]
    simp
theorem fill_L {pl : List (Nat × Nat)} : ∀ (ks : List Nat) (vs : List Value) (css : List (List Value)) (zs : List Value), vs.map (fun v => v.cells.toList) = css → fitL pl zs.length (ks.zip (css.map List.length)) = true → ks.length = vs.length →
    Instr.fill (pl.toArray[·]?) zs.toArray (ks.zip vs) = some (fillL pl zs (ks.zip css)).toArray
  | [], [], css, zs, hc, _, _ => by subst hc; simp [Instr.fill, fillL]
  | k :: ks, v :: vs, css, zs, hc, hf, hl => by
    subst hc
    simp only [List.map_cons, List.zip_cons_cons, fitL, Bool.and_eq_true, beq_iff_eq, Nat.blt_eq, Nat.ble_eq] at hf
    obtain ⟨⟨⟨f1, f2⟩, f3⟩, f4⟩ := hf
    have hg : pl.toArray[k]? = some (pl.getD k (0, 0)) := by simp [List.getD_eq_getElem?_getD, f1]
    simp only [List.zip_cons_cons, List.map_cons, Instr.fill, hg, fillL]
    generalize pl.getD k (0, 0) = q at f2 f3
    obtain ⟨off, size⟩ := q
    simp only at f2 f3
    have hcl : v.cells.toList.length = v.cells.size := by simp
    have hn : ¬ (v.cells.size ≠ size ∨ off + v.cells.size > zs.toArray.size) := by simp only [List.size_toArray]; omega
    simp only [ne_eq, Bool.or_eq_true, decide_eq_true_eq]
    rw [if_neg (by simpa using hn)]
    have hz : v.cells.zipIdx.foldl (fun cs (x : Value × Nat) => cs.setIfInBounds (off + x.2) x.1) zs.toArray = (zs.take off ++ (v.cells.toList ++ zs.drop (off + v.cells.toList.length))).toArray := by
      rw [← Array.foldl_toList, Array.toList_zipIdx]
      exact fold_in off v.cells.toList 0 zs (by omega)
    rw [hz]
    refine fill_L ks vs _ _ rfl ?_ (by simpa using hl)
    rw [← f4]
    congr 1
    simp
    omega
  | [], _ :: _, _, _, _, _, h => by simp at h
  | _ :: _, [], _, _, _, _, h => by simp at h
/-- a struct some of whose parts are structs or arrays: what it holds as a list -/
theorem EX.buildH {fs : Array Field} {parts : Array (Nat × Operand)} {pl : List (Nat × Nat)} {ks : List Nat} {vs zs : List Value} {css : List (List Value)} (hu : P.underlying t = some (.struct fs)) (hi : TI P t (.agg zs.toArray) s bs) (hp : places P fs.toList = some pl)
    (hk : parts.toList.map (·.1) = ks) (hv : evs σ (parts.toList.map (·.2)) = some vs) (hc : vs.map (fun v => v.cells.toList) = css) (hf : fitL pl zs.length (ks.zip (css.map List.length)) = true) (hn : ks.length = vs.length) (hl : fillL pl zs (ks.zip css) = l) :
    EX P n σ (.build t parts) ty w (.agg l.toArray) w :=
  EX.buildG hu hi hp hk hv (by rw [fill_L ks vs css zs hc hf hn, hl])
theorem run_eq_arr2 {a0 a1 b0 b1 : Value} {q0 q1 : Bool} {d : TypeDesc} (ht : P.underlying t = some (.array 2 e)) (he : P.underlying e = some d) (hf : flat d = true) (hi : TI P e z 1 bs)
    (h0 : ∀ k, (Op.equalIn (k + 1) e a0 b0).run P w = .ok q0 w) (h1 : ∀ k, (Op.equalIn (k + 1) e a1 b1).run P w = .ok q1 w) (k : Nat) : (Op.equalIn (k + 1 + 1) t (.agg #[a0, a1]) (.agg #[b0, b1])).run P w = .ok (q0 && q1) w := by
  have hr : List.range' 0 2 = [0, 1] := rfl
  rw [Op.equalIn]
  simp only [Sem.run_bind, run_underlying ht, Result.andThen_ok, run_sizeOf hi]
  cases q0 <;> cases q1 <;> simp [Std.Legacy.Range.forIn_eq_forIn_range', Std.Legacy.Range.size, hr, part, run_isAgg he, hf, h0 k, h1 k, Sem.run_bind]
/-- fields that are alike or not, whatever they hold -/
inductive FE (P : Program) (w : World) (xs ys : List Value) : List Field → List Bool → Prop
  | nil : FE P w xs ys [] []
  | cons {f : Field} {fs : List Field} {q : Bool} {qs : List Bool} {u v : Value} (hn : f.name ≠ "_") (hx : (part f.type xs.toArray f.offset).run P w = .ok u w) (hy : (part f.type ys.toArray f.offset).run P w = .ok v w)
      (he : ∀ k, (Op.equalIn (k + 1 + 1 + 1) f.type u v).run P w = .ok q w) (hr : FE P w xs ys fs qs) : FE P w xs ys (f :: fs) (q :: qs)
theorem FE.run {xs ys : List Value} (k : Nat) : ∀ {fs : List Field} {qs : List Bool}, FE P w xs ys fs qs → (Op.eqFields (k + 1 + 1 + 1) xs.toArray ys.toArray fs).run P w = .ok (qs.all id) w
  | _, _, .nil => by simp [Op.eqFields]
  | f :: fs, q :: qs, .cons (u := u) (v := v) hn h1 h2 he hr => by
    have ih := FE.run k hr
    simp only [Op.eqFields]
    rw [if_pos hn]
    simp only [Sem.run_bind, h1, h2, he k, Result.andThen_ok]
    cases q
    · simp
    · simpa using ih
theorem FE.one {f : Field} {fs : List Field} {q : Bool} {qs : List Bool} {xs ys : List Value} {u v : Value} {d : TypeDesc} (hn : f.name ≠ "_") (hd : P.underlying f.type = some d) (hfl : flat d = true) (hx : xs[f.offset]? = some u) (hy : ys[f.offset]? = some v)
    (he : ∀ k, (Op.equalIn (k + 1) f.type u v).run P w = .ok q w) (hr : FE P w xs ys fs qs) : FE P w xs ys (f :: fs) (q :: qs) :=
  .cons hn (by simp [part, Sem.run_bind, run_isAgg hd, hfl, hx]) (by simp [part, Sem.run_bind, run_isAgg hd, hfl, hy]) (fun k => he (k + 1 + 1)) hr
theorem FE.two {f : Field} {fs : List Field} {q0 q1 : Bool} {qs : List Bool} {xs ys : List Value} {a0 a1 b0 b1 : Value} {d : TypeDesc} {bs' : Nat} {z' : Value} (hn : f.name ≠ "_") (hd : P.underlying f.type = some (.array 2 e)) (ht : TI P f.type z' 2 bs') (he : P.underlying e = some d) (hf : flat d = true) (hi : TI P e z 1 bs)
    (hx : (xs.drop f.offset).take 2 = [a0, a1]) (hy : (ys.drop f.offset).take 2 = [b0, b1])
    (h0 : ∀ k, (Op.equalIn (k + 1) e a0 b0).run P w = .ok q0 w) (h1 : ∀ k, (Op.equalIn (k + 1) e a1 b1).run P w = .ok q1 w) (hr : FE P w xs ys fs qs) : FE P w xs ys (f :: fs) ((q0 && q1) :: qs) :=
  .cons hn (by simp [part, Sem.run_bind, run_isAgg hd, flat, run_sizeOf ht, hx]) (by simp [part, Sem.run_bind, run_isAgg hd, flat, run_sizeOf ht, hy]) (fun k => run_eq_arr2 hd he hf hi h0 h1 (k + 1)) hr
theorem FE.str {f : Field} {fs : List Field} {fs' : Array Field} {qs qs' : List Bool} {xs ys us vs : List Value} {m bs' : Nat} {z' : Value} (hn : f.name ≠ "_") (hd : P.underlying f.type = some (.struct fs')) (hp : P.stoodInHeld f.type = false) (ht : TI P f.type z' m bs')
    (hx : (xs.drop f.offset).take m = us) (hy : (ys.drop f.offset).take m = vs) (h : FEqs P w us vs fs'.toList qs') (hr : FE P w xs ys fs qs) : FE P w xs ys (f :: fs) ((qs'.all id) :: qs) := by
  have hf : P.fieldsOf f.type = fs' := by unfold Program.fieldsOf; rw [hd]
  refine .cons (u := .agg us.toArray) (v := .agg vs.toArray) hn (by simp [part, Sem.run_bind, run_isAgg hd, flat, run_sizeOf ht, hx]) (by simp [part, Sem.run_bind, run_isAgg hd, flat, run_sizeOf ht, hy]) (fun k => ?_) hr
  rw [run_equalIn_agg w _ f.type _ _ (by rw [hf]; exact hd) hp, hf, h.run]
theorem EX.eqlV {fs : Array Field} {xs ys : List Value} {qs : List Bool} {r : Bool} (hu : P.underlying t = some (.struct fs)) (hp : P.stoodInHeld t = false) (hm : P.eqGuardType P.depth t = false) (hx : ev σ x = some (.agg xs.toArray)) (hy : ev σ y = some (.agg ys.toArray))
    (h : FE P w xs ys fs.toList qs) (hr : qs.all id = r) : EX P n σ (.binOp .eql t x y T) ty w (.bool r) w := by
  subst hr
  have hf : P.fieldsOf t = fs := by unfold Program.fieldsOf; rw [hu]
  refine EX.bin hx hy (run_eqGuard_agg w _ t x y _ _ hm) ?_
  rw [run_eql_struct, show (10000 : Nat) = 9996 + 1 + 1 + 1 + 1 from rfl, run_equalIn_agg w _ t _ _ (by rw [hf]; exact hu) hp, hf, h.run]
  rfl
theorem EX.neqV {fs : Array Field} {xs ys : List Value} {qs : List Bool} {r : Bool} (hu : P.underlying t = some (.struct fs)) (hp : P.stoodInHeld t = false) (hm : P.eqGuardType P.depth t = false) (hx : ev σ x = some (.agg xs.toArray)) (hy : ev σ y = some (.agg ys.toArray))
    (h : FE P w xs ys fs.toList qs) (hr : (!qs.all id) = r) : EX P n σ (.binOp .neq t x y T) ty w (.bool r) w := by
  subst hr
  have hf : P.fieldsOf t = fs := by unfold Program.fieldsOf; rw [hu]
  refine EX.bin hx hy (run_eqGuard_agg w _ t x y _ _ hm) ?_
  rw [run_neq_struct, show (10000 : Nat) = 9996 + 1 + 1 + 1 + 1 from rfl, run_equalIn_agg w _ t _ _ (by rw [hf]; exact hu) hp, hf, h.run]
  rfl
end
section
variable {P : Program} {R : Act → World → Prop} {k : List KI} {n : Nat} {σ : Sig} {w : World}
theorem pst_goto {l : Nat} : ∀ (k : List KI) (a : Act) (w : World), pst P R k (.goto l) a w → False
  | [], _, _, h => h
  | .code _ :: k, a, w, h => pst_goto k a w h
  | .blk _ :: k, a, w, h => pst_goto k a w h
  | .asr _ :: k, a, w, h => pst_goto k a w h
/-- a scope through which no jump goes -/
theorem KW.scope {c : Code} (h : KW P R (.code c :: k) n σ w) : KW P R (.code (.scope c) :: k) n σ w := fun a ha => by
  refine wp_scope_straight ?_
  intro b k' cs
  obtain ⟨e, a₁, w₁, hq, harr⟩ := h a ha b k' cs
  refine ⟨e, a₁, w₁, ?_, harr⟩
  cases e with
  | goto l => exact pst_goto k _ _ hq
  | normal => exact hq
  | exit id => exact hq
  | ret => exact hq
  | panic ch => exact hq
  | outgrown => exact hq
end
end Go.Proofs.YtjgeoeeikfjmdaaGreatDoor
/- ustar: headers are read, by the document. -/
namespace Go.Proofs.YtjgeoeeikfjmdaaGreatDoor
set_option linter.unnecessarySimpa false
open Go.RowKit Fld Ust
set_option linter.unusedVariables false
set_option linter.unusedSimpArgs false

def atL : List Nat := [100, 108, 116, 124, 136, 148, 156]
def nmb (s : List UInt8) (i : Nat) : Nat × Nat := num (sl s (atL.getD i 0) (atL.getD (i + 1) 0 - atL.getD i 0))
abbrev six (s : List UInt8) : List Value := [.int .i64 (((nmb s 0).1 : Nat) : Int), .int .i64 (((nmb s 1).1 : Nat) : Int), .int .i64 (((nmb s 2).1 : Nat) : Int), .int .i64 (((nmb s 3).1 : Nat) : Int), .int .i64 (((nmb s 4).1 : Nat) : Int), .int .i64 (((nmb s 5).1 : Nat) : Int)]
set_option maxRecDepth 20000 in
theorem rdecode_s (s : List UInt8) (hs : s.length ≤ 140737488355328) (w : World) : Ret Tryz.prog 59 [str s] w fun v w' => v = .tuple #[.agg (decH s).1.cells.toArray, .int .i64 (((decH s).2 : Nat) : Int)] ∧ Ext w w' := by
  refine Ret.enter Tryz.func59 rfl Tryz.ntmps59 (by kernel_rfl) rfl ?_
  refine KW.seq (KW.region ?_)
  refine OW.allocB (l := [str [], .int .i64 0, .int .u8 0, .int .i64 0, .int .i64 0, str [], str [], str [], .int .i64 0, .int .i64 0]) rfl rfl ti72 rfl ?_
  rintro rb w1 hge1 hr1 hx1
  refine OW.val rfl rfl (EX.assign rfl) ?_
  refine OW.nil ?_
  refine KW.seq (KW.seq ?_)
  replace hr1 : Bk w1 rb 72 hd0.cells := hr1
  have bye : ¬ OkD s → ∀ (w' w'' : World), Ext w w' → Mo w' w'' [rb] → (Value.tuple #[.agg hd0.cells.toArray, .int .i64 ((160 : Nat) : Int)] = .tuple #[.agg (decH s).1.cells.toArray, .int .i64 (((decH s).2 : Nat) : Int)] ∧ Ext w w'') := fun hn w' w'' hx hm => by
    rw [dec_no hn]
    exact ⟨rfl, below_mo hx hm hx.size (fun k hk => by simp at hk; omega)⟩
  refine KW.cutd1 (fun (_u : Unit) => s.length = 512 ∧ sl s 257 8 = magic) (fun (_u : Unit) => [(0, str (s)), (2, .pointer (some ⟨rb, 0, none⟩))]) (fun (_u : Unit) => w1) ?_ ?_
  · refine KW.region ?_
    refine OW.val rfl rfl (EX.move rfl) ?_
    refine OW.val rfl rfl (EX.lenS Tryz.underlying9 rfl) ?_
    refine OW.val rfl rfl (by first | exact EX.neqN (b := 512) rfl rfl | exact EX.neqZ rfl rfl) ?_
    refine OW.val rfl rfl (EX.move rfl) ?_
    refine OW.splitD 16 rfl (fun a1 => ?_) (fun a1 => ?_)
    · refine OW.pass rfl rfl ?_
      refine OW.pass rfl rfl ?_
      refine OW.pass rfl rfl ?_
      refine OW.val rfl rfl (EX.pickT rfl rfl) ?_
      refine OW.nil ?_
      refine KW.condT rfl (KW.seq (KW.region ?_))
      refine OW.val rfl rfl (EX.buildS (pl := [(0, 1), (1, 1), (2, 1), (3, 1), (4, 1), (5, 1), (6, 2), (8, 2)]) (ks := []) (is := []) (zs := [str [], .int .i64 0, .int .u8 0, .int .i64 0, .int .i64 0, str [], str [], str [], .int .i64 0, .int .i64 0]) Tryz.underlying72 ti72 (by kernel_rfl) rfl rfl rfl (by first | rfl | (simp only [List.all_cons, List.all_nil, Bool.and_true, Bool.true_and, Bool.and_eq_true, Value.oneCell']; repeat (first | assumption | exact Own.one (by assumption) | constructor))) (by simp only [setAll, List.set_cons_zero, List.set_cons_succ]; rfl)) ?_
      refine OW.storeS rfl ti72 rfl rfl rfl (by first | rfl | (simp only [List.all_cons, List.all_nil, Bool.and_true, Bool.true_and, Bool.and_eq_true, Value.oneCell']; repeat (first | assumption | exact Own.one (by assumption) | constructor))) (hr1) (Nat.le_refl _) ?_
      rintro w2 hr2 hm2
      refine OW.val rfl rfl (EX.assign rfl) ?_
      refine OW.nil ?_
      refine KW.ret (retC2 rfl Tryz.underlying72 rfl ti72 rfl rfl (hr2) rfl ?_)
      exact bye (fun h => a1 (by have := h.len; omega)) _ _ hx1 hm2
    · have h512 : s.length = 512 := by omega
      refine OW.val rfl rfl (EX.move rfl) ?_
      refine OW.val rfl rfl (EX.sliceLH (i := 257) (j := 265) Tryz.underlying9 rfl rfl rfl (by omega)) ?_
      refine OW.val rfl rfl (EX.neqS (r := [117, 115, 116, 97, 114, 0, 48, 48]) rfl rfl) ?_
      refine OW.val rfl rfl (EX.pickF rfl rfl) ?_
      refine OW.nil ?_
      refine KW.condD rfl (fun a2 => ?_) (fun a2 => ?_)
      · refine KW.seq (KW.region ?_)
        refine OW.val rfl rfl (EX.buildS (pl := [(0, 1), (1, 1), (2, 1), (3, 1), (4, 1), (5, 1), (6, 2), (8, 2)]) (ks := []) (is := []) (zs := [str [], .int .i64 0, .int .u8 0, .int .i64 0, .int .i64 0, str [], str [], str [], .int .i64 0, .int .i64 0]) Tryz.underlying72 ti72 (by kernel_rfl) rfl rfl rfl (by first | rfl | (simp only [List.all_cons, List.all_nil, Bool.and_true, Bool.true_and, Bool.and_eq_true, Value.oneCell']; repeat (first | assumption | exact Own.one (by assumption) | constructor))) (by simp only [setAll, List.set_cons_zero, List.set_cons_succ]; rfl)) ?_
        refine OW.storeS rfl ti72 rfl rfl rfl (by first | rfl | (simp only [List.all_cons, List.all_nil, Bool.and_true, Bool.true_and, Bool.and_eq_true, Value.oneCell']; repeat (first | assumption | exact Own.one (by assumption) | constructor))) (hr1) (Nat.le_refl _) ?_
        rintro w2 hr2 hm2
        refine OW.val rfl rfl (EX.assign rfl) ?_
        refine OW.nil ?_
        refine KW.ret (retC2 rfl Tryz.underlying72 rfl ti72 rfl rfl (hr2) rfl ?_)
        exact bye (fun h => a2 h.magic) _ _ hx1 hm2
      · refine KW.skip ?_
        refine KW.meet1 (()) ⟨rfl, rfl, trivial⟩ rfl ?_
        exact ⟨h512, Classical.not_not.1 a2⟩
  · rintro _ ⟨h512, hmg⟩
    refine KW.seq (KW.region ?_)
    refine OW.val rfl rfl (EX.assign rfl) ?_
    refine OW.nil ?_
    refine KW.seq (KW.region ?_)
    refine OW.buildB 7 rfl rfl Tryz.underlying130 ti3 rfl rfl rfl rfl (by first | rfl | (simp only [List.all_cons, List.all_nil, Bool.and_true, Bool.and_eq_true]; assumption)) (by decide) ?_
    rintro ab w2 hge2 ha2 hx2
    refine OW.val rfl rfl (EX.assign rfl) ?_
    refine OW.nil ?_
    refine KW.seq (KW.seq (KW.region ?_))
    refine OW.val rfl rfl (EX.assign rfl) ?_
    refine OW.nil ?_
    refine KW.block ?_
    replace ha2 : Bk w2 ab 3 (ints .i64 atL) := ha2
    have x2 := hx1.trans hx2
    have hr2 := hr1.ext hx2
    have hat : ∀ i, i < 6 → atL.getD i 0 ≤ atL.getD (i + 1) 0 ∧ atL.getD (i + 1) 0 ≤ 156 := by decide
    have hint : ∀ i, i < 7 → (ints .i64 atL)[i]? = some (.int .i64 ((atL.getD i 0 : Nat) : Int)) := by
      intro i hi
      have : i = 0 ∨ i = 1 ∨ i = 2 ∨ i = 3 ∨ i = 4 ∨ i = 5 ∨ i = 6 := by omega
      rcases this with rfl | rfl | rfl | rfl | rfl | rfl | rfl <;> rfl
    refine KW.loop3 (fun (i : Nat) (v : Value) (wr : World) => i ≤ 6 ∧ (∀ j, j < i → (nmb s j).2 = 0) ∧ Own wr w2.heap.size 3 1 v i (ints .i64 ((List.range i).map fun j => (nmb s j).1)) ∧ Ext w2 wr ∧ Bk wr rb 72 hd0.cells) (fun (i : Nat) (v : Value) (wr : World) => [(0, str (s)), (2, .pointer (some ⟨rb, 0, none⟩)), (4, v), (5, .slice (some ⟨ab, 0, none⟩) 7 7), (6, .int .i64 ((i : Nat) : Int))]) (fun (i : Nat) (v : Value) (wr : World) => wr) (fun (i : Nat) (v : Value) (wr : World) => 6 - i) (0) (.slice none 0 0) (w2) ⟨rfl, rfl, rfl, rfl, rfl, trivial⟩ rfl ?_ ?_
    · exact ⟨by omega, fun j hj => by omega, Own.nil _ _ _ _, Ext.refl _, hr2⟩
    · rintro i v wr ⟨hi, hz, hown, hx, hr⟩
      have xr := x2.trans hx
      refine KW.seq (KW.seq (KW.region ?_))
      refine OW.val rfl rfl (EX.move rfl) ?_
      refine OW.val rfl rfl (by first | exact EX.lssN (b := 6) rfl rfl | exact EX.lssZ rfl rfl) ?_
      refine OW.nil ?_
      refine KW.condD rfl (fun hlt => ?_) (fun hlt => ?_)
      · have hab := ha2.ext hx
        have c1 := hint i (by omega)
        have c2 := hint (i + 1) (by omega)
        obtain ⟨t1, t2⟩ := hat i hlt
        have hnm : nmb s i = num (sl s (atL.getD i 0) (atL.getD (i + 1) 0 - atL.getD i 0)) := rfl
        generalize atL.getD i 0 = a at c1 t1 hnm
        generalize atL.getD (i + 1) 0 = b at c2 t1 t2 hnm
        have hsl := sl_len h512 a (b - a)
        refine KW.skip (KW.seq (KW.block (KW.seq ?_)))
        refine KW.regionQ (by kernel_rfl) (by kernel_rfl) ?_
        refine QW.val rfl rfl (fun _ => EX.move rfl) ?_
        refine QW.val rfl rfl (fun _ => EX.move rfl) ?_
        refine QW.val rfl rfl (fun _ => EX.move rfl) ?_
        refine QW.val rfl rfl (fun _ => by first | exact EX.indexAddrS0 Tryz.underlying130 ti3 rfl rfl (by omega) | exact EX.indexAddrS1 Tryz.underlying130 ti3 rfl rfl (by omega)) ?_
        refine QW.val rfl rfl (fun _ => EX.load Tryz.underlying3 rfl rfl (hab.cell_of c1)) ?_
        refine QW.val rfl rfl (fun _ => EX.move rfl) ?_
        refine QW.val rfl rfl (fun _ => EX.move rfl) ?_
        refine QW.val rfl rfl (fun _ => by first | exact EX.addN (b := 1) (m := 9223372036854775807) rfl rfl rfl (by omega) | exact EX.addZ (m := 9223372036854775807) rfl rfl rfl rfl (by omega)) ?_
        refine QW.val rfl rfl (fun _ => by first | exact EX.indexAddrS0 Tryz.underlying130 ti3 rfl rfl (by omega) | exact EX.indexAddrS1 Tryz.underlying130 ti3 rfl rfl (by omega)) ?_
        refine QW.val rfl rfl (fun _ => EX.load Tryz.underlying3 rfl rfl (hab.cell_of c2)) ?_
        refine QW.val rfl rfl (fun _ => EX.sliceLH Tryz.underlying9 rfl rfl rfl (by omega)) ?_
        refine QW.call rfl rfl rfl (fun _ => RetQ.of (refNumber_s (sl s a (b - a)) (by omega) _)) ?_
        refine QW.val rfl rfl (fun _ => EX.move rfl) ?_
        refine QW.val rfl rfl (fun _ => EX.extract rfl rfl) ?_
        refine QW.val rfl rfl (fun _ => EX.extract rfl rfl) ?_
        refine QW.val rfl rfl (fun _ => EX.assign rfl) ?_
        refine QW.val rfl rfl (fun _ => EX.assign rfl) ?_
        refine QW.nil (fun nq => ?_)
        refine KW.seq (KW.seq (KW.region ?_))
        refine OW.val rfl rfl (EX.move rfl) ?_
        refine OW.val rfl rfl (by first | exact EX.neqN (b := 0) rfl rfl | exact EX.neqZ rfl rfl) ?_
        refine OW.nil ?_
        rw [← hnm]
        refine KW.condD rfl (fun hbad => ?_) (fun hbad => ?_)
        · refine KW.seq (KW.region ?_)
          refine OW.val rfl rfl (EX.buildS (pl := [(0, 1), (1, 1), (2, 1), (3, 1), (4, 1), (5, 1), (6, 2), (8, 2)]) (ks := []) (is := []) (zs := [str [], .int .i64 0, .int .u8 0, .int .i64 0, .int .i64 0, str [], str [], str [], .int .i64 0, .int .i64 0]) Tryz.underlying72 ti72 (by kernel_rfl) rfl rfl rfl (by first | rfl | (simp only [List.all_cons, List.all_nil, Bool.and_true, Bool.true_and, Bool.and_eq_true, Value.oneCell']; repeat (first | assumption | exact Own.one (by assumption) | constructor))) (by simp only [setAll, List.set_cons_zero, List.set_cons_succ]; rfl)) ?_
          refine OW.storeS rfl ti72 rfl rfl rfl (by first | rfl | (simp only [List.all_cons, List.all_nil, Bool.and_true, Bool.true_and, Bool.and_eq_true, Value.oneCell']; repeat (first | assumption | exact Own.one (by assumption) | constructor))) (hr.drewN _) (Nat.le_refl _) ?_
          rintro w3 hr3 hm3
          refine OW.val rfl rfl (EX.assign rfl) ?_
          refine OW.nil ?_
          refine KW.ret (retC2 rfl Tryz.underlying72 rfl ti72 rfl rfl (hr3) rfl ?_)
          have hne : (nmb s i).2 ≠ 0 := by omega
          refine bye (fun h => hne ?_) _ _ (xr.trans (Ext.drewN wr nq)) hm3
          have : i = 0 ∨ i = 1 ∨ i = 2 ∨ i = 3 ∨ i = 4 ∨ i = 5 := by omega
          rcases this with rfl | rfl | rfl | rfl | rfl | rfl
          · exact h.mode
          · exact h.i0
          · exact h.i1
          · exact h.size
          · exact h.time
          · exact h.sum
        · refine KW.skip (KW.region ?_)
          refine OW.val rfl rfl (EX.move rfl) ?_
          refine OW.val rfl rfl (EX.move rfl) ?_
          have hx3 := hx.trans (Ext.drewN wr nq)
          have hownq := hown.ext (Ext.drewN wr nq)
          refine OW.push rfl rfl (fun _ => rfl) rfl Tryz.underlying130 ti3 rfl rfl (fun _ => rfl) rfl (hx3) (hownq) (by simp only [maxLen]; omega) (by omega) ?_
          rintro _ v4 w4 hown4 hx4 hg4 _
          refine OW.val rfl rfl (EX.assign rfl) ?_
          refine OW.nil ?_
          refine KW.leave (KW.region ?_)
          refine OW.val rfl rfl (EX.move rfl) ?_
          refine OW.val rfl rfl (by first | exact EX.addN (b := 1) (m := 9223372036854775807) rfl rfl rfl (by omega) | exact EX.addZ (m := 9223372036854775807) rfl rfl rfl rfl (by omega)) ?_
          refine OW.val rfl rfl (EX.assign rfl) ?_
          refine OW.nil ?_
          refine KW.back3 (i + 1) (v4) (w4) ⟨rfl, rfl, rfl, rfl, rfl, trivial⟩ rfl ?_ (by omega)
          refine ⟨by omega, fun j hj => ?_, ?_, hx4, hr2.ext hx4⟩
          · by_cases e : j = i
            · subst e
              omega
            · exact hz j (by omega)
          · rw [List.range_succ, List.map_append]
            simpa [ints] using hown4
      · obtain rfl : i = 6 := by omega
        obtain ⟨g, cap, rest, rfl, hg, hbg, hlen6, hc1, hc2⟩ : ∃ g cap rest, v = .slice (some ⟨g, 0, none⟩) 6 cap ∧ w2.heap.size ≤ g ∧ Bk wr g 3 (ints .i64 ((List.range 6).map fun j => (nmb s j).1) ++ rest) ∧ (ints .i64 ((List.range 6).map fun j => (nmb s j).1)).length + rest.length = cap * 1 ∧ 6 ≤ cap ∧ cap ≤ maxLen := by
          rcases hown.2 with ⟨_, h⟩ | h
          · cases h
          · exact h
        replace hbg : Bk wr g 3 (six s ++ rest) := hbg
        have hsum : sum s = (sumTo s 512, 0) := by unfold sum; rw [if_neg (by omega)]
        have cs := refSum_s s hs wr
        rw [hsum] at cs
        have hk156 : s[156]? = some (s.getD 156 0) := by simp [List.getD_eq_getElem?_getD, h512]
        refine KW.exit rfl (KW.seq (KW.region ?_))
        refine OW.val rfl rfl (EX.move rfl) ?_
        refine OW.call rfl rfl rfl (cs) ?_
        rintro _ _ ⟨rfl, rfl⟩
        refine OW.val rfl rfl (EX.move rfl) ?_
        refine OW.val rfl rfl (EX.extract rfl rfl) ?_
        refine OW.val rfl rfl (EX.extract rfl rfl) ?_
        refine OW.val rfl rfl (EX.assign rfl) ?_
        refine OW.val rfl rfl (EX.assign rfl) ?_
        refine OW.nil ?_
        refine KW.seq ?_
        refine KW.cut2 (fun (hb : Nat) (wq : World) => Ext w wq ∧ w.heap.size ≤ hb ∧ rb ≠ hb ∧ Bk wq rb 72 hd0.cells ∧ Bk wq g 3 (six s ++ rest) ∧ Bk wq hb 72 (Hd.cells ⟨[], ((nmb s 3).1 : Nat), (s.getD 156 0).toNat, ((nmb s 0).1 : Nat), ((nmb s 4).1 : Nat), cut (sl s 157 100), [], [], ((nmb s 1).1 : Nat), ((nmb s 2).1 : Nat)⟩)) (fun (hb : Nat) (wq : World) => [(0, str (s)), (2, .pointer (some ⟨rb, 0, none⟩)), (4, .slice (some ⟨g, 0, none⟩) 6 cap), (9, .int .i64 (((sumTo s 512) : Nat) : Int)), (11, .pointer (some ⟨hb, 0, none⟩))]) (fun (hb : Nat) (wq : World) => wq) ?_ ?_
        · skip
          refine KW.regionG (N := 24) (fun w' => Ext w w' ∧ Bk w' g 3 (six s ++ rest)) (by kernel_rfl) rfl ?_
          have hS : (fun w' => Ext w w' ∧ Bk w' g 3 (six s ++ rest)) wr.drew := ⟨xr.trans (Ext.drew wr), hbg.drew⟩
          have hr := hr.ext (Ext.drew _)
          refine GW.val 0 rfl (by kernel_rfl) (by kernel_rfl) (by kernel_rfl) rfl rfl hS (fun w' hS' => EX.move rfl) ?_
          refine GW.val 1 rfl (by kernel_rfl) (by kernel_rfl) (by kernel_rfl) rfl rfl hS (fun w' hS' => by first | exact EX.indexAddrS0 (i := 0) Tryz.underlying130 ti3 rfl rfl (by omega) | exact EX.indexAddrS1 (i := 0) Tryz.underlying130 ti3 rfl rfl (by omega)) ?_
          refine GW.val 2 rfl (by kernel_rfl) (by kernel_rfl) (by kernel_rfl) rfl rfl hS (fun w' hS' => EX.load Tryz.underlying3 rfl rfl (hS'.2.cell_of rfl)) ?_
          refine GW.val 3 rfl (by kernel_rfl) (by kernel_rfl) (by kernel_rfl) rfl rfl hS (fun w' hS' => EX.move rfl) ?_
          refine GW.val 4 rfl (by kernel_rfl) (by kernel_rfl) (by kernel_rfl) rfl rfl hS (fun w' hS' => by first | exact EX.indexAddrS0 (i := 1) Tryz.underlying130 ti3 rfl rfl (by omega) | exact EX.indexAddrS1 (i := 1) Tryz.underlying130 ti3 rfl rfl (by omega)) ?_
          refine GW.val 5 rfl (by kernel_rfl) (by kernel_rfl) (by kernel_rfl) rfl rfl hS (fun w' hS' => EX.load Tryz.underlying3 rfl rfl (hS'.2.cell_of rfl)) ?_
          refine GW.val 6 rfl (by kernel_rfl) (by kernel_rfl) (by kernel_rfl) rfl rfl hS (fun w' hS' => EX.move rfl) ?_
          refine GW.val 7 rfl (by kernel_rfl) (by kernel_rfl) (by kernel_rfl) rfl rfl hS (fun w' hS' => by first | exact EX.indexAddrS0 (i := 2) Tryz.underlying130 ti3 rfl rfl (by omega) | exact EX.indexAddrS1 (i := 2) Tryz.underlying130 ti3 rfl rfl (by omega)) ?_
          refine GW.val 8 rfl (by kernel_rfl) (by kernel_rfl) (by kernel_rfl) rfl rfl hS (fun w' hS' => EX.load Tryz.underlying3 rfl rfl (hS'.2.cell_of rfl)) ?_
          refine GW.val 9 rfl (by kernel_rfl) (by kernel_rfl) (by kernel_rfl) rfl rfl hS (fun w' hS' => EX.buildA2 (zs := [.int .i64 0, .int .i64 0]) Tryz.underlying70 ti70 ti3 rfl rfl rfl (by first | rfl | assumption) (by first | rfl | assumption)) ?_
          refine GW.val 10 rfl (by kernel_rfl) (by kernel_rfl) (by kernel_rfl) rfl rfl hS (fun w' hS' => EX.move rfl) ?_
          refine GW.val 11 rfl (by kernel_rfl) (by kernel_rfl) (by kernel_rfl) rfl rfl hS (fun w' hS' => by first | exact EX.indexAddrS0 (i := 3) Tryz.underlying130 ti3 rfl rfl (by omega) | exact EX.indexAddrS1 (i := 3) Tryz.underlying130 ti3 rfl rfl (by omega)) ?_
          refine GW.val 12 rfl (by kernel_rfl) (by kernel_rfl) (by kernel_rfl) rfl rfl hS (fun w' hS' => EX.load Tryz.underlying3 rfl rfl (hS'.2.cell_of rfl)) ?_
          refine GW.val 13 rfl (by kernel_rfl) (by kernel_rfl) (by kernel_rfl) rfl rfl hS (fun w' hS' => EX.move rfl) ?_
          refine GW.val 14 rfl (by kernel_rfl) (by kernel_rfl) (by kernel_rfl) rfl rfl hS (fun w' hS' => by first | exact EX.indexAddrS0 (i := 4) Tryz.underlying130 ti3 rfl rfl (by omega) | exact EX.indexAddrS1 (i := 4) Tryz.underlying130 ti3 rfl rfl (by omega)) ?_
          refine GW.val 15 rfl (by kernel_rfl) (by kernel_rfl) (by kernel_rfl) rfl rfl hS (fun w' hS' => EX.load Tryz.underlying3 rfl rfl (hS'.2.cell_of rfl)) ?_
          refine GW.val 16 rfl (by kernel_rfl) (by kernel_rfl) (by kernel_rfl) rfl rfl hS (fun w' hS' => EX.move rfl) ?_
          refine GW.val 17 rfl (by kernel_rfl) (by kernel_rfl) (by kernel_rfl) rfl rfl hS (fun w' hS' => EX.indexS (i := 156) Tryz.underlying9 rfl rfl hk156) ?_
          refine GW.val 18 rfl (by kernel_rfl) (by kernel_rfl) (by kernel_rfl) rfl rfl hS (fun w' hS' => EX.move rfl) ?_
          refine GW.val 19 rfl (by kernel_rfl) (by kernel_rfl) (by kernel_rfl) rfl rfl hS (fun w' hS' => EX.sliceLH (i := 157) (j := 257) Tryz.underlying9 rfl rfl rfl (by omega)) ?_
          refine GW.two 20 22 (by kernel_rfl) ?_ ?_
          · refine GO.call 20 rfl rfl rfl rfl (refCut_s (sl s 157 100) (by have := sl_len h512 157 100; omega) wr.drew) ?_
            rintro _ _ ⟨rfl, rfl⟩
            refine ⟨hS, fun hS => ?_⟩
            refine GW.val 21 rfl (by kernel_rfl) (by kernel_rfl) (by kernel_rfl) rfl rfl hS (fun w' hS' => EX.buildH (pl := [(0, 1), (1, 1), (2, 1), (3, 1), (4, 1), (5, 1), (6, 2), (8, 2)]) (ks := [3, 7, 1, 4, 2, 5]) (zs := [str [], .int .i64 0, .int .u8 0, .int .i64 0, .int .i64 0, str [], str [], str [], .int .i64 0, .int .i64 0]) Tryz.underlying72 ti72 (by kernel_rfl) rfl rfl (by simp only [List.map_cons, List.map_nil, Value.cells]; rfl) rfl rfl (by simp only [fillL, List.zip_cons_cons, List.zip_nil_right, List.zip_nil_left, List.getD_cons_zero, List.getD_cons_succ, List.length_cons, List.length_nil, Nat.zero_add, Nat.add_zero, Nat.reduceAdd, List.take_succ_cons, List.take_zero, List.drop_succ_cons, List.drop_zero, List.nil_append, List.cons_append]; rfl)) ?_
            refine GW.allocB (l := [str [], .int .i64 0, .int .u8 0, .int .i64 0, .int .i64 0, str [], str [], str [], .int .i64 0, .int .i64 0]) 22 rfl (by kernel_rfl) rfl rfl ti72 rfl ?_
            rintro hb w22 hge22 h22 hx22
            have hne : rb ≠ hb := fun q => (by have := hr.lt; omega)
            have hxge : w.heap.size ≤ hb := (by have := hS.1.size; omega)
            refine ⟨⟨hS.1.trans hx22, hS.2.ext hx22⟩, fun hS => ?_⟩
            have hr := hr.ext hx22
            refine GW.storeS 23 rfl (by kernel_rfl) rfl ti72 rfl rfl rfl (by first | rfl | (simp only [List.all_cons, List.all_nil, Bool.and_true, Bool.true_and, Bool.and_eq_true, Value.oneCell']; repeat (first | assumption | constructor))) (h22) (Nat.le_refl _) ?_
            rintro w23 hb23 hm23
            refine ⟨⟨below_mo hS.1 hm23 hS.1.size (fun k hk => by simp at hk; omega), hS.2.mo hm23 (by simp; exact hS.2.ne h22 (by decide))⟩, fun hS => ?_⟩
            have hr := hr.mo hm23 (by simp; exact hne)
            refine GW.done (by kernel_rfl) ?_
            refine KW.meet2 hb w23 ⟨rfl, rfl, rfl, rfl, rfl, trivial⟩ rfl ?_
            exact ⟨hS.1, hxge, hne, hr, hS.2, hb23⟩
          · refine GO.allocB (l := [str [], .int .i64 0, .int .u8 0, .int .i64 0, .int .i64 0, str [], str [], str [], .int .i64 0, .int .i64 0]) 22 rfl rfl rfl ti72 rfl ?_
            rintro hb w22 hge22 h22 hx22
            have hne : rb ≠ hb := fun q => (by have := hr.lt; omega)
            have hxge : w.heap.size ≤ hb := (by have := hS.1.size; omega)
            refine ⟨⟨hS.1.trans hx22, hS.2.ext hx22⟩, fun hS => ?_⟩
            have hr := hr.ext hx22
            refine GW.call 20 rfl (by kernel_rfl) rfl rfl rfl (refCut_s (sl s 157 100) (by have := sl_len h512 157 100; omega) w22) ?_
            rintro _ _ ⟨rfl, rfl⟩
            refine ⟨hS, fun hS => ?_⟩
            refine GW.val 21 rfl (by kernel_rfl) (by kernel_rfl) (by kernel_rfl) rfl rfl hS (fun w' hS' => EX.buildH (pl := [(0, 1), (1, 1), (2, 1), (3, 1), (4, 1), (5, 1), (6, 2), (8, 2)]) (ks := [3, 7, 1, 4, 2, 5]) (zs := [str [], .int .i64 0, .int .u8 0, .int .i64 0, .int .i64 0, str [], str [], str [], .int .i64 0, .int .i64 0]) Tryz.underlying72 ti72 (by kernel_rfl) rfl rfl (by simp only [List.map_cons, List.map_nil, Value.cells]; rfl) rfl rfl (by simp only [fillL, List.zip_cons_cons, List.zip_nil_right, List.zip_nil_left, List.getD_cons_zero, List.getD_cons_succ, List.length_cons, List.length_nil, Nat.zero_add, Nat.add_zero, Nat.reduceAdd, List.take_succ_cons, List.take_zero, List.drop_succ_cons, List.drop_zero, List.nil_append, List.cons_append]; rfl)) ?_
            refine GW.storeS 23 rfl (by kernel_rfl) rfl ti72 rfl rfl rfl (by first | rfl | (simp only [List.all_cons, List.all_nil, Bool.and_true, Bool.true_and, Bool.and_eq_true, Value.oneCell']; repeat (first | assumption | constructor))) (h22) (Nat.le_refl _) ?_
            rintro w23 hb23 hm23
            refine ⟨⟨below_mo hS.1 hm23 hS.1.size (fun k hk => by simp at hk; omega), hS.2.mo hm23 (by simp; exact hS.2.ne h22 (by decide))⟩, fun hS => ?_⟩
            have hr := hr.mo hm23 (by simp; exact hne)
            refine GW.done (by kernel_rfl) ?_
            refine KW.meet2 hb w23 ⟨rfl, rfl, rfl, rfl, rfl, trivial⟩ rfl ?_
            exact ⟨hS.1, hxge, hne, hr, hS.2, hb23⟩
        · rintro hb wq ⟨xq, hlo, hne, hrq, hgq, hhq⟩
          have hgo : ∀ (w' w'' : World) (l : List Value), Ext w w' → Bk w' rb 72 hd0.cells → Bk w' g 3 (six s ++ rest) → Bk w'' hb 72 l → Mo w' w'' [hb] → (∀ l', Bk w' hb 72 l' → (Ext w w'' ∧ Bk w'' rb 72 hd0.cells ∧ Bk w'' g 3 (six s ++ rest) ∧ Bk w'' hb 72 l)) := fun w' w'' l hx hr hg hh hm l' hh' =>
            ⟨below_mo hx hm hx.size (fun k hk => by simp at hk; omega), hr.mo hm (by simp; exact hne), hg.mo hm (by simp; exact hg.ne hh' (by decide)), hh⟩
          refine KW.seq ?_
          refine KW.cut1 (fun (wz : World) => Ext w wz ∧ Bk wz rb 72 hd0.cells ∧ Bk wz g 3 (six s ++ rest) ∧ Bk wz hb 72 (Hd.cells ⟨[], ((nmb s 3).1 : Nat), (s.getD 156 0).toNat, ((nmb s 0).1 : Nat), ((nmb s 4).1 : Nat), cut (sl s 157 100), cut (sl s 265 32), cut (sl s 297 32), ((nmb s 1).1 : Nat), ((nmb s 2).1 : Nat)⟩)) (fun (wz : World) => [(0, str (s)), (2, .pointer (some ⟨rb, 0, none⟩)), (4, .slice (some ⟨g, 0, none⟩) 6 cap), (9, .int .i64 (((sumTo s 512) : Nat) : Int)), (11, .pointer (some ⟨hb, 0, none⟩))]) (fun (wz : World) => wz) ?_ ?_
          · skip
            refine KW.regionG (N := 9) (fun w' => Ext w w' ∧ Bk w' g 3 (six s ++ rest)) (by kernel_rfl) rfl ?_
            have hS : (fun w' => Ext w w' ∧ Bk w' g 3 (six s ++ rest)) wq.drew := ⟨xq.trans (Ext.drew wq), hgq.drew⟩
            have hrq := hrq.ext (Ext.drew _)
            have hhq := hhq.ext (Ext.drew _)
            refine GW.val 0 rfl (by kernel_rfl) (by kernel_rfl) (by kernel_rfl) rfl rfl hS (fun w' hS' => EX.move rfl) ?_
            refine GW.val 1 rfl (by kernel_rfl) (by kernel_rfl) (by kernel_rfl) rfl rfl hS (fun w' hS' => EX.sliceLH (i := 265) (j := 297) Tryz.underlying9 rfl rfl rfl (by omega)) ?_
            refine GW.val 3 rfl (by kernel_rfl) (by kernel_rfl) (by kernel_rfl) rfl rfl hS (fun w' hS' => EX.move rfl) ?_
            refine GW.val 4 rfl (by kernel_rfl) (by kernel_rfl) (by kernel_rfl) rfl rfl hS (fun w' hS' => EX.sliceLH (i := 297) (j := 329) Tryz.underlying9 rfl rfl rfl (by omega)) ?_
            refine GW.call 2 rfl (by kernel_rfl) rfl rfl rfl (refCut_s (sl s 265 32) (by have := sl_len h512 265 32; omega) wq.drew) ?_
            rintro _ _ ⟨rfl, rfl⟩
            refine ⟨hS, fun hS => ?_⟩
            refine GW.call 5 rfl (by kernel_rfl) rfl rfl rfl (refCut_s (sl s 297 32) (by have := sl_len h512 297 32; omega) wq.drew) ?_
            rintro _ _ ⟨rfl, rfl⟩
            refine ⟨hS, fun hS => ?_⟩
            refine GW.val 6 rfl (by kernel_rfl) (by kernel_rfl) (by kernel_rfl) rfl rfl hS (fun w' hS' => EX.buildA2 (zs := [str [], str []]) Tryz.underlying69 ti69 ti9 rfl rfl rfl (by first | rfl | assumption) (by first | rfl | assumption)) ?_
            refine GW.val 7 rfl (by kernel_rfl) (by kernel_rfl) (by kernel_rfl) rfl rfl hS (fun w' hS' => EX.fieldAddr (off := 6) Tryz.underlying72 rfl rfl ti69 rfl rfl) ?_
            refine GW.storeS 8 rfl (by kernel_rfl) rfl ti69 rfl rfl rfl (by first | rfl | (simp only [List.all_cons, List.all_nil, Bool.and_true, Bool.true_and, Bool.and_eq_true, Value.oneCell']; repeat (first | assumption | constructor))) (hhq) (of_decide_eq_true rfl) ?_
            rintro w8 hb8 hm8
            refine ⟨⟨below_mo hS.1 hm8 hS.1.size (fun k hk => by simp at hk; omega), hS.2.mo hm8 (by simp; exact hS.2.ne hhq (by decide))⟩, fun hS => ?_⟩
            have hrq := hrq.mo hm8 (by simp; exact hne)
            refine GW.done (by kernel_rfl) ?_
            refine KW.meet1 w8 ⟨rfl, rfl, rfl, rfl, rfl, trivial⟩ rfl ?_
            exact ⟨hS.1, hrq, hS.2, hb8⟩
          · rintro wz ⟨xz, hrz, hgz, hhz⟩
            have hpn := cut_le (sl s 0 100)
            have hpp := cut_le (sl s 345 155)
            have hsl1 := sl_len h512 0 100
            have hsl2 := sl_len h512 345 155
            refine KW.seq (KW.region ?_)
            refine OW.val rfl rfl (EX.move rfl) ?_
            refine OW.val rfl rfl (EX.sliceFH (j := 100) Tryz.underlying9 rfl rfl (by omega)) ?_
            refine OW.call rfl rfl rfl (refCut_s (sl s 0 100) (by omega) wz) ?_
            rintro _ _ ⟨rfl, rfl⟩
            refine OW.val rfl rfl (EX.fieldAddr (off := 0) Tryz.underlying72 rfl rfl ti9 rfl rfl) ?_
            refine OW.storeB rfl ti9 rfl rfl (by first | rfl | assumption | exact Own.one (by assumption)) (hhz) (of_decide_eq_true rfl) ?_
            rintro wa hha hma
            refine OW.nil ?_
            refine KW.seq (KW.region ?_)
            refine OW.val rfl rfl (EX.move rfl) ?_
            refine OW.val rfl rfl (EX.sliceLH (i := 345) (j := 500) Tryz.underlying9 rfl rfl rfl (by omega)) ?_
            obtain ⟨xa, hra, hga, hha⟩ := hgo wz wa _ xz hrz hgz hha hma _ hhz
            replace hha : Bk wa hb 72 (Hd.cells ⟨cut (sl s 0 100), ((nmb s 3).1 : Nat), (s.getD 156 0).toNat, ((nmb s 0).1 : Nat), ((nmb s 4).1 : Nat), cut (sl s 157 100), cut (sl s 265 32), cut (sl s 297 32), ((nmb s 1).1 : Nat), ((nmb s 2).1 : Nat)⟩) := hha
            refine OW.call rfl rfl rfl (refCut_s (sl s 345 155) (by omega) wa) ?_
            rintro _ _ ⟨rfl, rfl⟩
            refine OW.val rfl rfl (EX.assign rfl) ?_
            refine OW.nil ?_
            refine KW.seq (KW.seq (KW.region ?_))
            refine OW.val rfl rfl (EX.move rfl) ?_
            refine OW.val rfl rfl (EX.neqS (r := []) rfl rfl) ?_
            refine OW.nil ?_
            refine KW.cut1 (fun (wb : World) => Ext w wb ∧ Bk wb rb 72 hd0.cells ∧ Bk wb g 3 (six s ++ rest) ∧ Bk wb hb 72 (Hd.cells ⟨pathD s, ((nmb s 3).1 : Nat), (s.getD 156 0).toNat, ((nmb s 0).1 : Nat), ((nmb s 4).1 : Nat), cut (sl s 157 100), cut (sl s 265 32), cut (sl s 297 32), ((nmb s 1).1 : Nat), ((nmb s 2).1 : Nat)⟩)) (fun (wb : World) => [(0, str (s)), (2, .pointer (some ⟨rb, 0, none⟩)), (4, .slice (some ⟨g, 0, none⟩) 6 cap), (9, .int .i64 (((sumTo s 512) : Nat) : Int)), (11, .pointer (some ⟨hb, 0, none⟩))]) (fun (wb : World) => wb) ?_ ?_
            · refine KW.condD rfl (fun hpre => ?_) (fun hpre => ?_)
              · have e : pathD s = cut (sl s 345 155) ++ [47] ++ cut (sl s 0 100) := by unfold pathD; rw [if_pos hpre]
                refine KW.region ?_
                refine OW.val rfl rfl (EX.move rfl) ?_
                refine OW.val rfl rfl (EX.addS (r := [47]) rfl rfl (by first | omega | (simp only [List.length_append, List.length_cons, List.length_nil, List.length_take, List.length_drop, List.length_replicate]; omega))) ?_
                refine OW.val rfl rfl (EX.fieldAddr (off := 0) Tryz.underlying72 rfl rfl ti9 rfl rfl) ?_
                refine OW.val rfl rfl (EX.load Tryz.underlying9 rfl rfl (hha.cell_of rfl)) ?_
                refine OW.val rfl rfl (EX.addS rfl rfl (by first | omega | (simp only [List.length_append, List.length_cons, List.length_nil, List.length_take, List.length_drop, List.length_replicate]; omega))) ?_
                refine OW.val rfl rfl (EX.fieldAddr (off := 0) Tryz.underlying72 rfl rfl ti9 rfl rfl) ?_
                refine OW.storeB rfl ti9 rfl rfl (by first | rfl | assumption | exact Own.one (by assumption)) (hha) (of_decide_eq_true rfl) ?_
                rintro wb hhb hmb
                refine OW.nil ?_
                refine KW.meet1 (wb) ⟨rfl, rfl, rfl, rfl, rfl, trivial⟩ rfl ?_
                rw [e]
                exact hgo wa wb _ xa hra hga hhb hmb _ hha
              · have e : pathD s = cut (sl s 0 100) := by unfold pathD; rw [if_neg hpre]
                refine KW.skip ?_
                refine KW.meet1 (wa) ⟨rfl, rfl, rfl, rfl, rfl, trivial⟩ rfl ?_
                rw [e]
                exact ⟨xa, hra, hga, hha⟩
            · rintro wb ⟨xb, hrb, hgb, hhb⟩
              refine KW.seq (KW.seq (KW.region ?_))
              refine OW.val rfl rfl (EX.fieldAddr (off := 2) Tryz.underlying72 rfl rfl ti5 rfl rfl) ?_
              refine OW.val rfl rfl (EX.load Tryz.underlying5 rfl rfl (hhb.cell_of rfl)) ?_
              refine OW.val rfl rfl (by first | exact EX.eqlN (b := 0) rfl rfl | exact EX.eqlZ rfl rfl) ?_
              refine OW.nil ?_
              refine KW.cut1 (fun (wc : World) => Ext w wc ∧ Bk wc rb 72 hd0.cells ∧ Bk wc g 3 (six s ++ rest) ∧ Bk wc hb 72 (hdD s).cells) (fun (wc : World) => [(0, str (s)), (2, .pointer (some ⟨rb, 0, none⟩)), (4, .slice (some ⟨g, 0, none⟩) 6 cap), (9, .int .i64 (((sumTo s 512) : Nat) : Int)), (11, .pointer (some ⟨hb, 0, none⟩))]) (fun (wc : World) => wc) ?_ ?_
              · refine KW.condD rfl (fun hk0 => ?_) (fun hk0 => ?_)
                · have e : kindD s = 48 := by unfold kindD; rw [if_pos (by omega)]
                  refine KW.region ?_
                  refine OW.val rfl rfl (EX.fieldAddr (off := 2) Tryz.underlying72 rfl rfl ti5 rfl rfl) ?_
                  refine OW.storeB rfl ti5 rfl rfl (by first | rfl | assumption | exact Own.one (by assumption)) (hhb) (of_decide_eq_true rfl) ?_
                  rintro wc hhc hmc
                  refine OW.nil ?_
                  refine KW.meet1 (wc) ⟨rfl, rfl, rfl, rfl, rfl, trivial⟩ rfl ?_
                  unfold hdD
                  rw [e]
                  exact hgo wb wc _ xb hrb hgb hhc hmc _ hhb
                · have e : kindD s = (s.getD 156 0).toNat := by unfold kindD; rw [if_neg (by omega)]
                  refine KW.skip ?_
                  refine KW.meet1 (wb) ⟨rfl, rfl, rfl, rfl, rfl, trivial⟩ rfl ?_
                  unfold hdD
                  rw [e]
                  exact ⟨xb, hrb, hgb, hhb⟩
              · rintro wc ⟨xc, hrc, hgc, hhc⟩
                have z0 := hz 0 (by decide)
                have z1 := hz 1 (by decide)
                have z2 := hz 2 (by decide)
                have z3 := hz 3 (by decide)
                have z4 := hz 4 (by decide)
                have z5 := hz 5 (by decide)
                refine KW.seq (KW.seq ?_)
                refine KW.region ?_
                refine OW.val rfl rfl (EX.move rfl) ?_
                refine OW.val rfl rfl (by first | exact EX.indexAddrS0 (i := 5) Tryz.underlying130 ti3 rfl rfl (by omega) | exact EX.indexAddrS1 (i := 5) Tryz.underlying130 ti3 rfl rfl (by omega)) ?_
                refine OW.val rfl rfl (EX.load Tryz.underlying3 rfl rfl (hgc.cell_of rfl)) ?_
                refine OW.val rfl rfl (EX.move rfl) ?_
                refine OW.val rfl rfl (by first | exact EX.neqN rfl rfl | exact EX.neqZ rfl rfl) ?_
                refine OW.val rfl rfl (EX.move rfl) ?_
                refine OW.splitD 108 rfl (fun c1 => ?_) (fun c1 => ?_)
                · refine OW.pass rfl rfl ?_
                  refine OW.pass rfl rfl ?_
                  refine OW.pass rfl rfl ?_
                  refine OW.val rfl rfl (EX.pickT rfl rfl) ?_
                  refine OW.nil ?_
                  refine KW.condT rfl (KW.seq (KW.region ?_))
                  refine OW.val rfl rfl (EX.buildS (pl := [(0, 1), (1, 1), (2, 1), (3, 1), (4, 1), (5, 1), (6, 2), (8, 2)]) (ks := []) (is := []) (zs := [str [], .int .i64 0, .int .u8 0, .int .i64 0, .int .i64 0, str [], str [], str [], .int .i64 0, .int .i64 0]) Tryz.underlying72 ti72 (by kernel_rfl) rfl rfl rfl (by first | rfl | (simp only [List.all_cons, List.all_nil, Bool.and_true, Bool.true_and, Bool.and_eq_true, Value.oneCell']; repeat (first | assumption | exact Own.one (by assumption) | constructor))) (by simp only [setAll, List.set_cons_zero, List.set_cons_succ]; rfl)) ?_
                  refine OW.storeS rfl ti72 rfl rfl rfl (by first | rfl | (simp only [List.all_cons, List.all_nil, Bool.and_true, Bool.true_and, Bool.and_eq_true, Value.oneCell']; repeat (first | assumption | exact Own.one (by assumption) | constructor))) (hrc) (Nat.le_refl _) ?_
                  rintro wd hrd hmd
                  refine OW.val rfl rfl (EX.assign rfl) ?_
                  refine OW.nil ?_
                  refine KW.ret (retC2 rfl Tryz.underlying72 rfl ti72 rfl rfl (hrd) rfl ?_)
                  exact bye (fun h => c1 h.sums) _ _ xc hmd
                · refine OW.val rfl rfl (EX.fieldAddr (off := 0) Tryz.underlying72 rfl rfl ti9 rfl rfl) ?_
                  refine OW.val rfl rfl (EX.load Tryz.underlying9 rfl rfl (hhc.cell_of rfl)) ?_
                  refine OW.val rfl rfl (EX.eqlS (r := []) rfl rfl) ?_
                  refine OW.val rfl rfl (EX.pickF rfl rfl) ?_
                  refine OW.nil ?_
                  refine KW.condD rfl (fun c3 => ?_) (fun c3 => ?_)
                  · refine KW.seq (KW.region ?_)
                    refine OW.val rfl rfl (EX.buildS (pl := [(0, 1), (1, 1), (2, 1), (3, 1), (4, 1), (5, 1), (6, 2), (8, 2)]) (ks := []) (is := []) (zs := [str [], .int .i64 0, .int .u8 0, .int .i64 0, .int .i64 0, str [], str [], str [], .int .i64 0, .int .i64 0]) Tryz.underlying72 ti72 (by kernel_rfl) rfl rfl rfl (by first | rfl | (simp only [List.all_cons, List.all_nil, Bool.and_true, Bool.true_and, Bool.and_eq_true, Value.oneCell']; repeat (first | assumption | exact Own.one (by assumption) | constructor))) (by simp only [setAll, List.set_cons_zero, List.set_cons_succ]; rfl)) ?_
                    refine OW.storeS rfl ti72 rfl rfl rfl (by first | rfl | (simp only [List.all_cons, List.all_nil, Bool.and_true, Bool.true_and, Bool.and_eq_true, Value.oneCell']; repeat (first | assumption | exact Own.one (by assumption) | constructor))) (hrc) (Nat.le_refl _) ?_
                    rintro wd hrd hmd
                    refine OW.val rfl rfl (EX.assign rfl) ?_
                    refine OW.nil ?_
                    refine KW.ret (retC2 rfl Tryz.underlying72 rfl ti72 rfl rfl (hrd) rfl ?_)
                    exact bye (fun h => h.path c3) _ _ xc hmd
                  · have ok : OkD s := ⟨h512, hmg, z0, z1, z2, z3, z4, z5, by have := Classical.not_not.1 c1; exact_mod_cast this, c3⟩
                    refine KW.skip (KW.seq (KW.region ?_))
                    refine OW.val rfl rfl (EX.loadBk Tryz.underlying72 rfl ti72 rfl (hhc) (rfl)) ?_
                    refine OW.storeS rfl ti72 rfl rfl rfl (by first | rfl | (simp only [List.all_cons, List.all_nil, Bool.and_true, Bool.true_and, Bool.and_eq_true, Value.oneCell']; repeat (first | assumption | exact Own.one (by assumption) | constructor))) (hrc) (Nat.le_refl _) ?_
                    rintro wd hrd hmd
                    refine OW.val rfl rfl (EX.assign rfl) ?_
                    refine OW.nil ?_
                    refine KW.ret (retC2 rfl Tryz.underlying72 rfl ti72 rfl rfl (hrd) rfl ?_)
                    rw [dec_yes ok]
                    exact ⟨rfl, below_mo xc hmd xc.size (fun k hk => by simp at hk; omega)⟩
end Go.Proofs.YtjgeoeeikfjmdaaGreatDoor
/- The engine's laws once more, for bodies of ranges over functions, for what follows them, and for iterators: in a round's frame, or with marks among the deferred calls. No program is spoken of. (Written by kw/mkr.py.) -/
namespace Go.Proofs.YtjgeoeeikfjmdaaGreatDoor
set_option linter.unnecessarySimpa false
open Go.RowKit
set_option linter.unusedSimpArgs false
set_option linter.unusedVariables false
/-- where a walk stands: the round, how deep calls may go, the marks, what is owed at a way out -/
structure RP where
  round : Option Nat
  m : Nat
  ds : List Deferred
  post : Exit → Act → World → Prop
def RP.F (R : RP) : Fence := { Fence.wide with round := R.round }
structure FrD (R : RP) (n : Nat) (σ : Sig) (a : Act) : Prop where
  fr : Fr n σ { a with defers := [] }
  df : a.defers = R.ds
section
variable {R : RP} {n : Nat} {σ σ' : Sig} {a : Act}
theorem FrD.ev (h : FrD R n σ a) {x : Operand} {v : Value} (hx : ev σ x = some v) : a.eval x = v := by
  have := h.fr.ev hx
  cases x <;> exact this
theorem FrD.sub (h : FrD R n σ a) (hs : Subs σ' σ) : FrD R n σ' a := ⟨h.fr.sub hs, h.df⟩
theorem FrD.put (h : FrD R n σ a) {d : Nat} (hd : Nat.blt d n = true) (v : Value) : FrD R n ((d, v) :: σ) (a.put (some d) v) := ⟨h.fr.put hd v, h.df⟩
end
def psr (P : Program) (R : RP) : List KI → Exit → Act → World → Prop
  | [], e => R.post e
  | .code c :: k, e => match e with | .normal => fun a w => c.wpIn R.F R.m P (psr P R k) a w | e => psr P R k e
  | .blk id :: k, e => match e with | .exit i => fun a w => if i = id then psr P R k .normal a w else psr P R k (.exit i) a w | e => psr P R k e
  | .asr I :: k, e => match e with | .normal => I | e => psr P R k e
def KR (P : Program) (R : RP) (k : List KI) (n : Nat) (σ : Sig) (w : World) : Prop := ∀ a, FrD R n σ a → psr P R k .normal a w
section
variable {P : Program} {R : RP} {k : List KI} {n : Nat} {σ : Sig} {w : World}
theorem psr_then (c : Code) (k : List KI) : psr P R (.code c :: k) = Exit.then (fun a w => c.wpIn R.F R.m P (psr P R k) a w) (psr P R k) := by
  funext e a w
  cases e <;> simp [psr, Exit.then]
theorem psr_blk (id : Nat) (k : List KI) : psr P R (.blk id :: k) = Exit.inBlock id (psr P R k) := by
  funext e a w
  cases e <;> simp [psr, Exit.inBlock]
theorem psr_exit {id : Nat} : ∀ {k k' : List KI}, popTo id k = some k' → ∀ a w, psr P R k (.exit id) a w = psr P R k' .normal a w
  | [], _, h, _, _ => by simp [popTo] at h
  | .code c :: k, k', h, a, w => by simp only [popTo] at h; simp only [psr]; exact psr_exit h a w
  | .asr I :: k, k', h, a, w => by simp only [popTo] at h; simp only [psr]; exact psr_exit h a w
  | .blk i :: k, k', h, a, w => by
    simp only [popTo] at h
    simp only [psr]
    by_cases e : id = i
    · subst e
      have : Nat.beq id id = true := by simp
      rw [this] at h
      injection h with h
      subst h
      simp
    · have : Nat.beq id i = false := by
        cases hb : Nat.beq id i with
        | false => rfl
        | true => exact absurd (Nat.eq_of_beq_eq_true hb) e
      rw [this] at h
      rw [if_neg e]
      exact psr_exit h a w
theorem psr_ret : ∀ (k : List KI) (a : Act) (w : World), psr P R k .ret a w = R.post .ret a w
  | [], _, _ => rfl
  | .code _ :: k, a, w => psr_ret k a w
  | .blk _ :: k, a, w => psr_ret k a w
  | .asr _ :: k, a, w => psr_ret k a w

theorem KR.seq {x y : Code} (h : KR P R (.code x :: .code y :: k) n σ w) : KR P R (.code (.seq x y) :: k) n σ w := fun a ha => by
  have := h a ha
  simp only [psr] at this ⊢
  refine wpIn_seq ?_
  rw [← psr_then]
  exact this
theorem KR.block {id : Nat} {c : Code} (h : KR P R (.code c :: .blk id :: k) n σ w) : KR P R (.code (.block id c) :: k) n σ w := fun a ha => by
  have := h a ha
  simp only [psr] at this ⊢
  refine wpIn_block ?_
  rw [← psr_blk]
  exact this
theorem KR.leave {id : Nat} (h : KR P R k n σ w) : KR P R (.blk id :: k) n σ w := fun a ha => h a ha
theorem KR.skip (h : KR P R k n σ w) : KR P R (.code .skip :: k) n σ w := fun a ha => wpIn_skip (h a ha)
theorem KR.label {l : Nat} (h : KR P R k n σ w) : KR P R (.code (.label l) :: k) n σ w := fun a ha => wpIn_label (h a ha)
theorem KR.exit {id : Nat} {k' : List KI} (hk : popTo id k = some k') (h : KR P R k' n σ w) : KR P R (.code (.exit id) :: k) n σ w := fun a ha =>
  wpIn_exit (by rw [psr_exit hk]; exact h a ha)
theorem KR.ret (h : ∀ a, FrD R n σ a → R.post .ret a w) : KR P R (.code .ret :: k) n σ w := fun a ha => wpIn_ret (by rw [psr_ret]; exact h a ha)
theorem KR.done (h : ∀ a, FrD R n σ a → R.post .normal a w) : KR P R [] n σ w := h
theorem KR.sub {σ' : Sig} (hs : Subs σ' σ) (h : KR P R k n σ' w) : KR P R k n σ w := fun a ha => h a (ha.sub hs)
theorem KR.cond {c : Operand} {x y : Code} {b : Bool} (hc : ev σ c = some (.bool b)) (ht : b = true → KR P R (.code x :: k) n σ w) (hf : b = false → KR P R (.code y :: k) n σ w) :
    KR P R (.code (.cond c x y) :: k) n σ w := fun a ha =>
  wpIn_cond_split (ha.ev hc) (fun e => ht e a ha) (fun e => hf e a ha)
theorem KR.condD {c : Operand} {x y : Code} {p : Prop} [Decidable p] (hc : ev σ c = some (.bool (decide p))) (ht : p → KR P R (.code x :: k) n σ w) (hf : ¬ p → KR P R (.code y :: k) n σ w) :
    KR P R (.code (.cond c x y) :: k) n σ w :=
  KR.cond hc (fun e => ht (of_decide_eq_true e)) (fun e => hf (of_decide_eq_false e))
theorem KR.condT {c : Operand} {x y : Code} (hc : ev σ c = some (.bool true)) (h : KR P R (.code x :: k) n σ w) : KR P R (.code (.cond c x y) :: k) n σ w :=
  KR.cond hc (fun _ => h) (fun e => by cases e)
theorem KR.condF {c : Operand} {x y : Code} (hc : ev σ c = some (.bool false)) (h : KR P R (.code y :: k) n σ w) : KR P R (.code (.cond c x y) :: k) n σ w :=
  KR.cond hc (fun e => by cases e) (fun _ => h)

/-- what holds where the ways meet, or at a loop's head -/
def MetR {ι : Type} (R : RP) (n : Nat) (I : ι → Prop) (S : ι → Sig) (W : ι → World) (a : Act) (w : World) : Prop := ∃ i, I i ∧ FrD R n (S i) a ∧ w = W i
theorem KR.cut {ι : Type} (I : ι → Prop) (S : ι → Sig) (W : ι → World) {c : Code} (h : KR P R (.code c :: .asr (MetR R n I S W) :: k) n σ w) (h2 : ∀ i, I i → KR P R k n (S i) (W i)) :
    KR P R (.code c :: k) n σ w := fun a ha => by
  have h1 := h a ha
  simp only [psr] at h1 ⊢
  refine Code.wpIn_mono (fun e a' w' q => ?_) h1
  cases e with
  | normal => obtain ⟨i, hi, hf, rfl⟩ := q; exact h2 i hi a' hf
  | _ => exact q
theorem KR.meet {ι : Type} {I : ι → Prop} {S : ι → Sig} {W : ι → World} (i : ι) (hs : Subs (S i) σ) (hw : w = W i) (hi : I i) : KR P R (.asr (MetR R n I S W) :: k) n σ w :=
  fun _ ha => ⟨i, hi, ha.sub hs, hw⟩
/-- a loop's round ends -/
def BackR {ι : Type} (R : RP) (n : Nat) (I : ι → Prop) (S : ι → Sig) (W : ι → World) (μ : ι → Nat) (i : ι) (a : Act) (w : World) : Prop := ∃ j, I j ∧ μ j < μ i ∧ FrD R n (S j) a ∧ w = W j
theorem KR.back {ι : Type} {I : ι → Prop} {S : ι → Sig} {W : ι → World} {μ : ι → Nat} {i : ι} (j : ι) (hs : Subs (S j) σ) (hw : w = W j) (hi : I j) (hm : μ j < μ i) :
    KR P R (.asr (BackR R n I S W μ i) :: k) n σ w := fun _ ha => ⟨j, hi, hm, ha.sub hs, hw⟩
theorem KR.loop {ι : Type} (I : ι → Prop) (S : ι → Sig) (W : ι → World) (μ : ι → Nat) {c : Code} (i : ι) (hs : Subs (S i) σ) (hw : w = W i) (hi : I i)
    (round : ∀ i, I i → KR P R (.code c :: .asr (BackR R n I S W μ i) :: k) n (S i) (W i)) : KR P R (.code (.loop c) :: k) n σ w := fun a ha => by
  let M (a : Act) (w : World) (m : Nat) : Prop := ∃ i, I i ∧ FrD R n (S i) a ∧ w = W i ∧ μ i = m
  have hex : ∀ a w, (∃ m, M a w m) → ∃ m, M a w m ∧ ∀ m', M a w m' → m ≤ m' := fun a w ⟨m, hm⟩ => least_nat _ m hm
  let ν (a : Act) (w : World) : Nat := Classical.epsilon fun m => M a w m ∧ ∀ m', M a w m' → m ≤ m'
  have hν : ∀ a w, (∃ m, M a w m) → M a w (ν a w) ∧ ∀ m', M a w m' → ν a w ≤ m' := fun a w h => Classical.epsilon_spec (hex a w h)
  simp only [psr]
  refine wpIn_loop (fun a w => ∃ m, M a w m) ν ⟨μ i, i, hi, ha.sub hs, hw, rfl⟩ fun a' w' hm => ?_
  obtain ⟨⟨j, hj, hf, hw', hmu⟩, _⟩ := hν a' w' hm
  have h := round j hj a' hf
  simp only [psr] at h
  subst hw'
  refine Code.wpIn_mono (fun e a'' w'' q => ?_) h
  cases e with
  | normal =>
    obtain ⟨j', h1, h2, h3, h4⟩ := q
    refine ⟨⟨μ j', j', h1, h3, h4, rfl⟩, ?_⟩
    have := (hν a'' w'' ⟨μ j', j', h1, h3, h4, rfl⟩).2 (μ j') ⟨j', h1, h3, h4, rfl⟩
    omega
  | _ => exact q
end

section
variable {P : Program} {R : RP} {k : List KI} {n : Nat} {σ : Sig} {w : World}
def BackR1 {α : Type} (R : RP) (n : Nat) (I : α → Prop) (S : α → Sig) (W : α → World) (μ : α → Nat) (x0 : α) : Act → World → Prop :=
  BackR R n (fun p : α => I p) (fun p => S p) (fun p => W p) (fun p => μ p) x0
def MetR1 {α : Type} (R : RP) (n : Nat) (I : α → Prop) (S : α → Sig) (W : α → World) : Act → World → Prop :=
  MetR R n (fun p : α => I p) (fun p => S p) (fun p => W p)
theorem KR.loop1 {α : Type} (I : α → Prop) (S : α → Sig) (W : α → World) (μ : α → Nat) {c : Code} (x0 : α) (hs : Subs (S x0) σ) (hw : w = W x0) (hi : I x0)
    (round : ∀ x0, I x0 → KR P R (.code c :: .asr (BackR1 R n I S W μ x0) :: k) n (S x0) (W x0)) : KR P R (.code (.loop c) :: k) n σ w :=
  KR.loop (fun p : α => I p) (fun p => S p) (fun p => W p) (fun p => μ p) x0 hs hw hi fun p hp => round p hp
theorem KR.back1 {α : Type} {I : α → Prop} {S : α → Sig} {W : α → World} {μ : α → Nat} {y0 : α} (x0 : α) (hs : Subs (S x0) σ) (hw : w = W x0) (hi : I x0) (hm : μ x0 < μ y0) :
    KR P R (.asr (BackR1 R n I S W μ y0) :: k) n σ w :=
  KR.back (I := fun p : α => I p) (S := fun p => S p) (W := fun p => W p) (μ := fun p => μ p) x0 hs hw hi hm
theorem KR.cut1 {α : Type} (I : α → Prop) (S : α → Sig) (W : α → World) {c : Code} (h : KR P R (.code c :: .asr (MetR1 R n I S W) :: k) n σ w)
    (h2 : ∀ x0, I x0 → KR P R k n (S x0) (W x0)) : KR P R (.code c :: k) n σ w :=
  KR.cut (fun p : α => I p) (fun p => S p) (fun p => W p) h fun p hp => h2 p hp
theorem KR.meet1 {α : Type} {I : α → Prop} {S : α → Sig} {W : α → World} (x0 : α) (hs : Subs (S x0) σ) (hw : w = W x0) (hi : I x0) :
    KR P R (.asr (MetR1 R n I S W) :: k) n σ w :=
  KR.meet (I := fun p : α => I p) (S := fun p => S p) (W := fun p => W p) x0 hs hw hi
def BackR2 {α β : Type} (R : RP) (n : Nat) (I : α → β → Prop) (S : α → β → Sig) (W : α → β → World) (μ : α → β → Nat) (x0 : α) (x1 : β) : Act → World → Prop :=
  BackR R n (fun p : α × β => I p.1 p.2) (fun p => S p.1 p.2) (fun p => W p.1 p.2) (fun p => μ p.1 p.2) (x0, x1)
def MetR2 {α β : Type} (R : RP) (n : Nat) (I : α → β → Prop) (S : α → β → Sig) (W : α → β → World) : Act → World → Prop :=
  MetR R n (fun p : α × β => I p.1 p.2) (fun p => S p.1 p.2) (fun p => W p.1 p.2)
theorem KR.loop2 {α β : Type} (I : α → β → Prop) (S : α → β → Sig) (W : α → β → World) (μ : α → β → Nat) {c : Code} (x0 : α) (x1 : β) (hs : Subs (S x0 x1) σ) (hw : w = W x0 x1) (hi : I x0 x1)
    (round : ∀ x0 x1, I x0 x1 → KR P R (.code c :: .asr (BackR2 R n I S W μ x0 x1) :: k) n (S x0 x1) (W x0 x1)) : KR P R (.code (.loop c) :: k) n σ w :=
  KR.loop (fun p : α × β => I p.1 p.2) (fun p => S p.1 p.2) (fun p => W p.1 p.2) (fun p => μ p.1 p.2) (x0, x1) hs hw hi fun p hp => round p.1 p.2 hp
theorem KR.back2 {α β : Type} {I : α → β → Prop} {S : α → β → Sig} {W : α → β → World} {μ : α → β → Nat} {y0 : α} {y1 : β} (x0 : α) (x1 : β) (hs : Subs (S x0 x1) σ) (hw : w = W x0 x1) (hi : I x0 x1) (hm : μ x0 x1 < μ y0 y1) :
    KR P R (.asr (BackR2 R n I S W μ y0 y1) :: k) n σ w :=
  KR.back (I := fun p : α × β => I p.1 p.2) (S := fun p => S p.1 p.2) (W := fun p => W p.1 p.2) (μ := fun p => μ p.1 p.2) (x0, x1) hs hw hi hm
theorem KR.cut2 {α β : Type} (I : α → β → Prop) (S : α → β → Sig) (W : α → β → World) {c : Code} (h : KR P R (.code c :: .asr (MetR2 R n I S W) :: k) n σ w)
    (h2 : ∀ x0 x1, I x0 x1 → KR P R k n (S x0 x1) (W x0 x1)) : KR P R (.code c :: k) n σ w :=
  KR.cut (fun p : α × β => I p.1 p.2) (fun p => S p.1 p.2) (fun p => W p.1 p.2) h fun p hp => h2 p.1 p.2 hp
theorem KR.meet2 {α β : Type} {I : α → β → Prop} {S : α → β → Sig} {W : α → β → World} (x0 : α) (x1 : β) (hs : Subs (S x0 x1) σ) (hw : w = W x0 x1) (hi : I x0 x1) :
    KR P R (.asr (MetR2 R n I S W) :: k) n σ w :=
  KR.meet (I := fun p : α × β => I p.1 p.2) (S := fun p => S p.1 p.2) (W := fun p => W p.1 p.2) (x0, x1) hs hw hi
def BackR3 {α β γ : Type} (R : RP) (n : Nat) (I : α → β → γ → Prop) (S : α → β → γ → Sig) (W : α → β → γ → World) (μ : α → β → γ → Nat) (x0 : α) (x1 : β) (x2 : γ) : Act → World → Prop :=
  BackR R n (fun p : α × β × γ => I p.1 p.2.1 p.2.2) (fun p => S p.1 p.2.1 p.2.2) (fun p => W p.1 p.2.1 p.2.2) (fun p => μ p.1 p.2.1 p.2.2) (x0, x1, x2)
def MetR3 {α β γ : Type} (R : RP) (n : Nat) (I : α → β → γ → Prop) (S : α → β → γ → Sig) (W : α → β → γ → World) : Act → World → Prop :=
  MetR R n (fun p : α × β × γ => I p.1 p.2.1 p.2.2) (fun p => S p.1 p.2.1 p.2.2) (fun p => W p.1 p.2.1 p.2.2)
theorem KR.loop3 {α β γ : Type} (I : α → β → γ → Prop) (S : α → β → γ → Sig) (W : α → β → γ → World) (μ : α → β → γ → Nat) {c : Code} (x0 : α) (x1 : β) (x2 : γ) (hs : Subs (S x0 x1 x2) σ) (hw : w = W x0 x1 x2) (hi : I x0 x1 x2)
    (round : ∀ x0 x1 x2, I x0 x1 x2 → KR P R (.code c :: .asr (BackR3 R n I S W μ x0 x1 x2) :: k) n (S x0 x1 x2) (W x0 x1 x2)) : KR P R (.code (.loop c) :: k) n σ w :=
  KR.loop (fun p : α × β × γ => I p.1 p.2.1 p.2.2) (fun p => S p.1 p.2.1 p.2.2) (fun p => W p.1 p.2.1 p.2.2) (fun p => μ p.1 p.2.1 p.2.2) (x0, x1, x2) hs hw hi fun p hp => round p.1 p.2.1 p.2.2 hp
theorem KR.back3 {α β γ : Type} {I : α → β → γ → Prop} {S : α → β → γ → Sig} {W : α → β → γ → World} {μ : α → β → γ → Nat} {y0 : α} {y1 : β} {y2 : γ} (x0 : α) (x1 : β) (x2 : γ) (hs : Subs (S x0 x1 x2) σ) (hw : w = W x0 x1 x2) (hi : I x0 x1 x2) (hm : μ x0 x1 x2 < μ y0 y1 y2) :
    KR P R (.asr (BackR3 R n I S W μ y0 y1 y2) :: k) n σ w :=
  KR.back (I := fun p : α × β × γ => I p.1 p.2.1 p.2.2) (S := fun p => S p.1 p.2.1 p.2.2) (W := fun p => W p.1 p.2.1 p.2.2) (μ := fun p => μ p.1 p.2.1 p.2.2) (x0, x1, x2) hs hw hi hm
theorem KR.cut3 {α β γ : Type} (I : α → β → γ → Prop) (S : α → β → γ → Sig) (W : α → β → γ → World) {c : Code} (h : KR P R (.code c :: .asr (MetR3 R n I S W) :: k) n σ w)
    (h2 : ∀ x0 x1 x2, I x0 x1 x2 → KR P R k n (S x0 x1 x2) (W x0 x1 x2)) : KR P R (.code c :: k) n σ w :=
  KR.cut (fun p : α × β × γ => I p.1 p.2.1 p.2.2) (fun p => S p.1 p.2.1 p.2.2) (fun p => W p.1 p.2.1 p.2.2) h fun p hp => h2 p.1 p.2.1 p.2.2 hp
theorem KR.meet3 {α β γ : Type} {I : α → β → γ → Prop} {S : α → β → γ → Sig} {W : α → β → γ → World} (x0 : α) (x1 : β) (x2 : γ) (hs : Subs (S x0 x1 x2) σ) (hw : w = W x0 x1 x2) (hi : I x0 x1 x2) :
    KR P R (.asr (MetR3 R n I S W) :: k) n σ w :=
  KR.meet (I := fun p : α × β × γ => I p.1 p.2.1 p.2.2) (S := fun p => S p.1 p.2.1 p.2.2) (W := fun p => W p.1 p.2.1 p.2.2) (x0, x1, x2) hs hw hi
def BackR4 {α β γ δ : Type} (R : RP) (n : Nat) (I : α → β → γ → δ → Prop) (S : α → β → γ → δ → Sig) (W : α → β → γ → δ → World) (μ : α → β → γ → δ → Nat) (x0 : α) (x1 : β) (x2 : γ) (x3 : δ) : Act → World → Prop :=
  BackR R n (fun p : α × β × γ × δ => I p.1 p.2.1 p.2.2.1 p.2.2.2) (fun p => S p.1 p.2.1 p.2.2.1 p.2.2.2) (fun p => W p.1 p.2.1 p.2.2.1 p.2.2.2) (fun p => μ p.1 p.2.1 p.2.2.1 p.2.2.2) (x0, x1, x2, x3)
def MetR4 {α β γ δ : Type} (R : RP) (n : Nat) (I : α → β → γ → δ → Prop) (S : α → β → γ → δ → Sig) (W : α → β → γ → δ → World) : Act → World → Prop :=
  MetR R n (fun p : α × β × γ × δ => I p.1 p.2.1 p.2.2.1 p.2.2.2) (fun p => S p.1 p.2.1 p.2.2.1 p.2.2.2) (fun p => W p.1 p.2.1 p.2.2.1 p.2.2.2)
theorem KR.loop4 {α β γ δ : Type} (I : α → β → γ → δ → Prop) (S : α → β → γ → δ → Sig) (W : α → β → γ → δ → World) (μ : α → β → γ → δ → Nat) {c : Code} (x0 : α) (x1 : β) (x2 : γ) (x3 : δ) (hs : Subs (S x0 x1 x2 x3) σ) (hw : w = W x0 x1 x2 x3) (hi : I x0 x1 x2 x3)
    (round : ∀ x0 x1 x2 x3, I x0 x1 x2 x3 → KR P R (.code c :: .asr (BackR4 R n I S W μ x0 x1 x2 x3) :: k) n (S x0 x1 x2 x3) (W x0 x1 x2 x3)) : KR P R (.code (.loop c) :: k) n σ w :=
  KR.loop (fun p : α × β × γ × δ => I p.1 p.2.1 p.2.2.1 p.2.2.2) (fun p => S p.1 p.2.1 p.2.2.1 p.2.2.2) (fun p => W p.1 p.2.1 p.2.2.1 p.2.2.2) (fun p => μ p.1 p.2.1 p.2.2.1 p.2.2.2) (x0, x1, x2, x3) hs hw hi fun p hp => round p.1 p.2.1 p.2.2.1 p.2.2.2 hp
theorem KR.back4 {α β γ δ : Type} {I : α → β → γ → δ → Prop} {S : α → β → γ → δ → Sig} {W : α → β → γ → δ → World} {μ : α → β → γ → δ → Nat} {y0 : α} {y1 : β} {y2 : γ} {y3 : δ} (x0 : α) (x1 : β) (x2 : γ) (x3 : δ) (hs : Subs (S x0 x1 x2 x3) σ) (hw : w = W x0 x1 x2 x3) (hi : I x0 x1 x2 x3) (hm : μ x0 x1 x2 x3 < μ y0 y1 y2 y3) :
    KR P R (.asr (BackR4 R n I S W μ y0 y1 y2 y3) :: k) n σ w :=
  KR.back (I := fun p : α × β × γ × δ => I p.1 p.2.1 p.2.2.1 p.2.2.2) (S := fun p => S p.1 p.2.1 p.2.2.1 p.2.2.2) (W := fun p => W p.1 p.2.1 p.2.2.1 p.2.2.2) (μ := fun p => μ p.1 p.2.1 p.2.2.1 p.2.2.2) (x0, x1, x2, x3) hs hw hi hm
theorem KR.cut4 {α β γ δ : Type} (I : α → β → γ → δ → Prop) (S : α → β → γ → δ → Sig) (W : α → β → γ → δ → World) {c : Code} (h : KR P R (.code c :: .asr (MetR4 R n I S W) :: k) n σ w)
    (h2 : ∀ x0 x1 x2 x3, I x0 x1 x2 x3 → KR P R k n (S x0 x1 x2 x3) (W x0 x1 x2 x3)) : KR P R (.code c :: k) n σ w :=
  KR.cut (fun p : α × β × γ × δ => I p.1 p.2.1 p.2.2.1 p.2.2.2) (fun p => S p.1 p.2.1 p.2.2.1 p.2.2.2) (fun p => W p.1 p.2.1 p.2.2.1 p.2.2.2) h fun p hp => h2 p.1 p.2.1 p.2.2.1 p.2.2.2 hp
theorem KR.meet4 {α β γ δ : Type} {I : α → β → γ → δ → Prop} {S : α → β → γ → δ → Sig} {W : α → β → γ → δ → World} (x0 : α) (x1 : β) (x2 : γ) (x3 : δ) (hs : Subs (S x0 x1 x2 x3) σ) (hw : w = W x0 x1 x2 x3) (hi : I x0 x1 x2 x3) :
    KR P R (.asr (MetR4 R n I S W) :: k) n σ w :=
  KR.meet (I := fun p : α × β × γ × δ => I p.1 p.2.1 p.2.2.1 p.2.2.2) (S := fun p => S p.1 p.2.1 p.2.2.1 p.2.2.2) (W := fun p => W p.1 p.2.1 p.2.2.1 p.2.2.2) (x0, x1, x2, x3) hs hw hi
def BackR5 {α β γ δ ε : Type} (R : RP) (n : Nat) (I : α → β → γ → δ → ε → Prop) (S : α → β → γ → δ → ε → Sig) (W : α → β → γ → δ → ε → World) (μ : α → β → γ → δ → ε → Nat) (x0 : α) (x1 : β) (x2 : γ) (x3 : δ) (x4 : ε) : Act → World → Prop :=
  BackR R n (fun p : α × β × γ × δ × ε => I p.1 p.2.1 p.2.2.1 p.2.2.2.1 p.2.2.2.2) (fun p => S p.1 p.2.1 p.2.2.1 p.2.2.2.1 p.2.2.2.2) (fun p => W p.1 p.2.1 p.2.2.1 p.2.2.2.1 p.2.2.2.2) (fun p => μ p.1 p.2.1 p.2.2.1 p.2.2.2.1 p.2.2.2.2) (x0, x1, x2, x3, x4)
def MetR5 {α β γ δ ε : Type} (R : RP) (n : Nat) (I : α → β → γ → δ → ε → Prop) (S : α → β → γ → δ → ε → Sig) (W : α → β → γ → δ → ε → World) : Act → World → Prop :=
  MetR R n (fun p : α × β × γ × δ × ε => I p.1 p.2.1 p.2.2.1 p.2.2.2.1 p.2.2.2.2) (fun p => S p.1 p.2.1 p.2.2.1 p.2.2.2.1 p.2.2.2.2) (fun p => W p.1 p.2.1 p.2.2.1 p.2.2.2.1 p.2.2.2.2)
theorem KR.loop5 {α β γ δ ε : Type} (I : α → β → γ → δ → ε → Prop) (S : α → β → γ → δ → ε → Sig) (W : α → β → γ → δ → ε → World) (μ : α → β → γ → δ → ε → Nat) {c : Code} (x0 : α) (x1 : β) (x2 : γ) (x3 : δ) (x4 : ε) (hs : Subs (S x0 x1 x2 x3 x4) σ) (hw : w = W x0 x1 x2 x3 x4) (hi : I x0 x1 x2 x3 x4)
    (round : ∀ x0 x1 x2 x3 x4, I x0 x1 x2 x3 x4 → KR P R (.code c :: .asr (BackR5 R n I S W μ x0 x1 x2 x3 x4) :: k) n (S x0 x1 x2 x3 x4) (W x0 x1 x2 x3 x4)) : KR P R (.code (.loop c) :: k) n σ w :=
  KR.loop (fun p : α × β × γ × δ × ε => I p.1 p.2.1 p.2.2.1 p.2.2.2.1 p.2.2.2.2) (fun p => S p.1 p.2.1 p.2.2.1 p.2.2.2.1 p.2.2.2.2) (fun p => W p.1 p.2.1 p.2.2.1 p.2.2.2.1 p.2.2.2.2) (fun p => μ p.1 p.2.1 p.2.2.1 p.2.2.2.1 p.2.2.2.2) (x0, x1, x2, x3, x4) hs hw hi fun p hp => round p.1 p.2.1 p.2.2.1 p.2.2.2.1 p.2.2.2.2 hp
theorem KR.back5 {α β γ δ ε : Type} {I : α → β → γ → δ → ε → Prop} {S : α → β → γ → δ → ε → Sig} {W : α → β → γ → δ → ε → World} {μ : α → β → γ → δ → ε → Nat} {y0 : α} {y1 : β} {y2 : γ} {y3 : δ} {y4 : ε} (x0 : α) (x1 : β) (x2 : γ) (x3 : δ) (x4 : ε) (hs : Subs (S x0 x1 x2 x3 x4) σ) (hw : w = W x0 x1 x2 x3 x4) (hi : I x0 x1 x2 x3 x4) (hm : μ x0 x1 x2 x3 x4 < μ y0 y1 y2 y3 y4) :
    KR P R (.asr (BackR5 R n I S W μ y0 y1 y2 y3 y4) :: k) n σ w :=
  KR.back (I := fun p : α × β × γ × δ × ε => I p.1 p.2.1 p.2.2.1 p.2.2.2.1 p.2.2.2.2) (S := fun p => S p.1 p.2.1 p.2.2.1 p.2.2.2.1 p.2.2.2.2) (W := fun p => W p.1 p.2.1 p.2.2.1 p.2.2.2.1 p.2.2.2.2) (μ := fun p => μ p.1 p.2.1 p.2.2.1 p.2.2.2.1 p.2.2.2.2) (x0, x1, x2, x3, x4) hs hw hi hm
theorem KR.cut5 {α β γ δ ε : Type} (I : α → β → γ → δ → ε → Prop) (S : α → β → γ → δ → ε → Sig) (W : α → β → γ → δ → ε → World) {c : Code} (h : KR P R (.code c :: .asr (MetR5 R n I S W) :: k) n σ w)
    (h2 : ∀ x0 x1 x2 x3 x4, I x0 x1 x2 x3 x4 → KR P R k n (S x0 x1 x2 x3 x4) (W x0 x1 x2 x3 x4)) : KR P R (.code c :: k) n σ w :=
  KR.cut (fun p : α × β × γ × δ × ε => I p.1 p.2.1 p.2.2.1 p.2.2.2.1 p.2.2.2.2) (fun p => S p.1 p.2.1 p.2.2.1 p.2.2.2.1 p.2.2.2.2) (fun p => W p.1 p.2.1 p.2.2.1 p.2.2.2.1 p.2.2.2.2) h fun p hp => h2 p.1 p.2.1 p.2.2.1 p.2.2.2.1 p.2.2.2.2 hp
theorem KR.meet5 {α β γ δ ε : Type} {I : α → β → γ → δ → ε → Prop} {S : α → β → γ → δ → ε → Sig} {W : α → β → γ → δ → ε → World} (x0 : α) (x1 : β) (x2 : γ) (x3 : δ) (x4 : ε) (hs : Subs (S x0 x1 x2 x3 x4) σ) (hw : w = W x0 x1 x2 x3 x4) (hi : I x0 x1 x2 x3 x4) :
    KR P R (.asr (MetR5 R n I S W) :: k) n σ w :=
  KR.meet (I := fun p : α × β × γ × δ × ε => I p.1 p.2.1 p.2.2.1 p.2.2.2.1 p.2.2.2.2) (S := fun p => S p.1 p.2.1 p.2.2.1 p.2.2.2.1 p.2.2.2.2) (W := fun p => W p.1 p.2.1 p.2.2.1 p.2.2.2.1 p.2.2.2.2) (x0, x1, x2, x3, x4) hs hw hi
def BackR6 {α β γ δ ε ζ : Type} (R : RP) (n : Nat) (I : α → β → γ → δ → ε → ζ → Prop) (S : α → β → γ → δ → ε → ζ → Sig) (W : α → β → γ → δ → ε → ζ → World) (μ : α → β → γ → δ → ε → ζ → Nat) (x0 : α) (x1 : β) (x2 : γ) (x3 : δ) (x4 : ε) (x5 : ζ) : Act → World → Prop :=
  BackR R n (fun p : α × β × γ × δ × ε × ζ => I p.1 p.2.1 p.2.2.1 p.2.2.2.1 p.2.2.2.2.1 p.2.2.2.2.2) (fun p => S p.1 p.2.1 p.2.2.1 p.2.2.2.1 p.2.2.2.2.1 p.2.2.2.2.2) (fun p => W p.1 p.2.1 p.2.2.1 p.2.2.2.1 p.2.2.2.2.1 p.2.2.2.2.2) (fun p => μ p.1 p.2.1 p.2.2.1 p.2.2.2.1 p.2.2.2.2.1 p.2.2.2.2.2) (x0, x1, x2, x3, x4, x5)
def MetR6 {α β γ δ ε ζ : Type} (R : RP) (n : Nat) (I : α → β → γ → δ → ε → ζ → Prop) (S : α → β → γ → δ → ε → ζ → Sig) (W : α → β → γ → δ → ε → ζ → World) : Act → World → Prop :=
  MetR R n (fun p : α × β × γ × δ × ε × ζ => I p.1 p.2.1 p.2.2.1 p.2.2.2.1 p.2.2.2.2.1 p.2.2.2.2.2) (fun p => S p.1 p.2.1 p.2.2.1 p.2.2.2.1 p.2.2.2.2.1 p.2.2.2.2.2) (fun p => W p.1 p.2.1 p.2.2.1 p.2.2.2.1 p.2.2.2.2.1 p.2.2.2.2.2)
theorem KR.loop6 {α β γ δ ε ζ : Type} (I : α → β → γ → δ → ε → ζ → Prop) (S : α → β → γ → δ → ε → ζ → Sig) (W : α → β → γ → δ → ε → ζ → World) (μ : α → β → γ → δ → ε → ζ → Nat) {c : Code} (x0 : α) (x1 : β) (x2 : γ) (x3 : δ) (x4 : ε) (x5 : ζ) (hs : Subs (S x0 x1 x2 x3 x4 x5) σ) (hw : w = W x0 x1 x2 x3 x4 x5) (hi : I x0 x1 x2 x3 x4 x5)
    (round : ∀ x0 x1 x2 x3 x4 x5, I x0 x1 x2 x3 x4 x5 → KR P R (.code c :: .asr (BackR6 R n I S W μ x0 x1 x2 x3 x4 x5) :: k) n (S x0 x1 x2 x3 x4 x5) (W x0 x1 x2 x3 x4 x5)) : KR P R (.code (.loop c) :: k) n σ w :=
  KR.loop (fun p : α × β × γ × δ × ε × ζ => I p.1 p.2.1 p.2.2.1 p.2.2.2.1 p.2.2.2.2.1 p.2.2.2.2.2) (fun p => S p.1 p.2.1 p.2.2.1 p.2.2.2.1 p.2.2.2.2.1 p.2.2.2.2.2) (fun p => W p.1 p.2.1 p.2.2.1 p.2.2.2.1 p.2.2.2.2.1 p.2.2.2.2.2) (fun p => μ p.1 p.2.1 p.2.2.1 p.2.2.2.1 p.2.2.2.2.1 p.2.2.2.2.2) (x0, x1, x2, x3, x4, x5) hs hw hi fun p hp => round p.1 p.2.1 p.2.2.1 p.2.2.2.1 p.2.2.2.2.1 p.2.2.2.2.2 hp
theorem KR.back6 {α β γ δ ε ζ : Type} {I : α → β → γ → δ → ε → ζ → Prop} {S : α → β → γ → δ → ε → ζ → Sig} {W : α → β → γ → δ → ε → ζ → World} {μ : α → β → γ → δ → ε → ζ → Nat} {y0 : α} {y1 : β} {y2 : γ} {y3 : δ} {y4 : ε} {y5 : ζ} (x0 : α) (x1 : β) (x2 : γ) (x3 : δ) (x4 : ε) (x5 : ζ) (hs : Subs (S x0 x1 x2 x3 x4 x5) σ) (hw : w = W x0 x1 x2 x3 x4 x5) (hi : I x0 x1 x2 x3 x4 x5) (hm : μ x0 x1 x2 x3 x4 x5 < μ y0 y1 y2 y3 y4 y5) :
    KR P R (.asr (BackR6 R n I S W μ y0 y1 y2 y3 y4 y5) :: k) n σ w :=
  KR.back (I := fun p : α × β × γ × δ × ε × ζ => I p.1 p.2.1 p.2.2.1 p.2.2.2.1 p.2.2.2.2.1 p.2.2.2.2.2) (S := fun p => S p.1 p.2.1 p.2.2.1 p.2.2.2.1 p.2.2.2.2.1 p.2.2.2.2.2) (W := fun p => W p.1 p.2.1 p.2.2.1 p.2.2.2.1 p.2.2.2.2.1 p.2.2.2.2.2) (μ := fun p => μ p.1 p.2.1 p.2.2.1 p.2.2.2.1 p.2.2.2.2.1 p.2.2.2.2.2) (x0, x1, x2, x3, x4, x5) hs hw hi hm
theorem KR.cut6 {α β γ δ ε ζ : Type} (I : α → β → γ → δ → ε → ζ → Prop) (S : α → β → γ → δ → ε → ζ → Sig) (W : α → β → γ → δ → ε → ζ → World) {c : Code} (h : KR P R (.code c :: .asr (MetR6 R n I S W) :: k) n σ w)
    (h2 : ∀ x0 x1 x2 x3 x4 x5, I x0 x1 x2 x3 x4 x5 → KR P R k n (S x0 x1 x2 x3 x4 x5) (W x0 x1 x2 x3 x4 x5)) : KR P R (.code c :: k) n σ w :=
  KR.cut (fun p : α × β × γ × δ × ε × ζ => I p.1 p.2.1 p.2.2.1 p.2.2.2.1 p.2.2.2.2.1 p.2.2.2.2.2) (fun p => S p.1 p.2.1 p.2.2.1 p.2.2.2.1 p.2.2.2.2.1 p.2.2.2.2.2) (fun p => W p.1 p.2.1 p.2.2.1 p.2.2.2.1 p.2.2.2.2.1 p.2.2.2.2.2) h fun p hp => h2 p.1 p.2.1 p.2.2.1 p.2.2.2.1 p.2.2.2.2.1 p.2.2.2.2.2 hp
theorem KR.meet6 {α β γ δ ε ζ : Type} {I : α → β → γ → δ → ε → ζ → Prop} {S : α → β → γ → δ → ε → ζ → Sig} {W : α → β → γ → δ → ε → ζ → World} (x0 : α) (x1 : β) (x2 : γ) (x3 : δ) (x4 : ε) (x5 : ζ) (hs : Subs (S x0 x1 x2 x3 x4 x5) σ) (hw : w = W x0 x1 x2 x3 x4 x5) (hi : I x0 x1 x2 x3 x4 x5) :
    KR P R (.asr (MetR6 R n I S W) :: k) n σ w :=
  KR.meet (I := fun p : α × β × γ × δ × ε × ζ => I p.1 p.2.1 p.2.2.1 p.2.2.2.1 p.2.2.2.2.1 p.2.2.2.2.2) (S := fun p => S p.1 p.2.1 p.2.2.1 p.2.2.2.1 p.2.2.2.2.1 p.2.2.2.2.2) (W := fun p => W p.1 p.2.1 p.2.2.1 p.2.2.2.1 p.2.2.2.2.1 p.2.2.2.2.2) (x0, x1, x2, x3, x4, x5) hs hw hi
def BackR7 {α β γ δ ε ζ η : Type} (R : RP) (n : Nat) (I : α → β → γ → δ → ε → ζ → η → Prop) (S : α → β → γ → δ → ε → ζ → η → Sig) (W : α → β → γ → δ → ε → ζ → η → World) (μ : α → β → γ → δ → ε → ζ → η → Nat) (x0 : α) (x1 : β) (x2 : γ) (x3 : δ) (x4 : ε) (x5 : ζ) (x6 : η) : Act → World → Prop :=
  BackR R n (fun p : α × β × γ × δ × ε × ζ × η => I p.1 p.2.1 p.2.2.1 p.2.2.2.1 p.2.2.2.2.1 p.2.2.2.2.2.1 p.2.2.2.2.2.2) (fun p => S p.1 p.2.1 p.2.2.1 p.2.2.2.1 p.2.2.2.2.1 p.2.2.2.2.2.1 p.2.2.2.2.2.2) (fun p => W p.1 p.2.1 p.2.2.1 p.2.2.2.1 p.2.2.2.2.1 p.2.2.2.2.2.1 p.2.2.2.2.2.2) (fun p => μ p.1 p.2.1 p.2.2.1 p.2.2.2.1 p.2.2.2.2.1 p.2.2.2.2.2.1 p.2.2.2.2.2.2) (x0, x1, x2, x3, x4, x5, x6)
def MetR7 {α β γ δ ε ζ η : Type} (R : RP) (n : Nat) (I : α → β → γ → δ → ε → ζ → η → Prop) (S : α → β → γ → δ → ε → ζ → η → Sig) (W : α → β → γ → δ → ε → ζ → η → World) : Act → World → Prop :=
  MetR R n (fun p : α × β × γ × δ × ε × ζ × η => I p.1 p.2.1 p.2.2.1 p.2.2.2.1 p.2.2.2.2.1 p.2.2.2.2.2.1 p.2.2.2.2.2.2) (fun p => S p.1 p.2.1 p.2.2.1 p.2.2.2.1 p.2.2.2.2.1 p.2.2.2.2.2.1 p.2.2.2.2.2.2) (fun p => W p.1 p.2.1 p.2.2.1 p.2.2.2.1 p.2.2.2.2.1 p.2.2.2.2.2.1 p.2.2.2.2.2.2)
theorem KR.loop7 {α β γ δ ε ζ η : Type} (I : α → β → γ → δ → ε → ζ → η → Prop) (S : α → β → γ → δ → ε → ζ → η → Sig) (W : α → β → γ → δ → ε → ζ → η → World) (μ : α → β → γ → δ → ε → ζ → η → Nat) {c : Code} (x0 : α) (x1 : β) (x2 : γ) (x3 : δ) (x4 : ε) (x5 : ζ) (x6 : η) (hs : Subs (S x0 x1 x2 x3 x4 x5 x6) σ) (hw : w = W x0 x1 x2 x3 x4 x5 x6) (hi : I x0 x1 x2 x3 x4 x5 x6)
    (round : ∀ x0 x1 x2 x3 x4 x5 x6, I x0 x1 x2 x3 x4 x5 x6 → KR P R (.code c :: .asr (BackR7 R n I S W μ x0 x1 x2 x3 x4 x5 x6) :: k) n (S x0 x1 x2 x3 x4 x5 x6) (W x0 x1 x2 x3 x4 x5 x6)) : KR P R (.code (.loop c) :: k) n σ w :=
  KR.loop (fun p : α × β × γ × δ × ε × ζ × η => I p.1 p.2.1 p.2.2.1 p.2.2.2.1 p.2.2.2.2.1 p.2.2.2.2.2.1 p.2.2.2.2.2.2) (fun p => S p.1 p.2.1 p.2.2.1 p.2.2.2.1 p.2.2.2.2.1 p.2.2.2.2.2.1 p.2.2.2.2.2.2) (fun p => W p.1 p.2.1 p.2.2.1 p.2.2.2.1 p.2.2.2.2.1 p.2.2.2.2.2.1 p.2.2.2.2.2.2) (fun p => μ p.1 p.2.1 p.2.2.1 p.2.2.2.1 p.2.2.2.2.1 p.2.2.2.2.2.1 p.2.2.2.2.2.2) (x0, x1, x2, x3, x4, x5, x6) hs hw hi fun p hp => round p.1 p.2.1 p.2.2.1 p.2.2.2.1 p.2.2.2.2.1 p.2.2.2.2.2.1 p.2.2.2.2.2.2 hp
theorem KR.back7 {α β γ δ ε ζ η : Type} {I : α → β → γ → δ → ε → ζ → η → Prop} {S : α → β → γ → δ → ε → ζ → η → Sig} {W : α → β → γ → δ → ε → ζ → η → World} {μ : α → β → γ → δ → ε → ζ → η → Nat} {y0 : α} {y1 : β} {y2 : γ} {y3 : δ} {y4 : ε} {y5 : ζ} {y6 : η} (x0 : α) (x1 : β) (x2 : γ) (x3 : δ) (x4 : ε) (x5 : ζ) (x6 : η) (hs : Subs (S x0 x1 x2 x3 x4 x5 x6) σ) (hw : w = W x0 x1 x2 x3 x4 x5 x6) (hi : I x0 x1 x2 x3 x4 x5 x6) (hm : μ x0 x1 x2 x3 x4 x5 x6 < μ y0 y1 y2 y3 y4 y5 y6) :
    KR P R (.asr (BackR7 R n I S W μ y0 y1 y2 y3 y4 y5 y6) :: k) n σ w :=
  KR.back (I := fun p : α × β × γ × δ × ε × ζ × η => I p.1 p.2.1 p.2.2.1 p.2.2.2.1 p.2.2.2.2.1 p.2.2.2.2.2.1 p.2.2.2.2.2.2) (S := fun p => S p.1 p.2.1 p.2.2.1 p.2.2.2.1 p.2.2.2.2.1 p.2.2.2.2.2.1 p.2.2.2.2.2.2) (W := fun p => W p.1 p.2.1 p.2.2.1 p.2.2.2.1 p.2.2.2.2.1 p.2.2.2.2.2.1 p.2.2.2.2.2.2) (μ := fun p => μ p.1 p.2.1 p.2.2.1 p.2.2.2.1 p.2.2.2.2.1 p.2.2.2.2.2.1 p.2.2.2.2.2.2) (x0, x1, x2, x3, x4, x5, x6) hs hw hi hm
theorem KR.cut7 {α β γ δ ε ζ η : Type} (I : α → β → γ → δ → ε → ζ → η → Prop) (S : α → β → γ → δ → ε → ζ → η → Sig) (W : α → β → γ → δ → ε → ζ → η → World) {c : Code} (h : KR P R (.code c :: .asr (MetR7 R n I S W) :: k) n σ w)
    (h2 : ∀ x0 x1 x2 x3 x4 x5 x6, I x0 x1 x2 x3 x4 x5 x6 → KR P R k n (S x0 x1 x2 x3 x4 x5 x6) (W x0 x1 x2 x3 x4 x5 x6)) : KR P R (.code c :: k) n σ w :=
  KR.cut (fun p : α × β × γ × δ × ε × ζ × η => I p.1 p.2.1 p.2.2.1 p.2.2.2.1 p.2.2.2.2.1 p.2.2.2.2.2.1 p.2.2.2.2.2.2) (fun p => S p.1 p.2.1 p.2.2.1 p.2.2.2.1 p.2.2.2.2.1 p.2.2.2.2.2.1 p.2.2.2.2.2.2) (fun p => W p.1 p.2.1 p.2.2.1 p.2.2.2.1 p.2.2.2.2.1 p.2.2.2.2.2.1 p.2.2.2.2.2.2) h fun p hp => h2 p.1 p.2.1 p.2.2.1 p.2.2.2.1 p.2.2.2.2.1 p.2.2.2.2.2.1 p.2.2.2.2.2.2 hp
theorem KR.meet7 {α β γ δ ε ζ η : Type} {I : α → β → γ → δ → ε → ζ → η → Prop} {S : α → β → γ → δ → ε → ζ → η → Sig} {W : α → β → γ → δ → ε → ζ → η → World} (x0 : α) (x1 : β) (x2 : γ) (x3 : δ) (x4 : ε) (x5 : ζ) (x6 : η) (hs : Subs (S x0 x1 x2 x3 x4 x5 x6) σ) (hw : w = W x0 x1 x2 x3 x4 x5 x6) (hi : I x0 x1 x2 x3 x4 x5 x6) :
    KR P R (.asr (MetR7 R n I S W) :: k) n σ w :=
  KR.meet (I := fun p : α × β × γ × δ × ε × ζ × η => I p.1 p.2.1 p.2.2.1 p.2.2.2.1 p.2.2.2.2.1 p.2.2.2.2.2.1 p.2.2.2.2.2.2) (S := fun p => S p.1 p.2.1 p.2.2.1 p.2.2.2.1 p.2.2.2.2.1 p.2.2.2.2.2.1 p.2.2.2.2.2.2) (W := fun p => W p.1 p.2.1 p.2.2.1 p.2.2.2.1 p.2.2.2.2.1 p.2.2.2.2.2.1 p.2.2.2.2.2.2) (x0, x1, x2, x3, x4, x5, x6) hs hw hi
end


/-! ### A region -/
def OR (P : Program) (R : RP) (ops : Array Oper) (l : List Oper) (k : List KI) (n : Nat) (σ : Sig) (w : World) : Prop := ∀ a, FrD R n σ a → wpListIn R.F R.m P ops (psr P R k) l a w
section
variable {P : Program} {R : RP} {ops : Array Oper} {l rest : List Oper} {k : List KI} {n : Nat} {σ : Sig} {w w' : World}
theorem KR.region {id : Nat} (h : OR P R l.toArray l k n σ w) : KR P R (.code (.region id l.toArray false) :: k) n σ w := fun a ha => wpIn_region_lit (h a ha)
theorem OR.nil (h : KR P R k n σ w) : OR P R ops [] k n σ w := h
theorem OR.sub {σ' : Sig} (hs : Subs σ' σ) (h : OR P R ops l k n σ' w) : OR P R ops l k n σ w := fun a ha => h a (ha.sub hs)
theorem FrD.as {a : Act} (t : Nat) (v' : Value) {v : Value} (ht : lk σ t = some v) (e : v = v') (ha : FrD R n σ a) : FrD R n ((t, v') :: σ) a :=
  ⟨⟨ha.fr.size, fun i u hu => by
    rw [lk_cons] at hu
    by_cases e' : t = i
    · subst e'
      simp at hu
      subst hu
      rw [← e]
      exact ha.fr.val t _ ht
    · simp [e'] at hu
      exact ha.fr.val i u hu, ha.fr.df⟩, ha.df⟩
theorem OR.as (t : Nat) (v' : Value) {v : Value} (ht : lk σ t = some v) (e : v = v') (h : OR P R ops l k n ((t, v') :: σ) w) : OR P R ops l k n σ w := fun a ha => h a (ha.as t v' ht e)
theorem KR.as (t : Nat) (v' : Value) {v : Value} (ht : lk σ t = some v) (e : v = v') (h : KR P R k n ((t, v') :: σ) w) : KR P R k n σ w := fun a ha => h a (ha.as t v' ht e)
theorem OR.split (t : Nat) {b : Bool} (ht : lk σ t = some (.bool b)) (h1 : b = true → OR P R ops l k n ((t, .bool true) :: σ) w) (h2 : b = false → OR P R ops l k n ((t, .bool false) :: σ) w) : OR P R ops l k n σ w := by
  cases b with
  | true => exact OR.as t _ ht rfl (h1 rfl)
  | false => exact OR.as t _ ht rfl (h2 rfl)
theorem OR.splitD (t : Nat) {p : Prop} [Decidable p] (ht : lk σ t = some (.bool (decide p))) (h1 : p → OR P R ops l k n ((t, .bool true) :: σ) w) (h2 : ¬ p → OR P R ops l k n ((t, .bool false) :: σ) w) : OR P R ops l k n σ w :=
  OR.split t ht (fun e => h1 (of_decide_eq_true e)) (fun e => h2 (of_decide_eq_false e))
theorem wantD {a : Act} (ha : FrD R n σ a) {o : Oper} {b : Bool} (h : wantS ops σ o.guard = some b) : Region.wanted o (yielded ops a.tmps) = b := wantS_spec ha.fr h
theorem RP.semAt (R : RP) {ρ : Operand → Value} {o : Oper} {r : Result Next} {w : World} (h : (execOp ρ o).run P w = r) (hd : ∀ c, o.op ≠ .defer c) : (o.semAt R.F.round ρ).run P w = r := by rw [Oper.semAt_eq _ _ _ hd]; exact h
theorem EX.noDefer {op : Op} {ty : TypeId} {v : Value} (he : EX P n σ op ty w v w') {a : Act} (ha : Fr n σ a) : ∀ c, op ≠ .defer c := fun c e => by
  subst e
  have h := he a ha none "" #[] none
  unfold execOp at h
  simp only [Sem.run_bind] at h
  unfold Result.andThen at h
  split at h <;> simp at h
theorem EU.noDefer {op : Op} {ty : TypeId} (he : EU P n σ op ty w w') {a : Act} (ha : Fr n σ a) : ∀ c, op ≠ .defer c := fun c e => by
  subst e
  have h := he a ha none "" #[] none
  unfold execOp at h
  simp only [Sem.run_bind] at h
  unfold Result.andThen at h
  split at h <;> simp at h
theorem EC.noDefer {op : Op} {ty : TypeId} {f : FuncId} {args : Array Value} (he : EC P n σ op ty w f args) {a : Act} (ha : Fr n σ a) : ∀ c, op ≠ .defer c := fun c e => by
  subst e
  have h := he a ha none "" #[] none
  unfold execOp at h
  simp only [Sem.run_bind] at h
  unfold Result.andThen at h
  split at h <;> simp at h
theorem evalD (a : Act) : ({ a with defers := [] } : Act).eval = a.eval := by funext x; cases x <;> rfl
theorem OR.val {d : Nat} {op : Op} {ty : TypeId} {pos : String} {after : Array Edge} {g : Option (Nat × Bool)} {v : Value} (hg : wantS ops σ g = some true) (hd : Nat.blt d n = true) (he : EX P n σ op ty w v w')
    (h : OR P R ops rest k n ((d, v) :: σ) w') : OR P R ops (⟨some d, op, ty, pos, after, g⟩ :: rest) k n σ w := fun a ha => by
  have h1 := he _ ha.fr (some d) pos after g
  rw [evalD] at h1
  unfold wpListIn
  rw [if_pos (wantD ha (o := ⟨some d, op, ty, pos, after, g⟩) hg)]
  refine ⟨fun _ _ => trivial, ?_⟩
  rw [R.semAt h1 (he.noDefer ha.fr)]
  exact h _ (ha.put hd v)
theorem OR.eff {op : Op} {ty : TypeId} {pos : String} {after : Array Edge} {g : Option (Nat × Bool)} (hg : wantS ops σ g = some true) (he : EU P n σ op ty w w')
    (h : OR P R ops rest k n σ w') : OR P R ops (⟨none, op, ty, pos, after, g⟩ :: rest) k n σ w := fun a ha => by
  have h1 := he _ ha.fr none pos after g
  rw [evalD] at h1
  unfold wpListIn
  rw [if_pos (wantD ha (o := ⟨none, op, ty, pos, after, g⟩) hg)]
  refine ⟨fun _ _ => trivial, ?_⟩
  rw [R.semAt h1 (he.noDefer ha.fr)]
  exact h _ ha
theorem OR.pass {d : Nat} {op : Op} {ty : TypeId} {pos : String} {after : Array Edge} {g : Option (Nat × Bool)} (hg : wantS ops σ g = some false) (hd : Nat.blt d n = true)
    (h : OR P R ops rest k n ((d, undef) :: σ) w) : OR P R ops (⟨some d, op, ty, pos, after, g⟩ :: rest) k n σ w := fun a ha => by
  unfold wpListIn
  rw [if_neg (by rw [wantD ha (o := ⟨some d, op, ty, pos, after, g⟩) hg]; simp)]
  exact ⟨fun _ _ => trivial, h _ (ha.put hd undef)⟩
theorem OR.passU {op : Op} {ty : TypeId} {pos : String} {after : Array Edge} {g : Option (Nat × Bool)} (hg : wantS ops σ g = some false)
    (h : OR P R ops rest k n σ w) : OR P R ops (⟨none, op, ty, pos, after, g⟩ :: rest) k n σ w := fun a ha => by
  unfold wpListIn
  rw [if_neg (by rw [wantD ha (o := ⟨none, op, ty, pos, after, g⟩) hg]; simp)]
  exact ⟨fun _ _ => trivial, h _ ha⟩
theorem callsIn_round {r : Option Nat} {m : Nat} {f : FuncId} {args : Array Value} {Q : Ending → World → Prop} (h : Calls P f args w Q) : CallsIn { Fence.wide with round := r } m P f args w Q := by
  have h1 : CallsIn Fence.wide m P f args w Q := callsIn_wide.2 h
  exact h1
theorem OR.callE {d : Nat} {op : Op} {ty : TypeId} {pos : String} {after : Array Edge} {g : Option (Nat × Bool)} {f : FuncId} {args : List Value} {Q : Value → World → Prop} (hg : wantS ops σ g = some true) (hd : Nat.blt d n = true)
    (he : EC P n σ op ty w f args.toArray) (hc : Ret P f args w Q) (h : ∀ v w', Q v w' → OR P R ops rest k n ((d, v) :: σ) w') : OR P R ops (⟨some d, op, ty, pos, after, g⟩ :: rest) k n σ w := fun a ha => by
  have h1 := he _ ha.fr (some d) pos after g
  rw [evalD] at h1
  unfold wpListIn
  rw [if_pos (wantD ha (o := ⟨some d, op, ty, pos, after, g⟩) hg)]
  refine ⟨fun _ _ => trivial, ?_⟩
  rw [R.semAt h1 (he.noDefer ha.fr)]
  refine ⟨fun q => (by cases q), ?_⟩
  refine callsIn_round (hc.2.mono fun e w'' ⟨v, he, q⟩ => ?_)
  subst he
  exact h v w'' q _ (ha.put hd v)
theorem OR.call {d : Nat} {f : FuncId} {xs : List Operand} {ats : Array TypeId} {ty : TypeId} {pos : String} {after : Array Edge} {g : Option (Nat × Bool)} {vs : List Value} {Q : Value → World → Prop}
    (hg : wantS ops σ g = some true) (hd : Nat.blt d n = true) (hx : evs σ xs = some vs) (hc : Ret P f vs w Q) (h : ∀ v w', Q v w' → OR P R ops rest k n ((d, v) :: σ) w') :
    OR P R ops (⟨some d, .call { callee := .value (.func f), args := xs.toArray, argTypes := ats }, ty, pos, after, g⟩ :: rest) k n σ w := by
  obtain ⟨⟨fn, h1, h2⟩, _⟩ := id hc
  exact OR.callE hg hd (EC.go h1 h2 hx) hc h
/-- a call of yield: the round's word -/
def YieldR (P : Program) (m l : Nat) (args : List Value) (W : World) (Q : Value → World → Prop) : Prop := YieldAt Fence.wide m P l args.toArray W fun e W' => ∃ v, e = .returned v ∧ Q v W'
theorem OR.yield {d : Nat} {x t : Operand} {ats : Array TypeId} {ty : TypeId} {pos : String} {after : Array Edge} {g : Option (Nat × Bool)} {lr : Nat} {v : Value} {Q : Value → World → Prop} (hr : R.round = none)
    (hg : wantS ops σ g = some true) (hd : Nat.blt d n = true) (ht : ev σ t = some (.func (.yield lr) #[] #[])) (hx : ev σ x = some v) (hc : YieldR P (R.m - 1) lr [v] w Q)
    (h : ∀ u w', Q u w' → OR P R ops rest k n ((d, u) :: σ) w') :
    OR P R ops (⟨some d, .call { callee := .value t, args := #[x], argTypes := ats }, ty, pos, after, g⟩ :: rest) k n σ w := fun a ha => by
  obtain ⟨ro, m, ds, post⟩ := R
  simp only at hr
  subst hr
  obtain ⟨fn, tmps, assign, body, hy, hR⟩ := hc
  have et : a.eval t = .func (.yield lr) #[] #[] := by have := ha.fr.ev ht; rwa [evalD] at this
  have ex : a.eval x = v := by have := ha.fr.ev hx; rwa [evalD] at this
  unfold wpListIn
  rw [if_pos (wantD ha (o := ⟨some d, .call { callee := .value t, args := #[x], argTypes := ats }, ty, pos, after, g⟩) hg)]
  refine ⟨fun _ _ => trivial, ?_⟩
  have h1 : (execOp a.eval ⟨some d, .call { callee := .value t, args := #[x], argTypes := ats }, ty, pos, after, g⟩).run P w = .ok (.round lr fn tmps assign body) w := by
    simp only [execOp, resolve, Deferred.ofValue, et, Sem.run_bind, Sem.run_pure, Result.andThen_ok, invoke]
    simpa [ex] using hy
  rw [RP.semAt _ h1 (by simp)]
  refine ⟨fun q => (by cases q), ?_⟩
  have hR' : RoundIn (RP.F ⟨none, m, ds, post⟩) (m - 1) P lr fn tmps assign body w _ := hR
  refine hR'.mono fun e w'' ⟨u, he, q⟩ => ?_
  subst he
  exact h u w'' q _ (ha.put hd u)
end
section
variable {P : Program} {R : RP} {ops : Array Oper} {rest : List Oper} {k : List KI} {n : Nat} {σ : Sig} {w : World} {x y t : Operand} {T T' e ty : TypeId} {pos : String} {after : Array Edge} {gd : Option (Nat × Bool)} {d : Nat} {v z : Value} {s bs : Nat} {l : List Value}
theorem OR.boxB (hg : wantS ops σ gd = some true) (hd : Nat.blt d n = true) (hx : ev σ x = some v) (h1 : v.oneCell' = true)
    (h : ∀ b w', w.heap.size ≤ b → Bk w' b T [v] → Ext w w' → OR P R ops rest k n ((d, .pointer (some ⟨b, 0, none⟩)) :: σ) w') :
    OR P R ops (⟨some d, .box T x, ty, pos, after, gd⟩ :: rest) k n σ w :=
  OR.val hg hd (EX.box1 hx h1) (h _ _ (Nat.le_refl _) (Bk.new w T [v]) (Ext.alloc w _))
theorem OR.allocB (hg : wantS ops σ gd = some true) (hd : Nat.blt d n = true) (hi : TI P T z s bs) (hl : z.cells.toList = l)
    (h : ∀ b w', w.heap.size ≤ b → Bk w' b T l → Ext w w' → OR P R ops rest k n ((d, .pointer (some ⟨b, 0, none⟩)) :: σ) w') :
    OR P R ops (⟨some d, .alloc T, ty, pos, after, gd⟩ :: rest) k n σ w :=
  OR.val hg hd (EX.alloc hi hl) (h _ _ (Nat.le_refl _) (Bk.new w T l) (Ext.alloc w _))
theorem OR.storeB {b i : Nat} (hg : wantS ops σ gd = some true) (hi : TI P T z 1 bs) (hx : ev σ x = some (.pointer (some ⟨b, i, none⟩))) (hy : ev σ y = some v) (h1 : v.oneCell' = true) (hb : Bk w b T' l) (hlt : i < l.length)
    (h : ∀ w', Bk w' b T' (l.set i v) → Mo w w' [b] → OR P R ops rest k n σ w') :
    OR P R ops (⟨none, .store T x y, ty, pos, after, gd⟩ :: rest) k n σ w :=
  OR.eff hg (EU.storeBk hi hx hy h1 hb hlt) (h _ (hb.set i v) (Mo.set w b i v))
theorem OR.buildB {parts : Array (Nat × Operand)} {vs : List Value} (len : Nat) (hg : wantS ops σ gd = some true) (hd : Nat.blt d n = true) (ht : P.underlying T = some (.slice e)) (hi : TI P e z 1 bs) (hz1 : z.oneCell' = true)
    (hv : evs σ (parts.toList.map (·.2)) = some vs) (hp : parts.toList.map (·.1) = List.range' 0 parts.toList.length) (hl : vs.length = len) (h1 : vs.all (·.oneCell') = true) (hlen : len ≤ 16777216)
    (h : ∀ b w', w.heap.size ≤ b → Bk w' b e vs → Ext w w' → OR P R ops rest k n ((d, .slice (some ⟨b, 0, none⟩) len len) :: σ) w') :
    OR P R ops (⟨some d, .buildSlice T len parts, ty, pos, after, gd⟩ :: rest) k n σ w :=
  OR.val hg hd (EX.buildSlice len ht hi hz1 hv hp hl h1 hlen) (h _ _ (Nat.le_refl _) (Bk.new w e vs) (Ext.alloc w _))
theorem OR.callV {f : FuncId} {xs : List Operand} {ats : Array TypeId} {vs fv cv args : List Value} {Q : Value → World → Prop}
    (hg : wantS ops σ gd = some true) (hd : Nat.blt d n = true) (ht : ev σ t = some (.func (.func f) fv.toArray cv.toArray)) (hx : evs σ xs = some vs) (he : fv ++ vs ++ cv = args) (hc : Ret P f args w Q)
    (h : ∀ v w', Q v w' → OR P R ops rest k n ((d, v) :: σ) w') :
    OR P R ops (⟨some d, .call { callee := .value t, args := xs.toArray, argTypes := ats }, ty, pos, after, gd⟩ :: rest) k n σ w := by
  obtain ⟨⟨fn, h1, h2⟩, _⟩ := id hc
  exact OR.callE hg hd (EC.val h1 h2 ht hx he) hc h
end
section
variable {P : Program} {R : RP} {ops : Array Oper} {rest : List Oper} {k : List KI} {n : Nat} {σ : Sig} {w : World} {x y : Operand} {t t' e ty : TypeId} {pos : String} {after : Array Edge} {gd : Option (Nat × Bool)} {d : Nat}
theorem OR.append (B : Nat) {z : Value} {s bs : Nat} (hg : wantS ops σ gd = some true) (hd : Nat.blt d n = true) (ht : P.underlying t = some (.slice e)) (hi : TI P e z s bs) (hzs : z.cells.size = s) (hs0 : 0 < s)
    {v xv : Value} {m l : Nat} {xs news : List Value} (hx : ev σ x = some v) (hy : ev σ y = some xv) (hown : Own w B e s v l xs) (hsrc : Src P s t' xv m news w)
    (h63 : l + m ≤ maxLen) (hbytes : (l + m) * bs ≤ 140737488355328) (hB : B ≤ w.heap.size)
    (h : ∀ v' w', Own w' B e s v' (l + m) (xs ++ news) → w.grownBy w' v.ownBlock → (v'.ownBlock = v.ownBlock ∨ v'.ownBlock = some w.heap.size) → OR P R ops rest k n ((d, v') :: σ) w') :
    OR P R ops (⟨some d, .call { callee := .builtin .append, args := #[x, y], argTypes := #[t, t'] }, ty, pos, after, gd⟩ :: rest) k n σ w := by
  obtain ⟨v', w', hr, h2, h3, h4⟩ := run_append (P := P) B t t' ty e ht hi hzs hs0 hown hsrc h63 hbytes hB
  refine OR.val hg hd (v := v') (w' := w') ?_ (h v' w' h2 h3 h4)
  intro A ha dst pos after g
  simp only [execOp, resolve, invoke, builtin, Sem.run_bind, Sem.run_pure, Result.andThen_ok, List.map_toArray, List.map_cons, List.map_nil, ha.ev hx, ha.ev hy, hr]
end
section
variable {P : Program} {R : RP} {ops : Array Oper} {rest : List Oper} {k : List KI} {n : Nat} {σ : Sig} {w w0 : World} {x y : Operand} {t t' e ty ty1 : TypeId} {pos pos1 : String} {after after1 : Array Edge} {gd gd1 : Option (Nat × Bool)} {d d1 : Nat}
theorem OR.appendX {z : Value} {s bs : Nat} (hg : wantS ops σ gd = some true) (hd : Nat.blt d n = true) (ht : P.underlying t = some (.slice e)) (hi : TI P e z s bs) (hzs : z.cells.size = s) (hs0 : 0 < s)
    {v xv : Value} {m l : Nat} {xs news : List Value} (hx : ev σ x = some v) (hy : ev σ y = some xv) (hext : Ext w0 w) (hown : Own w w0.heap.size e s v l xs) (hsrc : Src P s t' xv m news w)
    (h63 : l + m ≤ maxLen) (hbytes : (l + m) * bs ≤ 140737488355328)
    (h : ∀ v' w', Own w' w0.heap.size e s v' (l + m) (xs ++ news) → Ext w0 w' → w.grownBy w' v.ownBlock → (v'.ownBlock = v.ownBlock ∨ v'.ownBlock = some w.heap.size) → OR P R ops rest k n ((d, v') :: σ) w') :
    OR P R ops (⟨some d, .call { callee := .builtin .append, args := #[x, y], argTypes := #[t, t'] }, ty, pos, after, gd⟩ :: rest) k n σ w :=
  OR.append w0.heap.size hg hd ht hi hzs hs0 hx hy hown hsrc h63 hbytes hext.size fun v' w' h1 h2 h3 => h v' w' h1 (hext.grown h2 fun g hg => (hown.lt g hg).1) h2 h3
theorem OR.push {z : Value} {bs : Nat} (hg1 : wantS ops σ gd1 = some true) (hd1 : Nat.blt d1 n = true) (hg : ∀ u, wantS ops ((d1, u) :: σ) gd = some true) (hd : Nat.blt d n = true) (ht : P.underlying t = some (.slice e)) (hi : TI P e z 1 bs) (hz1 : z.oneCell' = true)
    {v u : Value} {l : Nat} {xs : List Value} (hy : ev σ y = some u) (hx : ∀ q, ev ((d1, q) :: σ) x = some v) (hu : u.oneCell' = true) (hext : Ext w0 w) (hown : Own w w0.heap.size e 1 v l xs)
    (h63 : l + 1 ≤ maxLen) (hbytes : (l + 1) * bs ≤ 140737488355328)
    (h : ∀ q v' w', Own w' w0.heap.size e 1 v' (l + 1) (xs ++ [u]) → Ext w0 w' → w.grownBy w' v.ownBlock → (v'.ownBlock = v.ownBlock ∨ ∃ g, v'.ownBlock = some g ∧ w.heap.size ≤ g) → OR P R ops rest k n ((d, v') :: (d1, q) :: σ) w') :
    OR P R ops (⟨some d1, .buildSlice t 1 #[(0, y)], ty1, pos1, after1, gd1⟩ :: ⟨some d, .call { callee := .builtin .append, args := #[x, .tmp d1], argTypes := #[t, t] }, ty, pos, after, gd⟩ :: rest) k n σ w := by
  refine OR.val hg1 hd1 (EX.buildSlice (vs := [u]) 1 ht hi hz1 (by simp [evs, hy]) rfl rfl (by simp [hu]) (by decide)) ?_
  have hx1 : Ext w0 (w.alloc (.cells [u].toArray e)) := hext.trans (Ext.alloc w _)
  have hb := Bk.new w e [u]
  refine OR.appendX (hg _) hd ht hi (by rw [oneCell_cells hz1]; rfl) (by decide) (hx _) (lk_cons_same _ _ _) hx1 (hown.alloc _) (Src.of_sl ht (Sl.of_bk hb hb.lt) rfl (by simpa using hu) (by decide)) h63 hbytes ?_
  intro v' w' h1 h2 h3 h4
  refine h _ v' w' h1 h2 ⟨h3.os, h3.tape, h3.output, by have := h3.size; simp at this; omega, fun j hj hne => ?_⟩ ?_
  · rw [h3.block j (by simp; omega) hne]
    exact Below.heap_alloc w _ j hj
  · rcases h4 with h4 | h4
    · exact .inl h4
    · exact .inr ⟨_, h4, by simp⟩
end
/-! ### The statement; a function's beginning and its end -/
def RP.mark (R : RP) (D : Nat) : RP := { R with ds := { target := .collected D, args := #[] } :: R.ds }
theorem psr_mark {P : Program} {R : RP} {D : Nat} : ∀ (k : List KI) (e : Exit), psr P (R.mark D) k e = psr P R k e
  | [], e => rfl
  | .code c :: k, e => by
    have ih : psr P (R.mark D) k = psr P R k := funext (psr_mark k)
    cases e <;> (simp only [psr, ih]; try rfl)
  | .blk id :: k, e => by
    have ih : psr P (R.mark D) k = psr P R k := funext (psr_mark k)
    cases e <;> simp only [psr, ih]
  | .asr I :: k, e => by
    have ih : psr P (R.mark D) k = psr P R k := funext (psr_mark k)
    cases e <;> simp only [psr, ih]
section
variable {P : Program} {R : RP} {k : List KI} {n : Nat} {σ : Sig} {w : World}
theorem stepR_scope {b : Frame} {a : Act} {c : Code} {k : List Item} {cs : List Frame} : step P (lone (b.atR a (.code (.scope c) :: k)) cs w) = .next (lone (b.atR a (.code c :: .inScope c :: k)) cs w) :=
  step_lone_go (by simp [stepG, stepG.exec, Frame.atR])
theorem stepR_inScope {b : Frame} {a : Act} {c : Code} {k : List Item} {cs : List Frame} : step P (lone (b.atR a (.inScope c :: k)) cs w) = .next (lone (b.atR a k) cs w) :=
  step_lone_go (by simp [stepG, stepG.exec, Frame.atR])
theorem wpIn_scope {F : Fence} {n : Nat} {a : Act} {Q : Exit → Act → World → Prop} {c : Code} (h : c.wpIn F n P Q a w) (hg : ∀ l a w, Q (.goto l) a w → False) : (Code.scope c).wpIn F n P Q a w := by
  intro b k cs hro hb hr
  have h0 : (lone (b.atR a (.code (.scope c) :: k)) cs w).fenced P F := fenced_calm hb hr rfl
  obtain ⟨e, a₁, w₁, hq, harr⟩ := h b (.inScope c :: k) cs hro hb hr
  cases e with
  | normal => exact ⟨.normal, a₁, w₁, hq, .head h0 stepR_scope (StepsIn.trans harr (.one (fenced_calm hb hr rfl) stepR_inScope))⟩
  | exit id =>
    have hx : exitTo id (.inScope c :: k) = exitTo id k := by simp [exitTo]
    exact ⟨_, a₁, w₁, hq, fun k' hk => .head h0 stepR_scope (harr.1 k' (by rw [hx]; exact hk)),
      fun hr' hk => let ⟨k₁, h1, h2⟩ := harr.2 hr' (by rw [hx]; exact hk); ⟨k₁, h1, .head h0 stepR_scope h2⟩⟩
  | goto l => exact (hg _ _ _ hq).elim
  | ret => exact ⟨_, a₁, w₁, hq, .of_steps (.one h0 stepR_scope) harr⟩
  | panic ch => exact ⟨_, a₁, w₁, hq, .of_steps (.one h0 stepR_scope) harr⟩
  | outgrown => exact ⟨_, a₁, w₁, hq, .of_steps (.one h0 stepR_scope) harr⟩
theorem psr_goto {l : Nat} : ∀ (k : List KI) (a : Act) (w : World), psr P R k (.goto l) a w = R.post (.goto l) a w
  | [], _, _ => rfl
  | .code _ :: k, a, w => psr_goto k a w
  | .blk _ :: k, a, w => psr_goto k a w
  | .asr _ :: k, a, w => psr_goto k a w
theorem KR.scope {c : Code} (hg : ∀ l a w, R.post (.goto l) a w → False) (h : KR P R (.code c :: k) n σ w) : KR P R (.code (.scope c) :: k) n σ w := fun a ha =>
  wpIn_scope (h a ha) (fun l a w q => hg l a w (by rw [psr_goto] at q; exact q))
/-- out of all that is ahead -/
theorem KR.exitOut {id : Nat} (hk : popTo id k = none) (h : ∀ a, FrD R n σ a → R.post (.exit id) a w) : KR P R (.code (.exit id) :: k) n σ w := fun a ha => by
  refine wpIn_exit ?_
  have key : ∀ k, popTo id k = none → psr P R k (.exit id) a w = R.post (.exit id) a w := by
    intro k
    induction k with
    | nil => intro _; rfl
    | cons x k ih =>
      intro hk
      cases x with
      | code c => exact ih hk
      | asr I => exact ih hk
      | blk i =>
        simp only [popTo] at hk
        by_cases e : id = i
        · subst e
          have : Nat.beq id id = true := by simp
          rw [this] at hk
          cases hk
        · have : Nat.beq id i = false := by
            cases hb : Nat.beq id i with
            | false => rfl
            | true => exact absurd (Nat.eq_of_beq_eq_true hb) e
          rw [this] at hk
          simp only [psr]
          rw [if_neg e]
          exact ih hk
  rw [key k hk]
  exact h a ha
theorem KR.rangeF {α : Type} (hr : R.round = none) (hm : 1 ≤ R.m) {g : Operand} {p d id : Nat} {op : Op} {ty : TypeId} {pos : String} {after : Array Edge} {body : Code} {gf : Nat} {lb : List Value} {fn : Func}
    (hf : P.funcs[gf]? = some fn) (hn : (!(fn.name == "runtime.NumGoroutine") && fn.body.isSome) = true)
    (hg : ev σ g = some (.func (.func gf) #[] lb.toArray)) (hp : Nat.blt p n = true) (hd : Nat.blt d n = true)
    (hop : ∀ (a : Act) (W : World), (execOp a.eval ⟨some d, op, ty, pos, after, none⟩).run P W = .ok (.value (a.eval (.tmp p))) W) (hopd : ∀ c, op ≠ .defer c)
    {enc : α → Value} {Kp : World → World → Prop} {S Sp : List α → Prop} {N : Nat} (hseq : SeqStopsK Fence.wide (R.m - 1) P gf lb.toArray (fun x => #[enc x]) Kp S Sp N w)
    (hKt : ∀ {A B C : World}, Kp A B → Kp B C → Kp A C) (hKb : ∀ (W : World) (l : Nat) (o o' : Obj), w.heap.size ≤ l → W.heap[l]? = some o → o.isCells = false → o.isWalk = false → Kp W (W.putObj l o'))
    (I : List α → World → Prop) (Ix : Code → List α → World → Prop) (hI : OwnFrom w.heap.size I) (hIx : ∀ c, OwnFrom w.heap.size (Ix c)) (h0 : I [] w)
    (hbody : ∀ (l : Nat) (pre : List α) (x : α) (W : World), I pre W → pre.length < N → KR P ⟨some l, R.m - 1 - 1, [], ownPostK Kp I Ix (pre ++ [x]) W⟩ [.code body] n ((d, enc x) :: (p, enc x) :: σ) W)
    (hdone : ∀ (D : Nat) (xs : List α) (W : World), w.heap.size ≤ D → S xs → I xs W → W.heap[D]? = some (.deferred (some [])) → KR P (R.mark D) k n σ W)
    (hstop : ∀ (D : Nat) (c : Code) (pre : List α) (W : World), w.heap.size ≤ D → Sp pre → Ix c pre W → W.heap[D]? = some (.deferred (some [])) → KR P (R.mark D) (.code c :: k) n σ W) :
    KR P R (.code (.rangeFunc g #[p] (.region id #[⟨some d, op, ty, pos, after, none⟩] false) body) :: k) n σ w := fun a ha => by
  obtain ⟨ro, m, ds, post⟩ := R
  simp only at hr
  subst hr
  have hge : a.eval g = .func (.func gf) #[] lb.toArray := ha.ev hg
  have hps : p < a.tmps.size := by have := ha.fr.size; simp only at this; rw [this]; simpa [Nat.blt_eq] using hp
  show Code.wpIn Fence.wide m P _ (psr P _ k) a w
  refine wpIn_rangeFunc_ownF (F := Fence.wide) (n := m) rfl hm (lb := lb.toArray) hge trivial (fun args w => run_callFunc hf hn args) hseq hKt hKb (Below.refl _ _) (fun _ => rfl) I Ix hI hIx h0
    (fun x => { tmps := (a.tmps.setIfInBounds p (enc x)).setIfInBounds d (enc x), defers := [] }) ?_ ?_ ?_ ?_
  · intro l x W K hK
    refine wpIn_region_lit (l := [⟨some d, op, ty, pos, after, none⟩]) ?_
    have ez : ∀ f : Array Value → Tmp × Value → Array Value, ((#[p] : Array Tmp).zip #[enc x]).foldl f a.tmps = f a.tmps (p, enc x) := fun f => by simp
    rw [ez]
    unfold wpListIn
    rw [if_pos (by rfl)]
    refine ⟨fun _ _ => trivial, ?_⟩
    rw [Oper.semAt_eq _ _ _ hopd, hop]
    have e : (({ tmps := a.tmps.setIfInBounds p (enc x), defers := [] } : Act).eval (.tmp p)) = enc x := by simp [Act.eval, hps]
    show K (Act.put { tmps := a.tmps.setIfInBounds p (enc x), defers := [] } (some d) (Act.eval { tmps := a.tmps.setIfInBounds p (enc x), defers := [] } (.tmp p))) W
    rw [e]
    exact hK
  · intro l pre x W hi hl
    exact hbody l pre x W hi hl _ ⟨(ha.fr.put hp (enc x)).put hd (enc x), rfl⟩
  · intro D xs W hD hS hi hK
    have h := hdone D xs W hD hS hi hK { a with defers := { target := .collected D, args := #[] } :: a.defers } ⟨ha.fr, by show _ :: a.defers = _ :: ds; rw [ha.df]⟩
    rw [psr_mark] at h
    exact h
  · intro D c pre W hD hS hi hK
    have h := hstop D c pre W hD hS hi hK { a with defers := { target := .collected D, args := #[] } :: a.defers } ⟨ha.fr, by show _ :: a.defers = _ :: ds; rw [ha.df]⟩
    rw [psr_mark] at h
    exact h
end
theorem Ret.enterR {P : Program} {f : FuncId} {fn : Func} {c : Code} {args : List Value} {w : World} {Q : Value → World → Prop} {n : Nat} (m : Nat) (hf : P.funcs[f]? = some fn) (hb : fn.body = some c) (hnt : fn.ntmps = n)
    (hn : (!(fn.name == "runtime.NumGoroutine") && fn.body.isSome) = true) (hl : args.length + (n - args.length) = n)
    (h : KR P ⟨none, m, [], bodyPostM Fence.wide m P fn (fun e w' => ∃ v, e = .returned v ∧ Q v w')⟩ [.code c] n (argSig 0 args) w) : Ret P f args w Q := by
  refine ⟨⟨fn, hf, hn⟩, (callsIn_wide (n := m)).1 (callsIn_of_wp_marks hf hb trivial ?_)⟩
  have hfr : Fr n (argSig 0 args) { tmps := args.toArray ++ Array.replicate (fn.ntmps - args.toArray.size) undef, defers := [] } := by
    have := Fr.start args (n - args.length)
    rw [hl] at this
    simpa [hnt] using this
  exact h _ ⟨hfr, rfl⟩
section
variable {P : Program} {fn : Func} {Q : Value → World → Prop} {n m D : Nat} {σ : Sig} {w : World} {R : RP}
theorem retR_of {v : Value} {e : Exit} (he : e = .normal ∨ e = .ret) (hds : R.ds = []) (hp : R.post = bodyPostM Fence.wide m P fn (fun e w' => ∃ v, e = .returned v ∧ Q v w')) (hr : ∀ a, FrD R n σ a → (results fn a.tmps).run P w = .ok v w) (hq : Q v w) :
    ∀ a, FrD R n σ a → R.post e a w := fun a ha => by
  rw [hp]
  have h1 : LeavesInM Fence.wide m P fn a.tmps (fun e w' => ∃ v, e = .returned v ∧ Q v w') a.defers .returning w := by
    rw [ha.df, hds]
    exact ⟨v, hr a ha, v, rfl, hq⟩
  rcases he with rfl | rfl <;> exact h1
theorem retM_of {v : Value} {e : Exit} (he : e = .normal ∨ e = .ret) (hds : R.ds = [{ target := .collected D, args := #[] }]) (hp : R.post = bodyPostM Fence.wide m P fn (fun e w' => ∃ v, e = .returned v ∧ Q v w')) (hK : w.heap[D]? = some (.deferred (some [])))
    (hr : ∀ a w, FrD R n σ a → (results fn a.tmps).run P w = .ok v w) (hq : Q v (w.putObj D (.deferred none))) :
    ∀ a, FrD R n σ a → R.post e a w := fun a ha => by
  rw [hp]
  have h1 : LeavesInM Fence.wide m P fn a.tmps (fun e w' => ∃ v, e = .returned v ∧ Q v w') a.defers .returning w := by
    rw [ha.df, hds]
    exact ⟨by simp, .inl ⟨D, _, rfl, run_takeDeferred hK, v, hr a _ ha, v, rfl, hq⟩⟩
  rcases he with rfl | rfl <;> exact h1
theorem retR0 {e : Exit} (he : e = .normal ∨ e = .ret) (hds : R.ds = []) (hp : R.post = bodyPostM Fence.wide m P fn (fun e w' => ∃ v, e = .returned v ∧ Q v w')) (hs : fn.results = #[]) (hq : Q (.tuple #[]) w) : ∀ a, FrD R n σ a → R.post e a w :=
  retR_of he hds hp (fun _ _ => results_none hs _ _ _) hq
theorem retR2 {e : Exit} (he : e = .normal ∨ e = .ret) {t u : Nat} {v x : Value} (hds : R.ds = []) (hp : R.post = bodyPostM Fence.wide m P fn (fun e w' => ∃ v, e = .returned v ∧ Q v w')) (hs : fn.results = #[.tmp t, .tmp u]) (hv : lk σ t = some v) (hx : lk σ u = some x) (hq : Q (.tuple #[v, x]) w) :
    ∀ a, FrD R n σ a → R.post e a w :=
  retR_of he hds hp (fun a ha => by rw [results_tmp2 hs]; have h1 := ha.fr.val t v hv; have h2 := ha.fr.val u x hx; simp only at h1 h2; simp [h1, h2]) hq
theorem retM2 {e : Exit} (he : e = .normal ∨ e = .ret) {t u : Nat} {v x : Value} (hds : R.ds = [{ target := .collected D, args := #[] }]) (hp : R.post = bodyPostM Fence.wide m P fn (fun e w' => ∃ v, e = .returned v ∧ Q v w')) (hK : w.heap[D]? = some (.deferred (some []))) (hs : fn.results = #[.tmp t, .tmp u]) (hv : lk σ t = some v) (hx : lk σ u = some x) (hq : Q (.tuple #[v, x]) (w.putObj D (.deferred none))) :
    ∀ a, FrD R n σ a → R.post e a w :=
  retM_of he hds hp hK (fun a w ha => by rw [results_tmp2 hs]; have h1 := ha.fr.val t v hv; have h2 := ha.fr.val u x hx; simp only at h1 h2; simp [h1, h2]) hq
end
theorem Ext.putObj {w W : World} (h : Ext w W) {D : Nat} (hD : w.heap.size ≤ D) (o : Obj) : Ext w (W.putObj D o) :=
  ⟨h.os, h.tape, h.output, by simpa using h.size, fun k hk => (World.putObj_heap_other (by omega)).trans (h.block k hk)⟩
theorem Bk.putObj {w : World} {b D : Nat} {T : TypeId} {l : List Value} (h : Bk w b T l) (hD : b ≠ D) (o : Obj) : Bk (w.putObj D o) b T l := h.of_block (World.putObj_heap_other hD)
end Go.Proofs.YtjgeoeeikfjmdaaGreatDoor
/- paths: the iterator over a path's parts, Join. -/
namespace Go.Proofs.YtjgeoeeikfjmdaaGreatDoor
set_option linter.unnecessarySimpa false
open Go.RowKit Pth
set_option linter.unusedVariables false
set_option linter.unusedSimpArgs false

def txtsV (l : Txts) : List Value := l.map fun s => str s
theorem txtsV_length (l : Txts) : (txtsV l).length = l.length := by simp [txtsV]
theorem txtsV_snoc (l : Txts) (x : List UInt8) : txtsV (l ++ [x]) = txtsV l ++ [str x] := by simp [txtsV]
/-- texts are put together, a slash between two -/
theorem join_c (A : Option Addr) (c : Nat) (l : Txts) (B : Nat) (w : World) (hs : Sl w B A (txtsV l)) (hB : B ≤ w.heap.size) (hc : l.length ≤ c) (hl : wt l ≤ 140737488355328) :
    Ret Tryz.prog 69 [.slice A l.length c, str [47]] w fun v w' => v = str (joinS l) ∧ Ext w w' := by
  have hn : (!(Tryz.f69.name == "runtime.NumGoroutine") && Tryz.f69.body.isSome) = true := by kernel_rfl
  by_cases h0 : l = []
  · subst h0
    refine (Ret.of_calls Tryz.func69 hn ((Tryz.strings_Join_none A c ⟨#[47]⟩ w).mono (fun e w' h => ⟨h.1, (show Ext w w' by rw [h.2]; exact Ext.refl _)⟩))).mono ?_
    rintro v w' ⟨rfl, hx⟩
    exact ⟨rfl, hx⟩
  · rcases hs with hs | ⟨bk, o, rfl, hbk, hcell⟩
    · exact absurd (by simpa [txtsV] using hs) h0
    · have hml : (l.map fun s => (⟨s.toArray⟩ : ByteArray)).map (·.data.toList) = l := by
        rw [List.map_map]
        exact List.map_id l
      have hln : (l.map fun s => (⟨s.toArray⟩ : ByteArray)).length = l.length := by simp
      have h := Tryz.strings_Join bk o c (l.map fun s => (⟨s.toArray⟩ : ByteArray)) ⟨#[47]⟩ w (fun j x hj => by
        have : (txtsV l)[j]? = some (.string x) := by
          simp only [txtsV, List.getElem?_map] at hj ⊢
          obtain ⟨s, h1, rfl⟩ := Option.map_eq_some_iff.1 hj
          rw [h1]; rfl
        exact hcell j _ this) (by omega) (by rw [hln]; have := wt_len l; omega) (by rw [hln]; exact hc) (by rw [hml]; show (Go.Lib.join l [47]).length ≤ _; rw [joinS_eq]; have := joinS_wt l; omega)
      rw [hml, hln] at h
      have e : Go.Lib.join l (⟨#[47]⟩ : ByteArray).data.toList = joinS l := joinS_eq l
      rw [e] at h
      refine (Ret.of_calls Tryz.func69 hn (h.mono (fun e w' q => q))).mono ?_
      rintro v w' ⟨rfl, hx⟩
      exact ⟨rfl, hx⟩
/-- a round leaves the text's block alone -/
def KpS (sb : Nat) (W W' : World) : Prop := W'.heap[sb]? = W.heap[sb]?
theorem piece_step {s : List UInt8} {i fr : Nat} (h : i ≤ s.length) (hf : fr ≤ i) : s.drop fr = (s.drop fr).take (i - fr) ++ s.drop i := by
  have := List.take_append_drop (i - fr) (s.drop fr)
  rw [List.drop_drop, show fr + (i - fr) = i by omega] at this
  exact this.symm
theorem iter_s (sb : Nat) (s : List UInt8) (hs : s.length ≤ 1000000000000) (w : World) (hsb : Bk w sb 9 [str s]) :
    SeqStopsK Fence.wide 2 Tryz.prog 68 [Value.pointer (some ⟨sb, 0, none⟩)].toArray (fun x => #[str x]) (KpS sb) (fun xs => xs = parts s) (fun pre => pre <+: parts s) (s.length + 1) w := fun l J Jx W hW hJ hJx hY h0 => by
  have hb0 : Bk W sb 9 [str s] := hsb.ext hW
  have hret : Ret Tryz.prog 68 [.func (.yield l) #[] #[], .pointer (some ⟨sb, 0, none⟩)] W fun v W' => (∃ xs, xs = parts s ∧ J xs W') ∨ (∃ pre, pre <+: parts s ∧ Jx pre W') := by
    have hpl : (parts s).length ≤ s.length + 1 := by have := wt_len (parts s); rw [wt_parts] at this; exact this
    refine Ret.enterR 2 Tryz.func68 rfl Tryz.ntmps68 (by kernel_rfl) rfl ?_
    refine KR.seq (KR.region ?_)
    refine OR.val rfl rfl (EX.assign rfl) ?_
    refine OR.nil ?_
    refine KR.seq (KR.region ?_)
    refine OR.val rfl rfl (EX.assign rfl) ?_
    refine OR.nil ?_
    refine KR.block ?_
    refine KR.loop4 (fun (i : Nat) (fr : Nat) (pre : Txts) (wr : World) => i ≤ s.length + 1 ∧ fr ≤ i ∧ (i ≤ s.length → parts s = pre ++ parts (s.drop fr) ∧ ∀ c ∈ (s.drop fr).take (i - fr), c ≠ 47) ∧ (i = s.length + 1 → pre = parts s) ∧ J pre wr ∧ Bk wr sb 9 [str s]) (fun (i : Nat) (fr : Nat) (pre : Txts) (wr : World) => [(0, .func (.yield l) #[] #[]), (1, .pointer (some ⟨sb, 0, none⟩)), (3, .int .i64 ((fr : Nat) : Int)), (4, .int .i64 ((i : Nat) : Int))]) (fun (i : Nat) (fr : Nat) (pre : Txts) (wr : World) => wr) (fun (i : Nat) (fr : Nat) (pre : Txts) (wr : World) => s.length + 1 - i) (0) (0) ([]) (W) ⟨rfl, rfl, rfl, rfl, trivial⟩ rfl ?_ ?_
    · exact ⟨by omega, by omega, fun _ => ⟨rfl, by simp⟩, fun h => by omega, h0, hb0⟩
    · rintro i fr pre wr ⟨hi, hf, hp, hend, hj, hb⟩
      refine KR.seq (KR.seq (KR.region ?_))
      refine OR.val rfl rfl (EX.move rfl) ?_
      refine OR.val rfl rfl (EX.load Tryz.underlying9 rfl rfl (hb.cell_of rfl)) ?_
      refine OR.val rfl rfl (EX.lenS Tryz.underlying9 rfl) ?_
      refine OR.val rfl rfl (by first | exact EX.leqN rfl rfl | exact EX.leqZ rfl rfl) ?_
      refine OR.nil ?_
      refine KR.condD rfl (fun hle => ?_) (fun hle => ?_)
      · obtain ⟨hp1, hp2⟩ := hp hle
        have hpre : pre.length < s.length + 1 := by
          have h1 := List.length_pos_iff.2 (parts_ne (s.drop fr))
          have h2 := congrArg List.length hp1
          rw [List.length_append] at h2
          omega
        have hyl : ∀ x : List UInt8, YieldR Tryz.prog 1 l [str x] wr fun v W' => ∃ b, v = .bool b ∧ ((b = true ∧ J (pre ++ [x]) W' ∧ KpS sb wr W') ∨ (b = false ∧ Jx (pre ++ [x]) W')) := fun x =>
          YieldAt.mono (hY pre x wr hj hpre) (by
            rintro e W' (⟨rfl, h1, h2⟩ | ⟨rfl, h1⟩)
            · exact ⟨_, rfl, true, rfl, .inl ⟨rfl, h1, h2⟩⟩
            · exact ⟨_, rfl, false, rfl, .inr ⟨rfl, h1⟩⟩)
        refine KR.skip (KR.seq (KR.block (KR.seq (KR.region ?_))))
        refine OR.val rfl rfl (EX.move rfl) ?_
        refine OR.val rfl rfl (EX.load Tryz.underlying9 rfl rfl (hb.cell_of rfl)) ?_
        refine OR.val rfl rfl (EX.lenS Tryz.underlying9 rfl) ?_
        refine OR.val rfl rfl (by first | exact EX.eqlN rfl rfl | exact EX.eqlZ rfl rfl) ?_
        refine OR.val rfl rfl (EX.move rfl) ?_
        refine OR.splitD 15 rfl (fun he => ?_) (fun he => ?_)
        · have hpe : parts s = pre ++ [(s.drop fr).take (i - fr)] := by
            have e : (s.drop fr).take (i - fr) = s.drop fr := List.take_of_length_le (by simp; omega)
            rw [e] at hp2 ⊢
            rw [hp1, parts_whole _ hp2]
          refine OR.pass rfl rfl ?_
          refine OR.pass rfl rfl ?_
          refine OR.pass rfl rfl ?_
          refine OR.pass rfl rfl ?_
          refine OR.val rfl rfl (EX.pickT rfl rfl) ?_
          refine OR.nil ?_
          refine KR.condT rfl (KR.seq (KR.seq (KR.region ?_)))
          refine OR.val rfl rfl (EX.move rfl) ?_
          refine OR.val rfl rfl (EX.load Tryz.underlying9 rfl rfl (hb.cell_of rfl)) ?_
          refine OR.val rfl rfl (EX.move rfl) ?_
          refine OR.val rfl rfl (EX.move rfl) ?_
          refine OR.val rfl rfl (EX.sliceLH Tryz.underlying9 rfl rfl rfl (by omega)) ?_
          refine OR.yield rfl rfl rfl rfl rfl (hyl _) ?_
          rintro _ w1 ⟨y, rfl, hv⟩
          refine OR.val rfl rfl (by first | exact EX.notD rfl | exact EX.notB rfl) ?_
          refine OR.nil ?_
          refine KR.cond rfl (fun hy => ?_) (fun hy => ?_)
          · obtain ⟨rfl, hj1⟩ : y = false ∧ Jx (pre ++ [(s.drop fr).take (i - fr)]) w1 := by
              rcases hv with ⟨rfl, _⟩ | h
              · cases hy
              · exact h
            refine KR.ret (retR0 (.inr rfl) rfl rfl rfl ?_)
            exact .inr ⟨_, ⟨[], by rw [List.append_nil, hpe]⟩, hj1⟩
          · obtain ⟨rfl, hj1, hk⟩ : y = true ∧ J (pre ++ [(s.drop fr).take (i - fr)]) w1 ∧ KpS sb wr w1 := by
              rcases hv with h | ⟨rfl, _⟩
              · exact h
              · cases hy
            refine KR.skip (KR.region ?_)
            refine OR.val rfl rfl (EX.move rfl) ?_
            refine OR.val rfl rfl (by first | exact EX.addN (b := 1) (m := 9223372036854775807) rfl rfl rfl (by omega) | exact EX.addZ (m := 9223372036854775807) rfl rfl rfl rfl (by omega)) ?_
            refine OR.val rfl rfl (EX.assign rfl) ?_
            refine OR.nil ?_
            refine KR.leave (KR.region ?_)
            refine OR.val rfl rfl (EX.move rfl) ?_
            refine OR.val rfl rfl (by first | exact EX.addN (b := 1) (m := 9223372036854775807) rfl rfl rfl (by omega) | exact EX.addZ (m := 9223372036854775807) rfl rfl rfl rfl (by omega)) ?_
            refine OR.val rfl rfl (EX.assign rfl) ?_
            refine OR.nil ?_
            have hb1 : Bk w1 sb 9 [str s] := hb.of_block hk
            refine KR.back4 (i + 1) (i + 1) (pre ++ [(s.drop fr).take (i - fr)]) (w1) ⟨rfl, rfl, rfl, rfl, trivial⟩ rfl ?_ (by omega)
            exact ⟨by omega, by omega, fun h => by omega, fun _ => hpe.symm, hj1, hb1⟩
        · skip
          refine OR.val rfl rfl (EX.load Tryz.underlying9 rfl rfl (hb.cell_of rfl)) ?_
          refine OR.val rfl rfl (EX.move rfl) ?_
          refine OR.val rfl rfl (EX.indexS Tryz.underlying9 rfl rfl (List.getElem?_eq_getElem (by omega))) ?_
          refine OR.val rfl rfl (by first | exact EX.eqlN (b := 47) rfl rfl | exact EX.eqlZ rfl rfl) ?_
          refine OR.val rfl rfl (EX.pickF rfl rfl) ?_
          refine OR.nil ?_
          refine KR.condD rfl (fun hc => ?_) (fun hc => ?_)
          · refine KR.seq (KR.seq (KR.region ?_))
            refine OR.val rfl rfl (EX.move rfl) ?_
            refine OR.val rfl rfl (EX.load Tryz.underlying9 rfl rfl (hb.cell_of rfl)) ?_
            refine OR.val rfl rfl (EX.move rfl) ?_
            refine OR.val rfl rfl (EX.move rfl) ?_
            refine OR.val rfl rfl (EX.sliceLH Tryz.underlying9 rfl rfl rfl (by omega)) ?_
            have hlt : i < s.length := by omega
            have hd : s.drop i = 47 :: s.drop (i + 1) := by
              rw [List.drop_eq_getElem_cons hlt]
              congr 1
              exact UInt8.toNat_inj.1 hc
            have hpe : parts s = (pre ++ [(s.drop fr).take (i - fr)]) ++ parts (s.drop (i + 1)) := by
              rw [hp1, piece_step hle hf, hd, parts_slash _ _ hp2, ← hd, ← piece_step hle hf]
              simp
            refine OR.yield rfl rfl rfl rfl rfl (hyl _) ?_
            rintro _ w1 ⟨y, rfl, hv⟩
            refine OR.val rfl rfl (by first | exact EX.notD rfl | exact EX.notB rfl) ?_
            refine OR.nil ?_
            refine KR.cond rfl (fun hy => ?_) (fun hy => ?_)
            · obtain ⟨rfl, hj1⟩ : y = false ∧ Jx (pre ++ [(s.drop fr).take (i - fr)]) w1 := by
                rcases hv with ⟨rfl, _⟩ | h
                · cases hy
                · exact h
              refine KR.ret (retR0 (.inr rfl) rfl rfl rfl ?_)
              exact .inr ⟨_, ⟨parts (s.drop (i + 1)), hpe.symm⟩, hj1⟩
            · obtain ⟨rfl, hj1, hk⟩ : y = true ∧ J (pre ++ [(s.drop fr).take (i - fr)]) w1 ∧ KpS sb wr w1 := by
                rcases hv with h | ⟨rfl, _⟩
                · exact h
                · cases hy
              refine KR.skip (KR.region ?_)
              refine OR.val rfl rfl (EX.move rfl) ?_
              refine OR.val rfl rfl (by first | exact EX.addN (b := 1) (m := 9223372036854775807) rfl rfl rfl (by omega) | exact EX.addZ (m := 9223372036854775807) rfl rfl rfl rfl (by omega)) ?_
              refine OR.val rfl rfl (EX.assign rfl) ?_
              refine OR.nil ?_
              refine KR.leave (KR.region ?_)
              refine OR.val rfl rfl (EX.move rfl) ?_
              refine OR.val rfl rfl (by first | exact EX.addN (b := 1) (m := 9223372036854775807) rfl rfl rfl (by omega) | exact EX.addZ (m := 9223372036854775807) rfl rfl rfl rfl (by omega)) ?_
              refine OR.val rfl rfl (EX.assign rfl) ?_
              refine OR.nil ?_
              have hb1 : Bk w1 sb 9 [str s] := hb.of_block hk
              refine KR.back4 (i + 1) (i + 1) (pre ++ [(s.drop fr).take (i - fr)]) (w1) ⟨rfl, rfl, rfl, rfl, trivial⟩ rfl ?_ (by omega)
              exact ⟨by omega, by omega, fun _ => ⟨hpe, by simp⟩, fun h => by omega, hj1, hb1⟩
          · have hlt : i < s.length := by omega
            refine KR.skip (KR.leave (KR.region ?_))
            refine OR.val rfl rfl (EX.move rfl) ?_
            refine OR.val rfl rfl (by first | exact EX.addN (b := 1) (m := 9223372036854775807) rfl rfl rfl (by omega) | exact EX.addZ (m := 9223372036854775807) rfl rfl rfl rfl (by omega)) ?_
            refine OR.val rfl rfl (EX.assign rfl) ?_
            refine OR.nil ?_
            refine KR.back4 (i + 1) (fr) (pre) (wr) ⟨rfl, rfl, rfl, rfl, trivial⟩ rfl ?_ (by omega)
            refine ⟨by omega, by omega, fun _ => ⟨hp1, ?_⟩, fun h => by omega, hj, hb⟩
            have e : (s.drop fr).take (i + 1 - fr) = (s.drop fr).take (i - fr) ++ [s[i]] := by
              rw [show i + 1 - fr = i - fr + 1 by omega, List.take_add_one, List.getElem?_drop, show fr + (i - fr) = i by omega, List.getElem?_eq_getElem hlt]
              rfl
            rw [e]
            intro c hcm
            rcases List.mem_append.1 hcm with hcm | hcm
            · exact hp2 c hcm
            · simp only [List.mem_singleton] at hcm
              subst hcm
              exact fun q => hc (by rw [q]; rfl)
      · obtain rfl : i = s.length + 1 := by omega
        refine KR.exit rfl ?_
        refine KR.done (retR0 (.inl rfl) rfl rfl rfl ?_)
        exact .inl ⟨_, hend rfl, hj⟩
  exact callsIn_wide.2 (hret.2.mono fun e W' ⟨v, he, hq⟩ => ⟨⟨v, he⟩, hq⟩)
end Go.Proofs.YtjgeoeeikfjmdaaGreatDoor
/- paths: a path's one form, by the program. -/
namespace Go.Proofs.YtjgeoeeikfjmdaaGreatDoor
set_option linter.unnecessarySimpa false
open Go.RowKit Pth
set_option linter.unusedVariables false
set_option linter.unusedSimpArgs false

/-! ### What a round keeps -/
theorem Bk.isCells {w : World} {b : Nat} {T : TypeId} {l : List Value} (h : Bk w b T l) : ∃ o : Obj, w.heap[b]? = some o ∧ o.isCells = true := by
  obtain ⟨fr, h, _⟩ := h
  exact ⟨_, h, rfl⟩
theorem Bk.turned {A B : World} {row : Option Nat} {C b : Nat} {T : TypeId} {l : List Value} (h : Bk A b T l) (hg : A.grownBy B row) (hr : ∀ r, row = some r → C ≤ r ∧ ∃ o : Obj, A.heap[r]? = some o ∧ o.isCells = false) : Bk B b T l :=
  h.of_block (hg.block b h.lt fun e => by
    obtain ⟨_, o, ho, hn⟩ := hr b e.symm
    obtain ⟨o', ho', hc⟩ := h.isCells
    rw [ho] at ho'
    cases ho'
    rw [hc] at hn
    cases hn)
theorem Own.turned {A B : World} {row : Option Nat} {C B0 s n : Nat} {T : TypeId} {v : Value} {xs : List Value} (h : Own A B0 T s v n xs) (hg : A.grownBy B row) (hr : ∀ r, row = some r → C ≤ r ∧ ∃ o : Obj, A.heap[r]? = some o ∧ o.isCells = false) : Own B B0 T s v n xs :=
  h.of_blocks fun k hk => by
    obtain ⟨_, l, hb⟩ := h.blkT k hk
    refine hg.block k hb.lt fun e => ?_
    obtain ⟨_, o, ho, hn⟩ := hr k e.symm
    obtain ⟨o', ho', hc⟩ := hb.isCells
    rw [ho] at ho'
    cases ho'
    rw [hc] at hn
    cases hn
theorem Ext.turned {w A B : World} {row : Option Nat} {C : Nat} (h : Ext w A) (hC : w.heap.size ≤ C) (hg : A.grownBy B row) (hr : ∀ r, row = some r → C ≤ r ∧ ∃ o : Obj, A.heap[r]? = some o ∧ o.isCells = false) : Ext w B :=
  h.grown hg fun k e => Nat.le_trans hC (hr k e).1
theorem Mo.keeps {w w' : World} {S : List Nat} (h : Mo w w' S) (hS : ∀ k ∈ S, ∃ T l, Bk w k T l) : KeepsOthers w w' :=
  ⟨h.size, fun k o hk ho => by
    refine (h.block k (Array.getElem?_eq_some_iff.1 hk).1 fun hm => ?_).trans hk
    obtain ⟨T, l, hb⟩ := hS k hm
    obtain ⟨o', ho', hc⟩ := hb.isCells
    rw [hk] at ho'
    cases ho'
    rw [hc] at ho
    cases ho⟩
theorem clean_s (s : List UInt8) (hs : s.length ≤ 1000000000000) (w : World) : Ret Tryz.prog 43 [str s] w fun v w' => v = .tuple #[str (cleanP s).1, .int .i64 (((cleanP s).2 : Nat) : Int)] ∧ Ext w w' := by
  refine Ret.enterR 3 Tryz.func43 rfl Tryz.ntmps43 (by kernel_rfl) rfl ?_
  refine KR.seq (KR.region ?_)
  refine OR.boxB rfl rfl rfl rfl ?_
  rintro sb w1 hge1 hs1 hx1
  refine OR.val rfl rfl (EX.assign rfl) ?_
  refine OR.val rfl rfl (EX.assign rfl) ?_
  refine OR.nil ?_
  refine KR.scope (fun _ _ _ h => h) (KR.seq (KR.region ?_))
  refine OR.buildB 0 rfl rfl Tryz.underlying81 ti9 rfl rfl rfl rfl (by first | rfl | (simp only [List.all_cons, List.all_nil, Bool.and_true, Bool.and_eq_true]; assumption)) (by decide) ?_
  rintro gb w2 hge2 hg2 hx2
  refine OR.allocB (l := [.slice none 0 0]) rfl rfl ti81 rfl ?_
  rintro ob w3 hge3 ho3 hx3
  have hob : w1.heap.size ≤ ob := by have := hx2.size; omega
  refine OR.storeB rfl ti81 rfl rfl (by first | rfl | assumption | exact Own.one (by assumption)) (ho3) (by simp) ?_
  rintro w4 ho4 hm4
  refine OR.nil ?_
  refine KR.seq (KR.region ?_)
  refine OR.val rfl rfl (EX.makeFunc rfl rfl) ?_
  refine OR.val rfl rfl (EX.assign rfl) ?_
  refine OR.nil ?_
  refine KR.seq (KR.seq (KR.region ?_))
  simp only [List.set_cons_zero] at ho4
  have hown4 : Own w4 w1.heap.size 9 1 (.slice (some ⟨gb, 0, none⟩) 0 0) 0 (txtsV []) := ((Own.of_bk (l := []) hg2 hge2 rfl (by decide)).ext hx3).mo hm4 (fun k hk => by
    have := (hg2.ext hx3).ne ho3 (by decide)
    simp [Value.ownBlock] at hk
    subst hk
    simpa using this)
  have hx4 : Ext w1 w4 := below_mo (hx2.trans hx3) hm4 (hx2.trans hx3).size (fun k hk => by simp at hk; subst hk; have := hx2.size; omega)
  have hs4 : Bk w4 sb 9 [str s] := hs1.ext hx4
  refine OR.val rfl rfl (EX.load Tryz.underlying9 rfl rfl (hs4.cell_of rfl)) ?_
  refine OR.val rfl rfl (EX.lenS Tryz.underlying9 rfl) ?_
  refine OR.val rfl rfl (EX.move rfl) ?_
  refine OR.nil ?_
  refine KR.block ?_
  refine KR.loop1 (fun (i : Nat) => i ≤ s.length ∧ ∀ c ∈ s.take i, 32 ≤ c.toNat ∧ c.toNat ≤ 126) (fun (i : Nat) => [(1, .pointer (some ⟨sb, 0, none⟩)), (4, .pointer (some ⟨ob, 0, none⟩)), (5, .func (.func 68) #[] #[.pointer (some ⟨sb, 0, none⟩)]), (13, .int .i64 ((s.length : Nat) : Int)), (14, .int .i64 ((i : Nat) : Int))]) (fun (i : Nat) => w4) (fun (i : Nat) => s.length - i) (0) ⟨rfl, rfl, rfl, rfl, rfl, trivial⟩ rfl ?_ ?_
  · exact ⟨by omega, by simp⟩
  · rintro i ⟨hi, hok⟩
    refine KR.seq (KR.region ?_)
    refine OR.val rfl rfl (by first | exact EX.lssN rfl rfl | exact EX.lssZ rfl rfl) ?_
    refine OR.nil ?_
    refine KR.seq ?_
    refine KR.condD rfl (fun hlt => ?_) (fun hlt => ?_)
    · have hbad : ¬ (32 ≤ s[i].toNat ∧ s[i].toNat ≤ 126) → cleanP s = ([], 140) := fun h => by
        unfold cleanP
        rw [if_neg]
        rintro ⟨h1, _⟩
        exact h (h1 _ (List.getElem_mem hlt))
      refine KR.skip (KR.seq (KR.block (KR.seq (KR.region ?_))))
      refine OR.val rfl rfl (EX.move rfl) ?_
      refine OR.val rfl rfl (EX.assign rfl) ?_
      refine OR.nil ?_
      refine KR.seq ?_
      refine KR.region ?_
      refine OR.val rfl rfl (EX.load Tryz.underlying9 rfl rfl (hs4.cell_of rfl)) ?_
      refine OR.val rfl rfl (EX.move rfl) ?_
      refine OR.val rfl rfl (EX.indexS Tryz.underlying9 rfl rfl (List.getElem?_eq_getElem (by omega))) ?_
      refine OR.val rfl rfl (by first | exact EX.lssN (b := 32) rfl rfl | exact EX.lssZ rfl rfl) ?_
      refine OR.val rfl rfl (EX.move rfl) ?_
      refine OR.splitD 21 rfl (fun h1 => ?_) (fun h1 => ?_)
      · refine OR.pass rfl rfl ?_
        refine OR.pass rfl rfl ?_
        refine OR.pass rfl rfl ?_
        refine OR.pass rfl rfl ?_
        refine OR.val rfl rfl (EX.pickT rfl rfl) ?_
        refine OR.nil ?_
        refine KR.condT rfl (KR.seq (KR.region ?_))
        refine OR.val rfl rfl (EX.assign rfl) ?_
        refine OR.val rfl rfl (EX.assign rfl) ?_
        refine OR.nil ?_
        refine KR.ret (retR2 (.inr rfl) rfl rfl rfl rfl rfl ?_)
        rw [hbad (by omega)]
        exact ⟨rfl, hx1.trans hx4⟩
      · skip
        refine OR.val rfl rfl (EX.load Tryz.underlying9 rfl rfl (hs4.cell_of rfl)) ?_
        refine OR.val rfl rfl (EX.move rfl) ?_
        refine OR.val rfl rfl (EX.indexS Tryz.underlying9 rfl rfl (List.getElem?_eq_getElem (by omega))) ?_
        refine OR.val rfl rfl (by first | exact EX.gtrN (b := 126) rfl rfl | exact EX.gtrZ rfl rfl) ?_
        refine OR.val rfl rfl (EX.pickF rfl rfl) ?_
        refine OR.nil ?_
        refine KR.condD rfl (fun h2 => ?_) (fun h2 => ?_)
        · refine KR.seq (KR.region ?_)
          refine OR.val rfl rfl (EX.assign rfl) ?_
          refine OR.val rfl rfl (EX.assign rfl) ?_
          refine OR.nil ?_
          refine KR.ret (retR2 (.inr rfl) rfl rfl rfl rfl rfl ?_)
          rw [hbad (by omega)]
          exact ⟨rfl, hx1.trans hx4⟩
        · refine KR.skip (KR.leave (KR.region ?_))
          refine OR.val rfl rfl (by first | exact EX.addN (b := 1) (m := 9223372036854775807) rfl rfl rfl (by omega) | exact EX.addZ (m := 9223372036854775807) rfl rfl rfl rfl (by omega)) ?_
          refine OR.val rfl rfl (EX.move rfl) ?_
          refine OR.nil ?_
          refine KR.back1 (i + 1) ⟨rfl, rfl, rfl, rfl, rfl, trivial⟩ rfl ?_ (by omega)
          refine ⟨by omega, fun c hc => ?_⟩
          rw [List.take_add_one, List.getElem?_eq_getElem hlt] at hc
          rcases List.mem_append.1 hc with hc | hc
          · exact hok c hc
          · simp only [Option.toList_some, List.mem_singleton] at hc
            subst hc
            omega
    · have hfit : fits s := by
        rw [List.take_of_length_le (by omega)] at hok
        exact hok
      refine KR.exit rfl (KR.seq (KR.region ?_))
      refine OR.allocB (l := [.bool false]) rfl rfl ti4 rfl ?_
      rintro bb w5 hge5 hb5 hx5
      have hbb : w1.heap.size ≤ bb := by have := hx4.size; omega
      refine OR.storeB rfl ti4 rfl rfl (by first | rfl | assumption | exact Own.one (by assumption)) (hb5) (by simp) ?_
      rintro w6 hb6 hm6
      refine OR.nil ?_
      refine KR.seq (KR.label (KR.seq (KR.seq (KR.region ?_))))
      refine OR.val rfl rfl (EX.move rfl) ?_
      refine OR.nil ?_
      refine KR.block ?_
      simp only [List.set_cons_zero] at hb6
      have hx6 : Ext w1 w6 := below_mo (hx4.trans hx5) hm6 (hx4.trans hx5).size (fun k hk => by simp at hk; subst hk; have := hx4.size; omega)
      have ho6 : Bk w6 ob 81 [.slice (some ⟨gb, 0, none⟩) 0 0] := (ho4.ext hx5).mo hm6 (by simp; exact (ho4.ext hx5).ne hb5 (by decide))
      have hown6 : Own w6 w1.heap.size 9 1 (.slice (some ⟨gb, 0, none⟩) 0 0) 0 (txtsV []) := (hown4.ext hx5).mo hm6 (fun k hk => by
        have := ((hg2.ext hx3).mo hm4 (by simp; exact (hg2.ext hx3).ne ho3 (by decide))).ext hx5 |>.ne hb5 (by decide)
        simp [Value.ownBlock] at hk
        subst hk
        simpa using this)
      have hsb1 : sb < w6.heap.size := by have := hs1.lt; have := hx6.size; omega
      refine KR.rangeF rfl (Nat.le_add_left _ _) Tryz.func68 (by kernel_rfl) rfl rfl rfl (fun _ _ => rfl) (by simp) (iter_s sb s hs w6 (hs1.ext hx6)) (fun h k => k.trans h) (fun W l o o' hl h _ _ => World.putObj_heap_other (by omega)) (fun pre W => ∃ v, Bk W ob 81 [v] ∧ Own W w1.heap.size 9 1 v (kept pre).length (txtsV (kept pre)) ∧ Bk W bb 4 [.bool false] ∧ Ext w1 W ∧ dd ∉ pre) (fun c pre W => ∃ p0, c = .exit 2 ∧ pre = p0 ++ [dd] ∧ ∃ v, Bk W ob 81 [v] ∧ Own W w1.heap.size 9 1 v (kept p0).length (txtsV (kept p0)) ∧ Bk W bb 4 [.bool true] ∧ Ext w1 W) (fun pre A B row h hg hr => let ⟨v, h1, h2, h3, h4, h5⟩ := h; ⟨v, h1.turned hg hr, h2.turned hg hr, h3.turned hg hr, h4.turned hx6.size hg hr, h5⟩) (fun c pre A B row h hg hr => let ⟨p0, e1, e2, v, h1, h2, h3, h4⟩ := h; ⟨p0, e1, e2, v, h1.turned hg hr, h2.turned hg hr, h3.turned hg hr, h4.turned hx6.size hg hr⟩) (⟨_, ho6, hown6, hb6, hx6, by simp⟩) ?_ ?_ ?_
      · rintro l pre x W ⟨v, h1, h2, h3, h4, h5⟩ hlen
        have hsW : Bk W sb 9 [str s] := hs1.ext h4
        have hkl : (kept pre).length ≤ pre.length := List.length_filter_le _ _
        have stay : keepB x = false → x ≠ dd → (KeepsOthers W W ∧ KpS sb W W ∧ ∃ v, Bk W ob 81 [v] ∧ Own W w1.heap.size 9 1 v (kept (pre ++ [x])).length (txtsV (kept (pre ++ [x]))) ∧ Bk W bb 4 [.bool false] ∧ Ext w1 W ∧ dd ∉ pre ++ [x]) := fun hk hd => by
          rw [kept_snoc, hk, if_neg (by simp)]
          exact ⟨KeepsOthers.refl W, rfl, v, h1, h2, h3, h4, by simp [h5, Ne.symm hd]⟩
        refine KR.block (KR.seq (KR.seq (KR.region ?_)))
        refine OR.val rfl rfl (EX.move rfl) ?_
        refine OR.nil ?_
        refine KR.block (KR.seq (KR.seq (KR.region ?_)))
        refine OR.val rfl rfl (EX.eqlS (r := []) rfl rfl) ?_
        refine OR.val rfl rfl (EX.assign rfl) ?_
        refine OR.nil ?_
        refine KR.condD rfl (fun hx0 => ?_) (fun hx0 => ?_)
        · refine KR.as 31 (.bool true) rfl (congrArg Value.bool (decide_eq_true (hx0))) ?_
          refine KR.skip (KR.condT rfl (KR.exit rfl ?_))
          refine KR.done ?_
          exact fun _ _ => stay (by rw [hx0]; rfl) (by rw [hx0]; decide)
        · refine KR.region ?_
          refine OR.val rfl rfl (EX.eqlS (r := [46]) rfl rfl) ?_
          refine OR.val rfl rfl (EX.assign rfl) ?_
          refine OR.nil ?_
          refine KR.condD rfl (fun hx1 => ?_) (fun hx1 => ?_)
          · refine KR.exit rfl ?_
            refine KR.done ?_
            exact fun _ _ => stay (by rw [hx1]; rfl) (by rw [hx1]; decide)
          · refine KR.seq (KR.region ?_)
            refine OR.val rfl rfl (EX.eqlS (r := [46, 46]) rfl rfl) ?_
            refine OR.val rfl rfl (EX.assign rfl) ?_
            refine OR.nil ?_
            refine KR.condD rfl (fun hx2 => ?_) (fun hx2 => ?_)
            · refine KR.seq (KR.region ?_)
              refine OR.storeB rfl ti4 rfl rfl (by first | rfl | assumption | exact Own.one (by assumption)) (h3) (by simp) ?_
              rintro W2 hb2 hm2
              refine OR.nil ?_
              refine KR.exitOut rfl ?_
              simp only [List.set_cons_zero] at hb2
              exact fun _ _ => ⟨hm2.keeps (fun k hk => by simp at hk; subst hk; exact ⟨_, _, h3⟩), pre, rfl, by rw [hx2]; rfl, v, h1.mo hm2 (by simp; exact h1.ne h3 (by decide)), h2.mo hm2 (fun k hk => by simp; exact fun q => h2.ne h3 (by decide) k hk q.symm), hb2, below_mo h4 hm2 h4.size (fun k hk => by simp at hk; subst hk; have := hx4.size; have := hx5.size; omega)⟩
            · have hkx : keepB x = true := by simp [keepB, hx0, hx1]
              refine KR.skip (KR.leave (KR.region ?_))
              refine OR.val rfl rfl (EX.load Tryz.underlying81 rfl rfl (h1.cell_of rfl)) ?_
              refine OR.val rfl rfl (EX.move rfl) ?_
              refine OR.push rfl rfl (fun _ => rfl) rfl Tryz.underlying81 ti9 rfl rfl (fun _ => rfl) rfl (h4) (h2) (by simp only [maxLen]; omega) (by omega) ?_
              rintro _ v2 W2 hown2 hx2' hg2' ho2
              have hm2 : Mo W W2 v.ownBlock.toList := Mo.grown hg2' (fun k e => by rw [e]; simp)
              have nb : ob ∉ v.ownBlock.toList := fun q => h2.ne h1 (by decide) ob (by simpa using q) rfl
              have nbb : bb ∉ v.ownBlock.toList := fun q => h2.ne h3 (by decide) bb (by simpa using q) rfl
              have ho2b := h1.mo hm2 nb
              have hb2b := h3.mo hm2 nbb
              refine OR.storeB rfl ti81 rfl rfl (by first | rfl | assumption | exact Own.one (by assumption)) (ho2b) (by simp) ?_
              rintro W3 ho3' hm3
              refine OR.nil ?_
              refine KR.leave ?_
              simp only [List.set_cons_zero] at ho3'
              refine KR.done ?_
              have hown3 : Own W3 w1.heap.size 9 1 v2 (kept (pre ++ [x])).length (txtsV (kept (pre ++ [x]))) := by
                rw [kept_snoc, if_pos hkx, List.length_append, txtsV_snoc]
                exact hown2.mo hm3 (fun k hk => by simp; exact fun q => hown2.ne ho2b (by decide) k hk q.symm)
              have hx3' : Ext w1 W3 := below_mo hx2' hm3 hx2'.size (fun k hk => by simp at hk; omega)
              have hsW3 : Bk W3 sb 9 [str s] := hs1.ext hx3'
              refine fun _ _ => ⟨(hm2.keeps fun k hk => ?_).trans (hm3.keeps fun k hk => ?_), ?_, v2, ho3', hown3, hb2b.mo hm3 (by simp; exact hb2b.ne ho2b (by decide)), hx3', by simp only [List.mem_append, List.mem_singleton, not_or]; exact ⟨h5, fun q => hx2 q.symm⟩⟩
              · obtain ⟨_, l, hb⟩ := h2.blkT k (by simpa using hk)
                exact ⟨_, _, hb⟩
              · simp at hk
                subst hk
                exact ⟨_, _, ho2b⟩
              · show W3.heap[sb]? = W.heap[sb]?
                exact (hx3'.block sb hs1.lt).trans (h4.block sb hs1.lt).symm
      · rintro D xs W hD rfl ⟨v, h1, h2, h3, h4, h5⟩ hK
        obtain ⟨A, c, rfl, hc, hsl⟩ := h2.slice
        have hwt : wt (kept (parts s)) ≤ 140737488355328 := by have q1 := wt_filter keepB (parts s); have q2 := wt_parts s; unfold kept; omega
        have hDl : D < W.heap.size := (Array.getElem?_eq_some_iff.1 hK).1
        refine KR.leave (KR.seq (KR.region ?_))
        refine OR.val rfl rfl (EX.load Tryz.underlying81 rfl rfl (h1.cell_of rfl)) ?_
        refine OR.call rfl rfl rfl (join_c A c (kept (parts s)) _ W hsl (Nat.le_refl _) hc hwt) ?_
        rintro _ W2 ⟨rfl, hxW⟩
        refine OR.val rfl rfl (EX.assign rfl) ?_
        refine OR.nil ?_
        refine KR.seq (KR.seq ?_)
        have hK2 : W2.heap[D]? = some (.deferred (some [])) := (hxW.block D hDl).trans hK
        have hxe : Ext w (W2.putObj D (.deferred none)) := Ext.putObj ((hx1.trans h4).trans hxW) (by have := hx1.size; have := hx6.size; omega) _
        have h3' := h3.ext hxW
        refine KR.region ?_
        refine OR.val rfl rfl (EX.load Tryz.underlying4 rfl rfl (h3'.cell_of rfl)) ?_
        refine OR.val rfl rfl (EX.move rfl) ?_
        refine OR.val rfl rfl (EX.move rfl) ?_
        refine OR.val rfl rfl (EX.eqlS (r := []) rfl rfl) ?_
        refine OR.val rfl rfl (EX.pickF rfl rfl) ?_
        refine OR.val rfl rfl (EX.move rfl) ?_
        refine OR.splitD 47 rfl (fun j1 => ?_) (fun j1 => ?_)
        · refine OR.pass rfl rfl ?_
          refine OR.pass rfl rfl ?_
          refine OR.pass rfl rfl ?_
          refine OR.val rfl rfl (EX.pickT rfl rfl) ?_
          refine OR.nil ?_
          refine KR.condT rfl (KR.seq (KR.region ?_))
          refine OR.val rfl rfl (EX.assign rfl) ?_
          refine OR.val rfl rfl (EX.assign rfl) ?_
          refine OR.nil ?_
          refine KR.ret (retM2 (.inr rfl) rfl rfl (hK2) rfl rfl rfl ?_)
          have e : cleanP s = ([], 140) := by unfold cleanP; rw [if_neg (fun q => q.2.2.1 j1)]
          rw [e]
          exact ⟨rfl, hxe⟩
        · refine OR.val rfl rfl (EX.move rfl) ?_
          refine OR.val rfl rfl (EX.lenS Tryz.underlying9 rfl) ?_
          refine OR.val rfl rfl (by first | exact EX.gtrN (b := 120) rfl rfl | exact EX.gtrZ rfl rfl) ?_
          refine OR.val rfl rfl (EX.pickF rfl rfl) ?_
          refine OR.nil ?_
          refine KR.condD rfl (fun j2 => ?_) (fun j2 => ?_)
          · refine KR.seq (KR.region ?_)
            refine OR.val rfl rfl (EX.assign rfl) ?_
            refine OR.val rfl rfl (EX.assign rfl) ?_
            refine OR.nil ?_
            refine KR.ret (retM2 (.inr rfl) rfl rfl (hK2) rfl rfl rfl ?_)
            have e : cleanP s = ([], 140) := by unfold cleanP; rw [if_neg (fun q => by have := q.2.2.2; omega)]
            rw [e]
            exact ⟨rfl, hxe⟩
          · refine KR.skip (KR.seq (KR.region ?_))
            refine OR.val rfl rfl (EX.move rfl) ?_
            refine OR.val rfl rfl (EX.assign rfl) ?_
            refine OR.val rfl rfl (EX.assign rfl) ?_
            refine OR.nil ?_
            refine KR.ret (retM2 (.inr rfl) rfl rfl (hK2) rfl rfl rfl ?_)
            have e : cleanP s = (joinS (kept (parts s)), 0) := by unfold cleanP; rw [if_pos ⟨hfit, h5, j1, by omega⟩]
            rw [e]
            exact ⟨rfl, hxe⟩
      · rintro D c pre W hD hpre ⟨p0, rfl, rfl, v, h1, h2, h3, h4⟩ hK
        obtain ⟨A, c, rfl, hc, hsl⟩ := h2.slice
        have hwt : wt (kept p0) ≤ 140737488355328 := by
          have q1 := wt_filter keepB p0
          have q2 := wt_parts s
          obtain ⟨r, hr⟩ := hpre
          rw [← hr, wt_append, wt_append] at q2
          unfold kept
          omega
        have e : cleanP s = ([], 140) := by
          unfold cleanP
          rw [if_neg]
          rintro ⟨_, h, _⟩
          exact h (hpre.subset (by simp))
        have hDl : D < W.heap.size := (Array.getElem?_eq_some_iff.1 hK).1
        refine KR.exit rfl (KR.seq (KR.region ?_))
        refine OR.val rfl rfl (EX.load Tryz.underlying81 rfl rfl (h1.cell_of rfl)) ?_
        refine OR.call rfl rfl rfl (join_c A c (kept p0) _ W hsl (Nat.le_refl _) hc hwt) ?_
        rintro _ W2 ⟨rfl, hxW⟩
        refine OR.val rfl rfl (EX.assign rfl) ?_
        refine OR.nil ?_
        refine KR.seq (KR.seq ?_)
        have hK2 : W2.heap[D]? = some (.deferred (some [])) := (hxW.block D hDl).trans hK
        have hxe : Ext w (W2.putObj D (.deferred none)) := Ext.putObj ((hx1.trans h4).trans hxW) (by have := hx1.size; have := hx6.size; omega) _
        have h3' := h3.ext hxW
        refine KR.region ?_
        refine OR.val rfl rfl (EX.load Tryz.underlying4 rfl rfl (h3'.cell_of rfl)) ?_
        refine OR.val rfl rfl (EX.move rfl) ?_
        refine OR.pass rfl rfl ?_
        refine OR.pass rfl rfl ?_
        refine OR.val rfl rfl (EX.pickT rfl rfl) ?_
        refine OR.val rfl rfl (EX.move rfl) ?_
        refine OR.pass rfl rfl ?_
        refine OR.pass rfl rfl ?_
        refine OR.pass rfl rfl ?_
        refine OR.val rfl rfl (EX.pickT rfl rfl) ?_
        refine OR.nil ?_
        refine KR.condT rfl (KR.seq (KR.region ?_))
        refine OR.val rfl rfl (EX.assign rfl) ?_
        refine OR.val rfl rfl (EX.assign rfl) ?_
        refine OR.nil ?_
        refine KR.ret (retM2 (.inr rfl) rfl rfl (hK2) rfl rfl rfl ?_)
        rw [e]
        exact ⟨rfl, hxe⟩
end Go.Proofs.YtjgeoeeikfjmdaaGreatDoor
/- paths: Check; the document's Parts, Clean, Check. -/
namespace Go.Proofs.YtjgeoeeikfjmdaaGreatDoor
set_option linter.unnecessarySimpa false
open Go.RowKit Pth
set_option linter.unusedVariables false
set_option linter.unusedSimpArgs false

theorem check_s (s : List UInt8) (hs : s.length ≤ 1000000000000) (w : World) : Ret Tryz.prog 20 [str s] w fun v w' => v = .int .i64 ((checkP s : Nat) : Int) ∧ Ext w w' := by
  refine Ret.enter Tryz.func20 rfl Tryz.ntmps20 (by kernel_rfl) rfl ?_
  refine KW.seq (KW.region ?_)
  refine OW.val rfl rfl (EX.assign rfl) ?_
  refine OW.nil ?_
  refine KW.seq (KW.seq (KW.region ?_))
  refine OW.val rfl rfl (EX.move rfl) ?_
  refine OW.call rfl rfl rfl (clean_s s hs w) ?_
  rintro _ w1 ⟨rfl, hx⟩
  refine OW.val rfl rfl (EX.move rfl) ?_
  refine OW.val rfl rfl (EX.extract rfl rfl) ?_
  refine OW.val rfl rfl (EX.extract rfl rfl) ?_
  refine OW.val rfl rfl (EX.assign rfl) ?_
  refine OW.val rfl rfl (EX.assign rfl) ?_
  refine OW.nil ?_
  refine KW.seq ?_
  rcases hc : cleanP s with ⟨q, e⟩
  refine KW.region ?_
  refine OW.val rfl rfl (EX.move rfl) ?_
  refine OW.val rfl rfl (by first | exact EX.neqN (b := 0) rfl rfl | exact EX.neqZ rfl rfl) ?_
  refine OW.val rfl rfl (EX.move rfl) ?_
  refine OW.splitD 12 rfl (fun h1 => ?_) (fun h1 => ?_)
  · have h : checkP s = 140 := by unfold checkP; rw [hc, if_neg (by simp only [Prod.mk.injEq]; omega)]
    refine OW.pass rfl rfl ?_
    refine OW.pass rfl rfl ?_
    refine OW.pass rfl rfl ?_
    refine OW.val rfl rfl (EX.pickT rfl rfl) ?_
    refine OW.nil ?_
    refine KW.condT rfl (KW.seq (KW.region ?_))
    refine OW.val rfl rfl (EX.assign rfl) ?_
    refine OW.nil ?_
    refine KW.ret (ret1 rfl rfl ?_)
    rw [h]
    exact ⟨rfl, hx⟩
  · refine OW.val rfl rfl (EX.move rfl) ?_
    refine OW.val rfl rfl (EX.move rfl) ?_
    refine OW.val rfl rfl (EX.neqS rfl rfl) ?_
    refine OW.val rfl rfl (EX.pickF rfl rfl) ?_
    refine OW.nil ?_
    refine KW.condD rfl (fun h2 => ?_) (fun h2 => ?_)
    · have h : checkP s = 140 := by unfold checkP; rw [hc, if_neg (by simp only [Prod.mk.injEq]; exact fun q => h2 q.1)]
      refine KW.seq (KW.region ?_)
      refine OW.val rfl rfl (EX.assign rfl) ?_
      refine OW.nil ?_
      refine KW.ret (ret1 rfl rfl ?_)
      rw [h]
      exact ⟨rfl, hx⟩
    · have h : checkP s = 0 := by unfold checkP; rw [hc, if_pos (by simp only [Prod.mk.injEq]; exact ⟨by simpa using h2, by omega⟩)]
      refine KW.skip (KW.seq (KW.region ?_))
      refine OW.val rfl rfl (EX.assign rfl) ?_
      refine OW.nil ?_
      refine KW.ret (ret1 rfl rfl ?_)
      rw [h]
      exact ⟨rfl, hx⟩
/-! ### The document's -/
theorem parts_snoc47 : ∀ a : List UInt8, parts (a ++ [47]) = parts a ++ [[]]
  | [] => rfl
  | c :: a => by
    have ih := parts_snoc47 a
    rw [List.cons_append, parts_cons, parts_cons, ih]
    split
    · rfl
    · rcases hp : parts a with _ | ⟨p, r⟩
      · exact absurd hp (parts_ne a)
      · rfl
theorem parts_snoc {c : UInt8} (hc : c ≠ 47) : ∀ a : List UInt8, ∃ l x, parts a = l ++ [x] ∧ parts (a ++ [c]) = l ++ [x ++ [c]]
  | [] => ⟨[], [], rfl, by simp [parts, hc]⟩
  | b :: a => by
    obtain ⟨l, x, h1, h2⟩ := parts_snoc hc a
    rw [List.cons_append, parts_cons, parts_cons, h1, h2]
    split
    · exact ⟨[] :: l, x, rfl, rfl⟩
    · rcases l with _ | ⟨p, l⟩
      · exact ⟨[], b :: x, rfl, rfl⟩
      · exact ⟨(b :: p) :: l, x, rfl, rfl⟩
theorem txtsV_one {l : Txts} : ∀ u ∈ txtsV l, u.oneCell' = true := by
  intro u hu
  obtain ⟨_, _, rfl⟩ := List.mem_map.1 hu
  rfl
theorem txtsV_get {l : Txts} {i : Nat} (h : i < l.length) : (txtsV l)[i]? = some (str l[i]) := by simp [txtsV, h]
set_option maxRecDepth 20000 in
theorem rparts_s (s : List UInt8) (hs : s.length ≤ 1000000000000) (w : World) : Ret Tryz.prog 65 [str s] w fun v w' => Own w' w.heap.size 9 1 v (parts s).length (txtsV (parts s)) ∧ Ext w w' := by
  refine Ret.enter Tryz.func65 rfl Tryz.ntmps65 (by kernel_rfl) rfl ?_
  refine KW.seq (KW.region ?_)
  refine OW.val rfl rfl (EX.assign rfl) ?_
  refine OW.nil ?_
  refine KW.seq (KW.region ?_)
  refine OW.buildB 1 rfl rfl Tryz.underlying81 ti9 rfl rfl rfl rfl (by first | rfl | (simp only [List.all_cons, List.all_nil, Bool.and_true, Bool.and_eq_true]; assumption)) (by decide) ?_
  rintro gb w1 hge1 hg1 hx1
  refine OW.val rfl rfl (EX.assign rfl) ?_
  refine OW.nil ?_
  refine KW.seq (KW.seq (KW.region ?_))
  refine OW.val rfl rfl (EX.assign rfl) ?_
  refine OW.nil ?_
  refine KW.block ?_
  have hown1 : Own w1 w.heap.size 9 1 (.slice (some ⟨gb, 0, none⟩) 1 1) 1 (txtsV (parts (s.take 0))) := Own.of_bk (l := [str []]) hg1 hge1 rfl (by decide)
  refine KW.loop3 (fun (i : Nat) (v : Value) (wr : World) => i ≤ s.length ∧ Own wr w.heap.size 9 1 v (parts (s.take i)).length (txtsV (parts (s.take i))) ∧ Ext w wr) (fun (i : Nat) (v : Value) (wr : World) => [(0, str (s)), (3, v), (4, .int .i64 ((i : Nat) : Int))]) (fun (i : Nat) (v : Value) (wr : World) => wr) (fun (i : Nat) (v : Value) (wr : World) => s.length - i) (0) (.slice (some ⟨gb, 0, none⟩) 1 1) (w1) ⟨rfl, rfl, rfl, trivial⟩ rfl ?_ ?_
  · exact ⟨by omega, hown1, hx1⟩
  · rintro i v wr ⟨hi, hown, hx⟩
    refine KW.seq (KW.seq (KW.region ?_))
    refine OW.val rfl rfl (EX.move rfl) ?_
    refine OW.val rfl rfl (EX.move rfl) ?_
    refine OW.val rfl rfl (EX.lenS Tryz.underlying9 rfl) ?_
    refine OW.val rfl rfl (by first | exact EX.lssN rfl rfl | exact EX.lssZ rfl rfl) ?_
    refine OW.nil ?_
    refine KW.condD rfl (fun hlt => ?_) (fun hlt => ?_)
    · have hpl : (parts (s.take i)).length ≤ i + 1 := by have h1 := wt_len (parts (s.take i)); rw [wt_parts, List.length_take] at h1; omega
      have htk : s.take (i + 1) = s.take i ++ [s[i]] := by rw [List.take_add_one, List.getElem?_eq_getElem hlt]; rfl
      refine KW.skip (KW.seq (KW.block (KW.seq (KW.region ?_))))
      refine OW.val rfl rfl (EX.move rfl) ?_
      refine OW.val rfl rfl (EX.move rfl) ?_
      refine OW.val rfl rfl (EX.indexS Tryz.underlying9 rfl rfl (List.getElem?_eq_getElem (by omega))) ?_
      refine OW.val rfl rfl (by first | exact EX.eqlN (b := 47) rfl rfl | exact EX.eqlZ rfl rfl) ?_
      refine OW.nil ?_
      refine KW.condD rfl (fun h47 => ?_) (fun h47 => ?_)
      · have e47 : s[i] = 47 := UInt8.toNat_inj.1 h47
        refine KW.region ?_
        refine OW.val rfl rfl (EX.move rfl) ?_
        refine OW.push rfl rfl (fun _ => rfl) rfl Tryz.underlying81 ti9 rfl rfl (fun _ => rfl) rfl (hx) (hown) (by simp only [maxLen]; omega) (by omega) ?_
        rintro _ v2 w2 hown2 hx2 hg2 ho2
        refine OW.val rfl rfl (EX.assign rfl) ?_
        refine OW.nil ?_
        refine KW.leave (KW.region ?_)
        refine OW.val rfl rfl (EX.move rfl) ?_
        refine OW.val rfl rfl (by first | exact EX.addN (b := 1) (m := 9223372036854775807) rfl rfl rfl (by omega) | exact EX.addZ (m := 9223372036854775807) rfl rfl rfl rfl (by omega)) ?_
        refine OW.val rfl rfl (EX.assign rfl) ?_
        refine OW.nil ?_
        refine KW.back3 (i + 1) (v2) (w2) ⟨rfl, rfl, rfl, trivial⟩ rfl ?_ (by omega)
        refine ⟨by omega, ?_, hx2⟩
        rw [htk, e47, parts_snoc47, List.length_append, txtsV_snoc]
        exact hown2
      · obtain ⟨l, x, e1, e2⟩ := parts_snoc (c := s[i]) (fun q => h47 (by rw [q]; rfl)) (s.take i)
        rw [e1] at hown hpl
        rw [List.length_append, List.length_singleton] at hpl
        obtain ⟨g, cap, rest, rfl, hgB, hg, hgl, hgc, hgm⟩ := hown.blk (by rw [txtsV_length, List.length_append]; simp)
        have hlast : (txtsV (l ++ [x]) ++ rest)[l.length]? = some (str x) := by
          rw [List.getElem?_append_left (by simp [txtsV])]
          simp [txtsV]
        have hxl : x.length ≤ i := by
          have h1 := wt_parts (s.take i)
          rw [e1, wt_append, List.length_take] at h1
          simp only [wt] at h1
          omega
        rw [List.length_append, List.length_singleton] at hown ⊢
        refine KW.regionH 17 (by kernel_rfl) (by kernel_rfl) ?_
        refine HW.val rfl rfl (EX.move rfl) ?_
        refine HW.val rfl rfl (EX.move rfl) ?_
        refine HW.val rfl rfl (EX.lenA Tryz.underlying81 rfl) ?_
        refine HW.val rfl rfl (by first | exact EX.subN (b := 1) (m := 9223372036854775807) rfl rfl rfl (by omega) | exact EX.subZ (m := 9223372036854775807) rfl rfl rfl rfl (by omega)) ?_
        refine HW.val rfl rfl (EX.move rfl) ?_
        refine HW.val rfl rfl (EX.move rfl) ?_
        refine HW.val rfl rfl (EX.lenA Tryz.underlying81 rfl) ?_
        refine HW.val rfl rfl (by first | exact EX.subN (b := 1) (m := 9223372036854775807) rfl rfl rfl (by omega) | exact EX.subZ (m := 9223372036854775807) rfl rfl rfl rfl (by omega)) ?_
        refine HW.val rfl rfl (by first | exact EX.indexAddrS0 Tryz.underlying81 ti9 rfl rfl (by omega) | exact EX.indexAddrS1 Tryz.underlying81 ti9 rfl rfl (by omega)) ?_
        refine HW.val rfl rfl (EX.load Tryz.underlying9 rfl rfl (hg.drew.cell_of (by rw [Nat.add_sub_cancel]; exact hlast))) ?_
        refine HW.val rfl rfl (EX.move rfl) ?_
        refine HW.val rfl rfl (EX.move rfl) ?_
        refine HW.val rfl rfl (EX.move rfl) ?_
        refine HW.val rfl rfl (by first | exact EX.addN (b := 1) (m := 9223372036854775807) rfl rfl rfl (by omega) | exact EX.addZ (m := 9223372036854775807) rfl rfl rfl rfl (by omega)) ?_
        refine HW.val rfl rfl (EX.sliceLH Tryz.underlying9 rfl rfl rfl (by omega)) ?_
        refine HW.val rfl rfl (EX.addS rfl rfl (by first | omega | (simp only [List.length_append, List.length_cons, List.length_nil, List.length_take, List.length_drop, List.length_replicate]; omega))) ?_
        refine HW.val rfl rfl (by first | exact EX.indexAddrS0 Tryz.underlying81 ti9 rfl rfl (by omega) | exact EX.indexAddrS1 Tryz.underlying81 ti9 rfl rfl (by omega)) ?_
        refine HW.tail ?_
        have hgd := hg.drew
        refine OW.storeB rfl ti9 rfl rfl (by first | rfl | assumption | exact Own.one (by assumption)) (hgd) (by rw [List.length_append, txtsV_length, List.length_append, List.length_singleton]; omega) ?_
        rintro w2 hb2 hm2
        refine OW.nil ?_
        refine KW.leave (KW.region ?_)
        refine OW.val rfl rfl (EX.move rfl) ?_
        refine OW.val rfl rfl (by first | exact EX.addN (b := 1) (m := 9223372036854775807) rfl rfl rfl (by omega) | exact EX.addZ (m := 9223372036854775807) rfl rfl rfl rfl (by omega)) ?_
        refine OW.val rfl rfl (EX.assign rfl) ?_
        refine OW.nil ?_
        have e1c : (s.drop i).take (i + 1 - i) = [s[i]] := by
          rw [show i + 1 - i = 1 by omega, List.drop_eq_getElem_cons hlt]
          rfl
        rw [Nat.add_sub_cancel, e1c] at hb2
        refine KW.back3 (i + 1) (.slice (some ⟨g, 0, none⟩) (l.length + 1) cap) (w2) ⟨rfl, rfl, rfl, trivial⟩ rfl ?_ (by omega)
        refine ⟨by omega, ?_, below_mo (hx.trans (Ext.drew wr)) hm2 (hx.trans (Ext.drew wr)).size (fun k hk => by simp at hk; omega)⟩
        rw [htk, e2]
        have hset : (txtsV (l ++ [x]) ++ rest).set l.length (str (x ++ [s[i]])) = txtsV (l ++ [x ++ [s[i]]]) ++ rest := by
          rw [txtsV_snoc, txtsV_snoc, List.append_assoc, List.append_assoc, List.set_append_right _ _ (by simp [txtsV])]
          simp [txtsV]
        rw [hset] at hb2
        rw [List.length_append, List.length_singleton]
        exact ⟨by simp [txtsV], .inr ⟨g, cap, rest, rfl, hgB, hb2, by simp only [txtsV_length, List.length_append, List.length_singleton] at hgl ⊢; exact hgl, by simpa using hgc, hgm⟩⟩
    · obtain rfl : i = s.length := by omega
      rw [List.take_length] at hown
      refine KW.exit rfl (KW.seq (KW.region ?_))
      refine OW.val rfl rfl (EX.move rfl) ?_
      refine OW.val rfl rfl (EX.assign rfl) ?_
      refine OW.nil ?_
      refine KW.ret (ret1 rfl rfl ?_)
      exact ⟨hown, hx⟩
theorem kept_take {l : Txts} {i : Nat} (h : i < l.length) : kept (l.take (i + 1)) = if keepB l[i] = true then kept (l.take i) ++ [l[i]] else kept (l.take i) := by
  rw [List.take_add_one, List.getElem?_eq_getElem h]
  exact kept_snoc _ _
theorem joinS_wtk (s : List UInt8) (i : Nat) : (joinS (kept ((parts s).take i))).length ≤ s.length + 1 := by
  have h1 := joinS_wt (kept ((parts s).take i))
  have h2 := wt_filter keepB ((parts s).take i)
  have h3 := wt_append ((parts s).take i) ((parts s).drop i)
  rw [List.take_append_drop, wt_parts] at h3
  unfold kept at h1 ⊢
  omega
theorem rclean_s (s : List UInt8) (hs : s.length ≤ 1000000000000) (w : World) : Ret Tryz.prog 48 [str s] w fun v w' => v = .tuple #[str (cleanP s).1, .int .i64 (((cleanP s).2 : Nat) : Int)] ∧ Ext w w' := by
  refine Ret.enter Tryz.func48 rfl Tryz.ntmps48 (by kernel_rfl) rfl ?_
  refine KW.seq (KW.region ?_)
  refine OW.val rfl rfl (EX.assign rfl) ?_
  refine OW.val rfl rfl (EX.assign rfl) ?_
  refine OW.nil ?_
  refine KW.seq (KW.region ?_)
  refine OW.val rfl rfl (EX.assign rfl) ?_
  refine OW.nil ?_
  refine KW.seq (KW.region ?_)
  refine OW.val rfl rfl (EX.move rfl) ?_
  refine OW.call rfl rfl rfl (rparts_s s hs w) ?_
  rintro v w1 ⟨hown, hx⟩
  refine OW.val rfl rfl (EX.assign rfl) ?_
  refine OW.nil ?_
  refine KW.seq (KW.seq (KW.region ?_))
  refine OW.val rfl rfl (EX.assign rfl) ?_
  refine OW.nil ?_
  refine KW.block ?_
  obtain ⟨A, c, rfl, hc, hsl⟩ := hown.slice
  have hpos : 0 < (parts s).length := List.length_pos_iff.2 (parts_ne s)
  have hpl : (parts s).length ≤ s.length + 1 := by have h1 := wt_len (parts s); rw [wt_parts] at h1; exact h1
  obtain ⟨b, o, rfl, _, hcell⟩ := hsl.at_ (by rw [txtsV_length]; exact hpos)
  refine KW.loop2 (fun (i : Nat) (q : (List UInt8)) => i ≤ (parts s).length ∧ dd ∉ (parts s).take i ∧ q = joinS (kept ((parts s).take i))) (fun (i : Nat) (q : (List UInt8)) => [(0, str (s)), (4, str (q)), (5, .slice (some ⟨b, o, none⟩) (parts s).length c), (6, .int .i64 ((i : Nat) : Int))]) (fun (i : Nat) (q : (List UInt8)) => w1) (fun (i : Nat) (q : (List UInt8)) => (parts s).length - i) (0) ([]) ⟨rfl, rfl, rfl, rfl, trivial⟩ rfl ?_ ?_
  · exact ⟨by omega, by simp, rfl⟩
  · rintro i q ⟨hi, hdd, hq⟩
    refine KW.seq (KW.seq (KW.region ?_))
    refine OW.val rfl rfl (EX.move rfl) ?_
    refine OW.val rfl rfl (EX.move rfl) ?_
    refine OW.val rfl rfl (EX.lenA Tryz.underlying81 rfl) ?_
    refine OW.val rfl rfl (by first | exact EX.lssN rfl rfl | exact EX.lssZ rfl rfl) ?_
    refine OW.nil ?_
    refine KW.condD rfl (fun hlt => ?_) (fun hlt => ?_)
    · have hci := hcell i _ (txtsV_get hlt)
      have hjl := joinS_wtk s i
      have hjl2 := joinS_wtk s (i + 1)
      have hxl : (parts s)[i].length ≤ s.length := by have h1 := wt_mem (List.getElem_mem hlt); rw [wt_parts] at h1; omega
      refine KW.skip (KW.seq (KW.block (KW.seq (KW.seq (KW.region ?_)))))
      refine OW.val rfl rfl (EX.move rfl) ?_
      refine OW.val rfl rfl (EX.move rfl) ?_
      refine OW.val rfl rfl (by first | exact EX.indexAddrS0 Tryz.underlying81 ti9 rfl rfl (by omega) | exact EX.indexAddrS1 Tryz.underlying81 ti9 rfl rfl (by omega)) ?_
      refine OW.val rfl rfl (EX.load Tryz.underlying9 rfl rfl (hci)) ?_
      refine OW.val rfl rfl (EX.eqlS (r := [46, 46]) rfl rfl) ?_
      refine OW.nil ?_
      refine KW.condD rfl (fun h0 => ?_) (fun h0 => ?_)
      · have e : cleanP s = ([], 140) := by
          unfold cleanP
          rw [if_neg]
          rintro ⟨_, h, _⟩
          exact h (by rw [show dd = (parts s)[i] from h0.symm]; exact List.getElem_mem hlt)
        refine KW.seq (KW.region ?_)
        refine OW.val rfl rfl (EX.assign rfl) ?_
        refine OW.val rfl rfl (EX.assign rfl) ?_
        refine OW.nil ?_
        refine KW.ret (ret2 rfl rfl rfl ?_)
        rw [e]
        exact ⟨rfl, hx⟩
      · have hdd' : dd ∉ (parts s).take (i + 1) := by
          rw [List.take_add_one, List.getElem?_eq_getElem hlt]
          simp only [Option.toList_some, List.mem_append, List.mem_singleton, not_or]
          exact ⟨hdd, fun q => h0 q.symm⟩
        refine KW.skip (KW.seq (KW.seq ?_))
        refine KW.region ?_
        refine OW.val rfl rfl (EX.move rfl) ?_
        refine OW.val rfl rfl (EX.move rfl) ?_
        refine OW.val rfl rfl (by first | exact EX.indexAddrS0 Tryz.underlying81 ti9 rfl rfl (by omega) | exact EX.indexAddrS1 Tryz.underlying81 ti9 rfl rfl (by omega)) ?_
        refine OW.val rfl rfl (EX.load Tryz.underlying9 rfl rfl (hci)) ?_
        refine OW.val rfl rfl (EX.eqlS (r := []) rfl rfl) ?_
        refine OW.val rfl rfl (EX.move rfl) ?_
        refine OW.splitD 26 rfl (fun h1 => ?_) (fun h1 => ?_)
        · have hk : kept ((parts s).take (i + 1)) = kept ((parts s).take i) := by rw [kept_take hlt, if_neg (by simp [keepB, h1])]
          refine OW.pass rfl rfl ?_
          refine OW.pass rfl rfl ?_
          refine OW.pass rfl rfl ?_
          refine OW.pass rfl rfl ?_
          refine OW.pass rfl rfl ?_
          refine OW.val rfl rfl (EX.pickT rfl rfl) ?_
          refine OW.nil ?_
          refine KW.condT rfl (KW.exit rfl (KW.region ?_))
          refine OW.val rfl rfl (EX.move rfl) ?_
          refine OW.val rfl rfl (by first | exact EX.addN (b := 1) (m := 9223372036854775807) rfl rfl rfl (by omega) | exact EX.addZ (m := 9223372036854775807) rfl rfl rfl rfl (by omega)) ?_
          refine OW.val rfl rfl (EX.assign rfl) ?_
          refine OW.nil ?_
          refine KW.back2 (i + 1) (q) ⟨rfl, rfl, rfl, rfl, trivial⟩ rfl ?_ (by omega)
          exact ⟨by omega, hdd', by rw [hk]; exact hq⟩
        · refine OW.val rfl rfl (EX.move rfl) ?_
          refine OW.val rfl rfl (EX.move rfl) ?_
          refine OW.val rfl rfl (by first | exact EX.indexAddrS0 Tryz.underlying81 ti9 rfl rfl (by omega) | exact EX.indexAddrS1 Tryz.underlying81 ti9 rfl rfl (by omega)) ?_
          refine OW.val rfl rfl (EX.load Tryz.underlying9 rfl rfl (hci)) ?_
          refine OW.val rfl rfl (EX.eqlS (r := [46]) rfl rfl) ?_
          refine OW.val rfl rfl (EX.pickF rfl rfl) ?_
          refine OW.nil ?_
          refine KW.condD rfl (fun h2 => ?_) (fun h2 => ?_)
          · have hk : kept ((parts s).take (i + 1)) = kept ((parts s).take i) := by rw [kept_take hlt, if_neg (by simp [keepB, h2])]
            refine KW.as 32 (.bool true) rfl (congrArg Value.bool (decide_eq_true (h2))) ?_
            refine KW.exit rfl (KW.region ?_)
            refine OW.val rfl rfl (EX.move rfl) ?_
            refine OW.val rfl rfl (by first | exact EX.addN (b := 1) (m := 9223372036854775807) rfl rfl rfl (by omega) | exact EX.addZ (m := 9223372036854775807) rfl rfl rfl rfl (by omega)) ?_
            refine OW.val rfl rfl (EX.assign rfl) ?_
            refine OW.nil ?_
            refine KW.back2 (i + 1) (q) ⟨rfl, rfl, rfl, rfl, trivial⟩ rfl ?_ (by omega)
            exact ⟨by omega, hdd', by rw [hk]; exact hq⟩
          · have hk : kept ((parts s).take (i + 1)) = kept ((parts s).take i) ++ [(parts s)[i]] := by rw [kept_take hlt, if_pos (by simp [keepB, h1, h2])]
            have hql : q.length ≤ s.length + 1 := by rw [hq]; exact hjl
            refine KW.as 32 (.bool false) rfl (congrArg Value.bool (decide_eq_false (h2))) ?_
            refine KW.skip (KW.seq (KW.seq (KW.region ?_)))
            refine OW.val rfl rfl (EX.move rfl) ?_
            refine OW.val rfl rfl (EX.neqS (r := []) rfl rfl) ?_
            refine OW.nil ?_
            refine KW.condD rfl (fun h3 => ?_) (fun h3 => ?_)
            · have hne : kept ((parts s).take i) ≠ [] := fun e => h3 (by rw [hq, e]; rfl)
              refine KW.region ?_
              refine OW.val rfl rfl (EX.move rfl) ?_
              refine OW.val rfl rfl (EX.addS (r := [47]) rfl rfl (by first | omega | (simp only [List.length_append, List.length_cons, List.length_nil, List.length_take, List.length_drop, List.length_replicate]; omega))) ?_
              refine OW.val rfl rfl (EX.assign rfl) ?_
              refine OW.nil ?_
              refine KW.region ?_
              refine OW.val rfl rfl (EX.move rfl) ?_
              refine OW.val rfl rfl (EX.move rfl) ?_
              refine OW.val rfl rfl (EX.move rfl) ?_
              refine OW.val rfl rfl (by first | exact EX.indexAddrS0 Tryz.underlying81 ti9 rfl rfl (by omega) | exact EX.indexAddrS1 Tryz.underlying81 ti9 rfl rfl (by omega)) ?_
              refine OW.val rfl rfl (EX.load Tryz.underlying9 rfl rfl (hci)) ?_
              refine OW.val rfl rfl (EX.addS rfl rfl (by first | omega | (simp only [List.length_append, List.length_cons, List.length_nil, List.length_take, List.length_drop, List.length_replicate]; omega))) ?_
              refine OW.val rfl rfl (EX.assign rfl) ?_
              refine OW.nil ?_
              refine KW.leave (KW.region ?_)
              refine OW.val rfl rfl (EX.move rfl) ?_
              refine OW.val rfl rfl (by first | exact EX.addN (b := 1) (m := 9223372036854775807) rfl rfl rfl (by omega) | exact EX.addZ (m := 9223372036854775807) rfl rfl rfl rfl (by omega)) ?_
              refine OW.val rfl rfl (EX.assign rfl) ?_
              refine OW.nil ?_
              refine KW.back2 (i + 1) (q ++ [47] ++ (parts s)[i]) ⟨rfl, rfl, rfl, rfl, trivial⟩ rfl ?_ (by omega)
              exact ⟨by omega, hdd', by rw [hk, joinS_snoc _ _ hne, hq, List.append_assoc]; rfl⟩
            · have hke : kept ((parts s).take i) = [] := by
                refine (joinS_nil (kept_ne _)).1 ?_
                rw [← hq]
                simpa using h3
              refine KW.skip (KW.region ?_)
              refine OW.val rfl rfl (EX.move rfl) ?_
              refine OW.val rfl rfl (EX.move rfl) ?_
              refine OW.val rfl rfl (EX.move rfl) ?_
              refine OW.val rfl rfl (by first | exact EX.indexAddrS0 Tryz.underlying81 ti9 rfl rfl (by omega) | exact EX.indexAddrS1 Tryz.underlying81 ti9 rfl rfl (by omega)) ?_
              refine OW.val rfl rfl (EX.load Tryz.underlying9 rfl rfl (hci)) ?_
              refine OW.val rfl rfl (EX.addS rfl rfl (by first | omega | (simp only [List.length_append, List.length_cons, List.length_nil, List.length_take, List.length_drop, List.length_replicate]; omega))) ?_
              refine OW.val rfl rfl (EX.assign rfl) ?_
              refine OW.nil ?_
              refine KW.leave (KW.region ?_)
              refine OW.val rfl rfl (EX.move rfl) ?_
              refine OW.val rfl rfl (by first | exact EX.addN (b := 1) (m := 9223372036854775807) rfl rfl rfl (by omega) | exact EX.addZ (m := 9223372036854775807) rfl rfl rfl rfl (by omega)) ?_
              refine OW.val rfl rfl (EX.assign rfl) ?_
              refine OW.nil ?_
              refine KW.back2 (i + 1) (q ++ (parts s)[i]) ⟨rfl, rfl, rfl, rfl, trivial⟩ rfl ?_ (by omega)
              exact ⟨by omega, hdd', by rw [hk, hq, hke]; rfl⟩
    · obtain rfl : i = (parts s).length := by omega
      rw [List.take_length] at hdd hq
      have hjl := joinS_wtk s (parts s).length
      rw [List.take_length] at hjl
      refine KW.exit rfl (KW.seq (KW.seq (KW.region ?_)))
      refine OW.val rfl rfl (EX.assign rfl) ?_
      refine OW.nil ?_
      refine KW.block ?_
      refine KW.loop1 (fun (i : Nat) => i ≤ s.length ∧ ∀ c ∈ s.take i, 32 ≤ c.toNat ∧ c.toNat ≤ 126) (fun (i : Nat) => [(0, str (s)), (4, str (q)), (7, .int .i64 ((i : Nat) : Int))]) (fun (i : Nat) => w1) (fun (i : Nat) => s.length - i) (0) ⟨rfl, rfl, rfl, trivial⟩ rfl ?_ ?_
      · exact ⟨by omega, by simp⟩
      · rintro i ⟨hi, hok⟩
        refine KW.seq (KW.seq (KW.region ?_))
        refine OW.val rfl rfl (EX.move rfl) ?_
        refine OW.val rfl rfl (EX.move rfl) ?_
        refine OW.val rfl rfl (EX.lenS Tryz.underlying9 rfl) ?_
        refine OW.val rfl rfl (by first | exact EX.lssN rfl rfl | exact EX.lssZ rfl rfl) ?_
        refine OW.nil ?_
        refine KW.condD rfl (fun hlt => ?_) (fun hlt => ?_)
        · have hbad : ¬ (32 ≤ s[i].toNat ∧ s[i].toNat ≤ 126) → cleanP s = ([], 140) := fun h => by
            unfold cleanP
            rw [if_neg]
            rintro ⟨h1, _⟩
            exact h (h1 _ (List.getElem_mem hlt))
          refine KW.skip (KW.seq (KW.block (KW.seq ?_)))
          refine KW.region ?_
          refine OW.val rfl rfl (EX.move rfl) ?_
          refine OW.val rfl rfl (EX.move rfl) ?_
          refine OW.val rfl rfl (EX.indexS Tryz.underlying9 rfl rfl (List.getElem?_eq_getElem (by omega))) ?_
          refine OW.val rfl rfl (by first | exact EX.lssN (b := 32) rfl rfl | exact EX.lssZ rfl rfl) ?_
          refine OW.val rfl rfl (EX.move rfl) ?_
          refine OW.splitD 53 rfl (fun h1 => ?_) (fun h1 => ?_)
          · refine OW.pass rfl rfl ?_
            refine OW.pass rfl rfl ?_
            refine OW.pass rfl rfl ?_
            refine OW.pass rfl rfl ?_
            refine OW.val rfl rfl (EX.pickT rfl rfl) ?_
            refine OW.nil ?_
            refine KW.condT rfl (KW.seq (KW.region ?_))
            refine OW.val rfl rfl (EX.assign rfl) ?_
            refine OW.val rfl rfl (EX.assign rfl) ?_
            refine OW.nil ?_
            refine KW.ret (ret2 rfl rfl rfl ?_)
            rw [hbad (by omega)]
            exact ⟨rfl, hx⟩
          · refine OW.val rfl rfl (EX.move rfl) ?_
            refine OW.val rfl rfl (EX.move rfl) ?_
            refine OW.val rfl rfl (EX.indexS Tryz.underlying9 rfl rfl (List.getElem?_eq_getElem (by omega))) ?_
            refine OW.val rfl rfl (by first | exact EX.gtrN (b := 126) rfl rfl | exact EX.gtrZ rfl rfl) ?_
            refine OW.val rfl rfl (EX.pickF rfl rfl) ?_
            refine OW.nil ?_
            refine KW.condD rfl (fun h2 => ?_) (fun h2 => ?_)
            · refine KW.seq (KW.region ?_)
              refine OW.val rfl rfl (EX.assign rfl) ?_
              refine OW.val rfl rfl (EX.assign rfl) ?_
              refine OW.nil ?_
              refine KW.ret (ret2 rfl rfl rfl ?_)
              rw [hbad (by omega)]
              exact ⟨rfl, hx⟩
            · refine KW.skip (KW.leave (KW.region ?_))
              refine OW.val rfl rfl (EX.move rfl) ?_
              refine OW.val rfl rfl (by first | exact EX.addN (b := 1) (m := 9223372036854775807) rfl rfl rfl (by omega) | exact EX.addZ (m := 9223372036854775807) rfl rfl rfl rfl (by omega)) ?_
              refine OW.val rfl rfl (EX.assign rfl) ?_
              refine OW.nil ?_
              refine KW.back1 (i + 1) ⟨rfl, rfl, rfl, trivial⟩ rfl ?_ (by omega)
              refine ⟨by omega, fun c hc => ?_⟩
              rw [List.take_add_one, List.getElem?_eq_getElem hlt] at hc
              rcases List.mem_append.1 hc with hc | hc
              · exact hok c hc
              · simp only [Option.toList_some, List.mem_singleton] at hc
                subst hc
                omega
        · have hfit : fits s := by
            rw [List.take_of_length_le (by omega)] at hok
            exact hok
          refine KW.exit rfl (KW.seq (KW.seq ?_))
          refine KW.region ?_
          refine OW.val rfl rfl (EX.move rfl) ?_
          refine OW.val rfl rfl (EX.eqlS (r := []) rfl rfl) ?_
          refine OW.val rfl rfl (EX.move rfl) ?_
          refine OW.splitD 61 rfl (fun j1 => ?_) (fun j1 => ?_)
          · have e : cleanP s = ([], 140) := by unfold cleanP; rw [if_neg (fun r => r.2.2.1 (by rw [← hq]; exact j1))]
            refine OW.pass rfl rfl ?_
            refine OW.pass rfl rfl ?_
            refine OW.pass rfl rfl ?_
            refine OW.val rfl rfl (EX.pickT rfl rfl) ?_
            refine OW.nil ?_
            refine KW.condT rfl (KW.seq (KW.region ?_))
            refine OW.val rfl rfl (EX.assign rfl) ?_
            refine OW.val rfl rfl (EX.assign rfl) ?_
            refine OW.nil ?_
            refine KW.ret (ret2 rfl rfl rfl ?_)
            rw [e]
            exact ⟨rfl, hx⟩
          · have hql : q.length ≤ s.length + 1 := by rw [hq]; exact hjl
            refine OW.val rfl rfl (EX.move rfl) ?_
            refine OW.val rfl rfl (EX.lenS Tryz.underlying9 rfl) ?_
            refine OW.val rfl rfl (by first | exact EX.gtrN (b := 120) rfl rfl | exact EX.gtrZ rfl rfl) ?_
            refine OW.val rfl rfl (EX.pickF rfl rfl) ?_
            refine OW.nil ?_
            refine KW.condD rfl (fun j2 => ?_) (fun j2 => ?_)
            · have e : cleanP s = ([], 140) := by unfold cleanP; rw [if_neg (fun r => by have := r.2.2.2; rw [← hq] at this; omega)]
              refine KW.seq (KW.region ?_)
              refine OW.val rfl rfl (EX.assign rfl) ?_
              refine OW.val rfl rfl (EX.assign rfl) ?_
              refine OW.nil ?_
              refine KW.ret (ret2 rfl rfl rfl ?_)
              rw [e]
              exact ⟨rfl, hx⟩
            · have e : cleanP s = (q, 0) := by unfold cleanP; rw [← hq, if_pos ⟨hfit, hdd, j1, by omega⟩]
              refine KW.skip (KW.seq (KW.region ?_))
              refine OW.val rfl rfl (EX.move rfl) ?_
              refine OW.val rfl rfl (EX.assign rfl) ?_
              refine OW.val rfl rfl (EX.assign rfl) ?_
              refine OW.nil ?_
              refine KW.ret (ret2 rfl rfl rfl ?_)
              rw [e]
              exact ⟨rfl, hx⟩
theorem rcheck_s (s : List UInt8) (hs : s.length ≤ 1000000000000) (w : World) : Ret Tryz.prog 24 [str s] w fun v w' => v = .int .i64 ((checkP s : Nat) : Int) ∧ Ext w w' := by
  refine Ret.enter Tryz.func24 rfl Tryz.ntmps24 (by kernel_rfl) rfl ?_
  refine KW.seq (KW.region ?_)
  refine OW.val rfl rfl (EX.assign rfl) ?_
  refine OW.nil ?_
  refine KW.seq (KW.region ?_)
  refine OW.val rfl rfl (EX.move rfl) ?_
  refine OW.call rfl rfl rfl (rclean_s s hs w) ?_
  rintro _ w1 ⟨rfl, hx⟩
  refine OW.val rfl rfl (EX.move rfl) ?_
  refine OW.val rfl rfl (EX.extract rfl rfl) ?_
  refine OW.val rfl rfl (EX.extract rfl rfl) ?_
  refine OW.val rfl rfl (EX.assign rfl) ?_
  refine OW.val rfl rfl (EX.assign rfl) ?_
  refine OW.nil ?_
  refine KW.seq (KW.seq ?_)
  rcases hc : cleanP s with ⟨q, e⟩
  refine KW.region ?_
  refine OW.val rfl rfl (EX.move rfl) ?_
  refine OW.val rfl rfl (by first | exact EX.neqN (b := 0) rfl rfl | exact EX.neqZ rfl rfl) ?_
  refine OW.val rfl rfl (EX.move rfl) ?_
  refine OW.splitD 12 rfl (fun h1 => ?_) (fun h1 => ?_)
  · have h : checkP s = 140 := by unfold checkP; rw [hc, if_neg (by simp only [Prod.mk.injEq]; omega)]
    refine OW.pass rfl rfl ?_
    refine OW.pass rfl rfl ?_
    refine OW.pass rfl rfl ?_
    refine OW.val rfl rfl (EX.pickT rfl rfl) ?_
    refine OW.nil ?_
    refine KW.condT rfl (KW.seq (KW.region ?_))
    refine OW.val rfl rfl (EX.assign rfl) ?_
    refine OW.nil ?_
    refine KW.ret (ret1 rfl rfl ?_)
    rw [h]
    exact ⟨rfl, hx⟩
  · refine OW.val rfl rfl (EX.move rfl) ?_
    refine OW.val rfl rfl (EX.move rfl) ?_
    refine OW.val rfl rfl (EX.neqS rfl rfl) ?_
    refine OW.val rfl rfl (EX.pickF rfl rfl) ?_
    refine OW.nil ?_
    refine KW.condD rfl (fun h2 => ?_) (fun h2 => ?_)
    · have h : checkP s = 140 := by unfold checkP; rw [hc, if_neg (by simp only [Prod.mk.injEq]; exact fun q => h2 q.1)]
      refine KW.seq (KW.region ?_)
      refine OW.val rfl rfl (EX.assign rfl) ?_
      refine OW.nil ?_
      refine KW.ret (ret1 rfl rfl ?_)
      rw [h]
      exact ⟨rfl, hx⟩
    · have h : checkP s = 0 := by unfold checkP; rw [hc, if_pos (by simp only [Prod.mk.injEq]; exact ⟨by simpa using h2, by omega⟩)]
      refine KW.skip (KW.seq (KW.region ?_))
      refine OW.val rfl rfl (EX.assign rfl) ?_
      refine OW.nil ?_
      refine KW.ret (ret1 rfl rfl ?_)
      rw [h]
      exact ⟨rfl, hx⟩
end Go.Proofs.YtjgeoeeikfjmdaaGreatDoor
