/-
  ustar: headers are laid, by the document.
-/
import Derived.Test.YtaoieiiggbpjeaaUstC
namespace Go.Proofs.Ytaoieiiggbpjeaa
open Go.RowKit Fld Ust
set_option linter.unusedVariables false
set_option linter.unusedSimpArgs false

theorem RetQ.of {P : Program} {f : FuncId} {args : List Value} {w : World} {v : Value} (h : Ret P f args w fun v' w' => v' = v ∧ w = w') : RetQ P f args w v :=
  h.mono fun _ _ ⟨h1, h2⟩ => ⟨h1, 0, by subst h2; rfl⟩
theorem rlaid_s (s : List UInt8) (hs : s.length ≤ 140737488355328) (n : Nat) (hn : n ≤ 512) (h : mayT s n) (w : World) :
    Ret Try.prog 26 [str s, .int .i64 ((n : Nat) : Int)] w fun v w' => v = str (lay s n) ∧ w = w' := by
  have c := refText_s s hs (n : Int) (by omega) (by omega) w
  have h1 := h.1
  rw [text_yes (by omega) (by rw [not_or, Classical.not_not]; exact ⟨by omega, cut_none h.2⟩)] at c
  refine Ret.enter Try.func26 rfl Try.ntmps26 (by kernel_rfl) rfl ?_
  refine KW.seq (KW.region ?_)
  refine OW.val rfl rfl (EX.assign rfl) ?_
  refine OW.nil ?_
  refine KW.seq (KW.region ?_)
  refine OW.val rfl rfl (EX.move rfl) ?_
  refine OW.val rfl rfl (EX.move rfl) ?_
  refine OW.call rfl rfl rfl (c) ?_
  rintro _ _ ⟨rfl, rfl⟩
  refine OW.val rfl rfl (EX.move rfl) ?_
  refine OW.val rfl rfl (EX.extract rfl rfl) ?_
  refine OW.val rfl rfl (EX.extract rfl rfl) ?_
  refine OW.val rfl rfl (EX.assign rfl) ?_
  refine OW.val rfl rfl (EX.assign rfl) ?_
  refine OW.nil ?_
  refine KW.seq (KW.region ?_)
  refine OW.val rfl rfl (EX.move rfl) ?_
  refine OW.val rfl rfl (EX.assign rfl) ?_
  refine OW.nil ?_
  refine KW.ret (ret1 rfl rfl ?_)
  exact ⟨rfl, rfl⟩
theorem rnumber_s (n : Int) (k : Nat) (hk : 1 ≤ k) (hk2 : k ≤ 19) (m : Int) (h : mayN n m) (hm : m < ((8 ^ k : Nat) : Int)) (w : World) :
    Ret Try.prog 27 [.int .i64 n, .int .i64 ((k + 1 : Nat) : Int)] w fun v w' => v = str (oc n k) ∧ w = w' := by
  have h63 : m ≤ 9223372036854775807 := by
    have : (8 ^ k : Nat) ≤ 8 ^ 19 := Nat.pow_le_pow_right (by decide) hk2
    have h2 : (8 : Nat) ^ 20 = 1152921504606846976 := by decide
    have h3 : (8 ^ 19 : Nat) ≤ 1152921504606846976 := by decide
    omega
  have c := refOctal_s n (by have := h.1; omega) (by have := h.2; omega) ((k + 1 : Nat) : Int) (by omega) (by omega) w
  rw [octal_may hk hk2 h hm] at c
  refine Ret.enter Try.func27 rfl Try.ntmps27 (by kernel_rfl) rfl ?_
  refine KW.seq (KW.region ?_)
  refine OW.val rfl rfl (EX.assign rfl) ?_
  refine OW.nil ?_
  refine KW.seq (KW.region ?_)
  refine OW.val rfl rfl (EX.move rfl) ?_
  refine OW.val rfl rfl (EX.move rfl) ?_
  refine OW.call rfl rfl rfl (c) ?_
  rintro _ _ ⟨rfl, rfl⟩
  refine OW.val rfl rfl (EX.move rfl) ?_
  refine OW.val rfl rfl (EX.extract rfl rfl) ?_
  refine OW.val rfl rfl (EX.extract rfl rfl) ?_
  refine OW.val rfl rfl (EX.assign rfl) ?_
  refine OW.val rfl rfl (EX.assign rfl) ?_
  refine OW.nil ?_
  refine KW.seq (KW.region ?_)
  refine OW.val rfl rfl (EX.move rfl) ?_
  refine OW.val rfl rfl (EX.assign rfl) ?_
  refine OW.nil ?_
  refine KW.ret (ret1 rfl rfl ?_)
  exact ⟨rfl, rfl⟩
/-- what the document asks of a head -/
def MayR (h : Hd) : Prop := May h ∧ h.path.length ≤ 1099511627776
instance (h : Hd) : Decidable (MayR h) := by unfold MayR; infer_instance
def txts (h : Hd) : List (List UInt8) := [h.path, h.link, h.n0, h.n1]
def mosts : List Nat := [1099511627776, 100, 31, 31]
def smalls (h : Hd) : List Int := [h.mode, h.i0, h.i1]
theorem mayR_of {h : Hd} (hk : mayK h.kind) (ht : ∀ j, j < 4 → ∀ t m, (txts h)[j]? = some t → mosts[j]? = some m → mayT t m) (hs : ∀ j, j < 3 → ∀ n, (smalls h)[j]? = some n → mayN n 2097151) (h1 : mayN h.size 8589934591) (h2 : mayN h.time 8589934591) : MayR h :=
  ⟨⟨hk, (ht 0 (by decide) _ _ rfl rfl).2, ht 1 (by decide) _ _ rfl rfl, ht 2 (by decide) _ _ rfl rfl, ht 3 (by decide) _ _ rfl rfl, hs 0 (by decide) _ rfl, hs 1 (by decide) _ rfl, hs 2 (by decide) _ rfl, h1, h2⟩, (ht 0 (by decide) _ _ rfl rfl).1⟩
theorem mayR_txt {h : Hd} (hm : MayR h) : ∀ j, j < 4 → ∀ t m, (txts h)[j]? = some t → mosts[j]? = some m → mayT t m := by
  intro j hj t m ht hm'
  have : j = 0 ∨ j = 1 ∨ j = 2 ∨ j = 3 := by omega
  rcases this with rfl | rfl | rfl | rfl <;> cases ht <;> cases hm'
  · exact ⟨hm.2, hm.1.path⟩
  · exact hm.1.link
  · exact hm.1.n0
  · exact hm.1.n1
theorem mayR_small {h : Hd} (hm : MayR h) : ∀ j, j < 3 → ∀ n, (smalls h)[j]? = some n → mayN n 2097151 := by
  intro j hj n hn
  have : j = 0 ∨ j = 1 ∨ j = 2 := by omega
  rcases this with rfl | rfl | rfl <;> cases hn
  · exact hm.1.mode
  · exact hm.1.i0
  · exact hm.1.i1
set_option maxRecDepth 20000 in
theorem rmay_s (h : Hd) (ho : h.Ok) (w : World) : Ret Try.prog 25 [.agg h.cells.toArray] w fun v w' => v = .bool (decide (MayR h)) ∧ Ext w w' := by
  have hk := ho.kind
  have o1 := ho.path
  have o2 := ho.link
  have o3 := ho.n0
  have o4 := ho.n1
  have q1 := ho.size
  have q2 := ho.mode
  have q3 := ho.time
  have q4 := ho.i0
  have q5 := ho.i1
  unfold I64 at q1 q2 q3 q4 q5
  have hlen : ∀ t ∈ txts h, t.length ≤ 140737488351232 := by
    intro t ht
    simp only [txts, List.mem_cons, List.not_mem_nil, or_false] at ht
    rcases ht with rfl | rfl | rfl | rfl <;> assumption
  have hsml : ∀ n ∈ smalls h, -9223372036854775808 ≤ n ∧ n ≤ 9223372036854775807 := by
    intro n hn
    simp only [smalls, List.mem_cons, List.not_mem_nil, or_false] at hn
    rcases hn with rfl | rfl | rfl <;> assumption
  have hml : ∀ m ∈ mosts, m ≤ 1099511627776 := by decide
  have no : ¬ MayR h → ∀ w', Ext w w' → (Value.bool false = .bool (decide (MayR h)) ∧ Ext w w') := fun hn w' hx => ⟨congrArg Value.bool (decide_eq_false hn).symm, hx⟩
  refine Ret.enter Try.func25 rfl Try.ntmps25 (by kernel_rfl) rfl ?_
  refine KW.seq (KW.region ?_)
  refine OW.boxS rfl rfl rfl ?_
  rintro hb w0 hge0 hb0 hx0
  refine OW.val rfl rfl (EX.assign rfl) ?_
  refine OW.nil ?_
  refine KW.seq (KW.seq ?_)
  replace hb0 : Bk w0 hb 25 h.cells := hb0
  refine KW.cutd1 (fun (_u : Unit) => mayK h.kind) (fun (_u : Unit) => [(1, .pointer (some ⟨hb, 0, none⟩))]) (fun (_u : Unit) => w0) ?_ ?_
  · refine KW.region ?_
    refine OW.val rfl rfl (EX.fieldAddr (off := 2) Try.underlying25 rfl rfl ti5 rfl rfl) ?_
    refine OW.val rfl rfl (EX.load Try.underlying5 rfl rfl (hb0.cell_of rfl)) ?_
    refine OW.val rfl rfl (by first | exact EX.neqN (b := 48) rfl rfl | exact EX.neqZ rfl rfl) ?_
    refine OW.val rfl rfl (EX.move rfl) ?_
    refine OW.splitD 11 rfl (fun k1 => ?_) (fun k1 => ?_)
    · refine OW.val rfl rfl (EX.fieldAddr (off := 2) Try.underlying25 rfl rfl ti5 rfl rfl) ?_
      refine OW.val rfl rfl (EX.load Try.underlying5 rfl rfl (hb0.cell_of rfl)) ?_
      refine OW.val rfl rfl (by first | exact EX.neqN (b := 53) rfl rfl | exact EX.neqZ rfl rfl) ?_
      refine OW.val rfl rfl (EX.pickT rfl rfl) ?_
      refine OW.val rfl rfl (EX.move rfl) ?_
      refine OW.splitD 16 rfl (fun k2 => ?_) (fun k2 => ?_)
      · refine OW.val rfl rfl (EX.fieldAddr (off := 2) Try.underlying25 rfl rfl ti5 rfl rfl) ?_
        refine OW.val rfl rfl (EX.load Try.underlying5 rfl rfl (hb0.cell_of rfl)) ?_
        refine OW.val rfl rfl (by first | exact EX.neqN (b := 120) rfl rfl | exact EX.neqZ rfl rfl) ?_
        refine OW.val rfl rfl (EX.pickT rfl rfl) ?_
        refine OW.val rfl rfl (EX.move rfl) ?_
        refine OW.splitD 21 rfl (fun k3 => ?_) (fun k3 => ?_)
        · refine OW.val rfl rfl (EX.fieldAddr (off := 2) Try.underlying25 rfl rfl ti5 rfl rfl) ?_
          refine OW.val rfl rfl (EX.load Try.underlying5 rfl rfl (hb0.cell_of rfl)) ?_
          refine OW.val rfl rfl (by first | exact EX.neqN (b := 103) rfl rfl | exact EX.neqZ rfl rfl) ?_
          refine OW.val rfl rfl (EX.pickT rfl rfl) ?_
          refine OW.nil ?_
          refine KW.condD rfl (fun k4 => ?_) (fun k4 => ?_)
          · refine KW.seq (KW.region ?_)
            refine OW.val rfl rfl (EX.assign rfl) ?_
            refine OW.nil ?_
            refine KW.ret (ret1 rfl rfl ?_)
            exact no (fun hm => by have := hm.1.kind; unfold mayK at this; omega) _ hx0
          · refine KW.skip ?_
            refine KW.meet1 (()) ⟨rfl, trivial⟩ rfl ?_
            unfold mayK; omega
        · refine OW.pass rfl rfl ?_
          refine OW.pass rfl rfl ?_
          refine OW.pass rfl rfl ?_
          refine OW.val rfl rfl (EX.pickF rfl rfl) ?_
          refine OW.nil ?_
          refine KW.condF rfl (KW.skip ?_)
          refine KW.meet1 (()) ⟨rfl, trivial⟩ rfl ?_
          unfold mayK; omega
      · refine OW.pass rfl rfl ?_
        refine OW.pass rfl rfl ?_
        refine OW.pass rfl rfl ?_
        refine OW.val rfl rfl (EX.pickF rfl rfl) ?_
        refine OW.val rfl rfl (EX.move rfl) ?_
        refine OW.pass rfl rfl ?_
        refine OW.pass rfl rfl ?_
        refine OW.pass rfl rfl ?_
        refine OW.val rfl rfl (EX.pickF rfl rfl) ?_
        refine OW.nil ?_
        refine KW.condF rfl (KW.skip ?_)
        refine KW.meet1 (()) ⟨rfl, trivial⟩ rfl ?_
        unfold mayK; omega
    · refine OW.pass rfl rfl ?_
      refine OW.pass rfl rfl ?_
      refine OW.pass rfl rfl ?_
      refine OW.val rfl rfl (EX.pickF rfl rfl) ?_
      refine OW.val rfl rfl (EX.move rfl) ?_
      refine OW.pass rfl rfl ?_
      refine OW.pass rfl rfl ?_
      refine OW.pass rfl rfl ?_
      refine OW.val rfl rfl (EX.pickF rfl rfl) ?_
      refine OW.val rfl rfl (EX.move rfl) ?_
      refine OW.pass rfl rfl ?_
      refine OW.pass rfl rfl ?_
      refine OW.pass rfl rfl ?_
      refine OW.val rfl rfl (EX.pickF rfl rfl) ?_
      refine OW.nil ?_
      refine KW.condF rfl (KW.skip ?_)
      refine KW.meet1 (()) ⟨rfl, trivial⟩ rfl ?_
      unfold mayK; omega
  · rintro _ hkind
    refine KW.seq (KW.region ?_)
    refine OW.val rfl rfl (EX.fieldAddr (off := 0) Try.underlying25 rfl rfl ti9 rfl rfl) ?_
    refine OW.val rfl rfl (EX.load Try.underlying9 rfl rfl (hb0.cell_of rfl)) ?_
    refine OW.val rfl rfl (EX.fieldAddr (off := 5) Try.underlying25 rfl rfl ti9 rfl rfl) ?_
    refine OW.val rfl rfl (EX.load Try.underlying9 rfl rfl (hb0.cell_of rfl)) ?_
    refine OW.val rfl rfl (EX.fieldAddr (off := 6) Try.underlying25 rfl rfl ti22 rfl rfl) ?_
    refine OW.val rfl rfl (by first | exact EX.indexAddrA0 (i := 0) Try.underlying22 ti9 rfl rfl (by omega) | exact EX.indexAddrA1 (i := 0) Try.underlying22 ti9 rfl rfl (by omega)) ?_
    refine OW.val rfl rfl (EX.load Try.underlying9 rfl rfl (hb0.cell_of rfl)) ?_
    refine OW.val rfl rfl (EX.fieldAddr (off := 6) Try.underlying25 rfl rfl ti22 rfl rfl) ?_
    refine OW.val rfl rfl (by first | exact EX.indexAddrA0 (i := 1) Try.underlying22 ti9 rfl rfl (by omega) | exact EX.indexAddrA1 (i := 1) Try.underlying22 ti9 rfl rfl (by omega)) ?_
    refine OW.val rfl rfl (EX.load Try.underlying9 rfl rfl (hb0.cell_of rfl)) ?_
    refine OW.buildB 4 rfl rfl Try.underlying77 ti9 rfl rfl rfl rfl (by first | rfl | (simp only [List.all_cons, List.all_nil, Bool.and_true, Bool.and_eq_true]; assumption)) (by decide) ?_
    rintro tb w1 hge1 ht1 hx1
    refine OW.val rfl rfl (EX.assign rfl) ?_
    refine OW.nil ?_
    refine KW.seq (KW.region ?_)
    refine OW.buildB 4 rfl rfl Try.underlying64 ti3 rfl rfl rfl rfl (by first | rfl | (simp only [List.all_cons, List.all_nil, Bool.and_true, Bool.and_eq_true]; assumption)) (by decide) ?_
    rintro mb w2 hge2 hm2 hx2
    refine OW.val rfl rfl (EX.assign rfl) ?_
    refine OW.nil ?_
    refine KW.seq (KW.seq (KW.region ?_))
    refine OW.val rfl rfl (EX.assign rfl) ?_
    refine OW.nil ?_
    have hb2 := (hb0.ext hx1).ext hx2
    have ht2 : Bk w2 tb 9 ((txts h).map str) := ht1.ext hx2
    replace hm2 : Bk w2 mb 3 (mosts.map fun (x : Nat) => Value.int .i64 (x : Int)) := hm2
    have x2 := (hx0.trans hx1).trans hx2
    refine KW.cut1 (fun (wr : World) => (∀ j, j < 4 → ∀ t m, (txts h)[j]? = some t → mosts[j]? = some m → mayT t m) ∧ Ext w2 wr) (fun (wr : World) => [(1, .pointer (some ⟨hb, 0, none⟩))]) (fun (wr : World) => wr) ?_ ?_
    · refine KW.block ?_
      refine KW.loop2 (fun (i : Nat) (wr : World) => i ≤ 4 ∧ (∀ j, j < i → ∀ t m, (txts h)[j]? = some t → mosts[j]? = some m → mayT t m) ∧ Ext w2 wr) (fun (i : Nat) (wr : World) => [(1, .pointer (some ⟨hb, 0, none⟩)), (3, .slice (some ⟨tb, 0, none⟩) 4 4), (4, .slice (some ⟨mb, 0, none⟩) 4 4), (5, .int .i64 ((i : Nat) : Int))]) (fun (i : Nat) (wr : World) => wr) (fun (i : Nat) (wr : World) => 4 - i) (0) (w2) ⟨rfl, rfl, rfl, rfl, trivial⟩ rfl ?_ ?_
      · exact ⟨by omega, fun j hj => by omega, Ext.refl _⟩
      · rintro i wr ⟨hi, hj, hx⟩
        refine KW.seq (KW.seq (KW.region ?_))
        refine OW.val rfl rfl (EX.move rfl) ?_
        refine OW.val rfl rfl (by first | exact EX.lssN (b := 4) rfl rfl | exact EX.lssZ rfl rfl) ?_
        refine OW.nil ?_
        refine KW.condD rfl (fun hlt => ?_) (fun hlt => ?_)
        · have ht3 := ht2.ext hx
          have hm3 := hm2.ext hx
          obtain ⟨t, et⟩ : ∃ t, (txts h)[i]? = some t := ⟨_, List.getElem?_eq_getElem (by simpa [txts] using hlt)⟩
          obtain ⟨m, em⟩ : ∃ m, mosts[i]? = some m := ⟨_, List.getElem?_eq_getElem (by simpa [mosts] using hlt)⟩
          have ct : ((txts h).map str)[i]? = some (str t) := by rw [List.getElem?_map, et]; rfl
          have cm : (mosts.map fun (x : Nat) => Value.int .i64 (x : Int))[i]? = some (.int .i64 (m : Int)) := by rw [List.getElem?_map, em]; rfl
          have lt := hlen t (List.mem_of_getElem? et)
          have lm := hml m (List.mem_of_getElem? em)
          refine KW.skip (KW.seq (KW.block (KW.seq ?_)))
          refine KW.regionQ (by kernel_rfl) (by kernel_rfl) ?_
          refine QW.val rfl rfl (fun _ => EX.move rfl) ?_
          refine QW.val rfl rfl (fun _ => EX.move rfl) ?_
          refine QW.val rfl rfl (fun _ => by first | exact EX.indexAddrS0 Try.underlying77 ti9 rfl rfl (by omega) | exact EX.indexAddrS1 Try.underlying77 ti9 rfl rfl (by omega)) ?_
          refine QW.val rfl rfl (fun _ => EX.load Try.underlying9 rfl rfl (ht3.cell_of ct)) ?_
          refine QW.val rfl rfl (fun _ => EX.lenS Try.underlying9 rfl) ?_
          refine QW.val rfl rfl (fun _ => EX.move rfl) ?_
          refine QW.val rfl rfl (fun _ => EX.move rfl) ?_
          refine QW.val rfl rfl (fun _ => by first | exact EX.indexAddrS0 Try.underlying64 ti3 rfl rfl (by omega) | exact EX.indexAddrS1 Try.underlying64 ti3 rfl rfl (by omega)) ?_
          refine QW.val rfl rfl (fun _ => EX.load Try.underlying3 rfl rfl (hm3.cell_of cm)) ?_
          refine QW.val rfl rfl (fun _ => by first | exact EX.gtrN rfl rfl | exact EX.gtrZ rfl rfl) ?_
          refine QW.val rfl rfl (fun _ => EX.move rfl) ?_
          refine QW.splitD 52 rfl (fun a1 => ?_) (fun a1 => ?_)
          · refine QW.pass rfl rfl ?_
            refine QW.pass rfl rfl ?_
            refine QW.pass rfl rfl ?_
            refine QW.pass rfl rfl ?_
            refine QW.pass rfl rfl ?_
            refine QW.pass rfl rfl ?_
            refine QW.pass rfl rfl ?_
            refine QW.pass rfl rfl ?_
            refine QW.pass rfl rfl ?_
            refine QW.pass rfl rfl ?_
            refine QW.val rfl rfl (fun _ => EX.pickT rfl rfl) ?_
            refine QW.nil (fun nq => ?_)
            refine KW.condT rfl (KW.seq (KW.region ?_))
            refine OW.val rfl rfl (EX.assign rfl) ?_
            refine OW.nil ?_
            refine KW.ret (ret1 rfl rfl ?_)
            exact no (fun hm => by have := (mayR_txt hm i hlt t m et em).1; omega) _ (x2.trans (hx.trans (Ext.drewN wr nq)))
          · refine QW.val rfl rfl (fun _ => EX.move rfl) ?_
            refine QW.val rfl rfl (fun _ => EX.move rfl) ?_
            refine QW.val rfl rfl (fun _ => by first | exact EX.indexAddrS0 Try.underlying77 ti9 rfl rfl (by omega) | exact EX.indexAddrS1 Try.underlying77 ti9 rfl rfl (by omega)) ?_
            refine QW.val rfl rfl (fun _ => EX.load Try.underlying9 rfl rfl (ht3.cell_of ct)) ?_
            refine QW.call rfl rfl rfl (fun _ => RetQ.of (refCut_s t (by omega) _)) ?_
            refine QW.val rfl rfl (fun _ => EX.move rfl) ?_
            refine QW.val rfl rfl (fun _ => EX.move rfl) ?_
            refine QW.val rfl rfl (fun _ => by first | exact EX.indexAddrS0 Try.underlying77 ti9 rfl rfl (by omega) | exact EX.indexAddrS1 Try.underlying77 ti9 rfl rfl (by omega)) ?_
            refine QW.val rfl rfl (fun _ => EX.load Try.underlying9 rfl rfl (ht3.cell_of ct)) ?_
            refine QW.val rfl rfl (fun _ => EX.neqS rfl rfl) ?_
            refine QW.val rfl rfl (fun _ => EX.pickF rfl rfl) ?_
            refine QW.nil (fun nq => ?_)
            refine KW.condD rfl (fun a2 => ?_) (fun a2 => ?_)
            · refine KW.seq (KW.region ?_)
              refine OW.val rfl rfl (EX.assign rfl) ?_
              refine OW.nil ?_
              refine KW.ret (ret1 rfl rfl ?_)
              exact no (fun hm => a2 ((cut_eq_iff t).2 (mayR_txt hm i hlt t m et em).2)) _ (x2.trans (hx.trans (Ext.drewN wr nq)))
            · refine KW.skip (KW.leave (KW.region ?_))
              refine OW.val rfl rfl (EX.move rfl) ?_
              refine OW.val rfl rfl (by first | exact EX.addN (b := 1) (m := 9223372036854775807) rfl rfl rfl (by omega) | exact EX.addZ (m := 9223372036854775807) rfl rfl rfl rfl (by omega)) ?_
              refine OW.val rfl rfl (EX.assign rfl) ?_
              refine OW.nil ?_
              refine KW.back2 (i + 1) (wr.drewN nq) ⟨rfl, rfl, rfl, rfl, trivial⟩ rfl ?_ (by omega)
              refine ⟨by omega, fun j hj2 t' m' et' em' => ?_, hx.trans (Ext.drewN wr nq)⟩
              by_cases e : j = i
              · subst e
                rw [et] at et'
                rw [em] at em'
                cases et'
                cases em'
                exact ⟨by omega, (cut_eq_iff t).1 (Classical.not_not.1 a2)⟩
              · exact hj j (by omega) t' m' et' em'
        · obtain rfl : i = 4 := by omega
          refine KW.exit rfl ?_
          refine KW.meet1 (wr) ⟨rfl, trivial⟩ rfl ?_
          exact ⟨hj, hx⟩
    · rintro wr ⟨htx, hxr⟩
      have hbr := hb2.ext hxr
      have xr := x2.trans hxr
      refine KW.seq (KW.region ?_)
      refine OW.val rfl rfl (EX.fieldAddr (off := 3) Try.underlying25 rfl rfl ti3 rfl rfl) ?_
      refine OW.val rfl rfl (EX.load Try.underlying3 rfl rfl (hbr.cell_of rfl)) ?_
      refine OW.val rfl rfl (EX.fieldAddr (off := 8) Try.underlying25 rfl rfl ti23 rfl rfl) ?_
      refine OW.val rfl rfl (by first | exact EX.indexAddrA0 (i := 0) Try.underlying23 ti3 rfl rfl (by omega) | exact EX.indexAddrA1 (i := 0) Try.underlying23 ti3 rfl rfl (by omega)) ?_
      refine OW.val rfl rfl (EX.load Try.underlying3 rfl rfl (hbr.cell_of rfl)) ?_
      refine OW.val rfl rfl (EX.fieldAddr (off := 8) Try.underlying25 rfl rfl ti23 rfl rfl) ?_
      refine OW.val rfl rfl (by first | exact EX.indexAddrA0 (i := 1) Try.underlying23 ti3 rfl rfl (by omega) | exact EX.indexAddrA1 (i := 1) Try.underlying23 ti3 rfl rfl (by omega)) ?_
      refine OW.val rfl rfl (EX.load Try.underlying3 rfl rfl (hbr.cell_of rfl)) ?_
      refine OW.buildB 3 rfl rfl Try.underlying64 ti3 rfl rfl rfl rfl (by first | rfl | (simp only [List.all_cons, List.all_nil, Bool.and_true, Bool.and_eq_true]; assumption)) (by decide) ?_
      rintro sb w3 hge3 hs3 hx3
      refine OW.val rfl rfl (EX.assign rfl) ?_
      refine OW.nil ?_
      refine KW.seq (KW.seq (KW.region ?_))
      refine OW.val rfl rfl (EX.assign rfl) ?_
      refine OW.nil ?_
      replace hs3 : Bk w3 sb 3 ((smalls h).map fun (x : Int) => Value.int .i64 x) := hs3
      have hb3 := hbr.ext hx3
      have x3 := xr.trans hx3
      refine KW.cut1 (fun (_u : Unit) => (∀ j, j < 3 → ∀ n, (smalls h)[j]? = some n → mayN n 2097151)) (fun (_u : Unit) => [(1, .pointer (some ⟨hb, 0, none⟩))]) (fun (_u : Unit) => w3) ?_ ?_
      · refine KW.block ?_
        refine KW.loop1 (fun (i : Nat) => i ≤ 3 ∧ (∀ j, j < i → ∀ n, (smalls h)[j]? = some n → mayN n 2097151)) (fun (i : Nat) => [(1, .pointer (some ⟨hb, 0, none⟩)), (6, .slice (some ⟨sb, 0, none⟩) 3 3), (7, .int .i64 ((i : Nat) : Int))]) (fun (i : Nat) => w3) (fun (i : Nat) => 3 - i) (0) ⟨rfl, rfl, rfl, trivial⟩ rfl ?_ ?_
        · exact ⟨by omega, fun j hj => by omega⟩
        · rintro i ⟨hi, hj⟩
          refine KW.seq (KW.seq (KW.region ?_))
          refine OW.val rfl rfl (EX.move rfl) ?_
          refine OW.val rfl rfl (by first | exact EX.lssN (b := 3) rfl rfl | exact EX.lssZ rfl rfl) ?_
          refine OW.nil ?_
          refine KW.condD rfl (fun hlt => ?_) (fun hlt => ?_)
          · obtain ⟨n, en⟩ : ∃ n, (smalls h)[i]? = some n := ⟨_, List.getElem?_eq_getElem (by simpa [smalls] using hlt)⟩
            have cn : ((smalls h).map fun (x : Int) => Value.int .i64 x)[i]? = some (.int .i64 n) := by rw [List.getElem?_map, en]; rfl
            have hn := hsml n (List.mem_of_getElem? en)
            refine KW.skip (KW.seq (KW.block (KW.seq ?_)))
            refine KW.region ?_
            refine OW.val rfl rfl (EX.move rfl) ?_
            refine OW.val rfl rfl (EX.move rfl) ?_
            refine OW.val rfl rfl (by first | exact EX.indexAddrS0 Try.underlying64 ti3 rfl rfl (by omega) | exact EX.indexAddrS1 Try.underlying64 ti3 rfl rfl (by omega)) ?_
            refine OW.val rfl rfl (EX.load Try.underlying3 rfl rfl (hs3.cell_of cn)) ?_
            refine OW.val rfl rfl (by first | exact EX.lssN (b := 0) rfl rfl | exact EX.lssZ rfl rfl) ?_
            refine OW.val rfl rfl (EX.move rfl) ?_
            refine OW.splitD 82 rfl (fun a1 => ?_) (fun a1 => ?_)
            · refine OW.pass rfl rfl ?_
              refine OW.pass rfl rfl ?_
              refine OW.pass rfl rfl ?_
              refine OW.pass rfl rfl ?_
              refine OW.pass rfl rfl ?_
              refine OW.val rfl rfl (EX.pickT rfl rfl) ?_
              refine OW.nil ?_
              refine KW.condT rfl (KW.seq (KW.region ?_))
              refine OW.val rfl rfl (EX.assign rfl) ?_
              refine OW.nil ?_
              refine KW.ret (ret1 rfl rfl ?_)
              exact no (fun hm => by have := (mayR_small hm i hlt n en).1; omega) _ x3
            · refine OW.val rfl rfl (EX.move rfl) ?_
              refine OW.val rfl rfl (EX.move rfl) ?_
              refine OW.val rfl rfl (by first | exact EX.indexAddrS0 Try.underlying64 ti3 rfl rfl (by omega) | exact EX.indexAddrS1 Try.underlying64 ti3 rfl rfl (by omega)) ?_
              refine OW.val rfl rfl (EX.load Try.underlying3 rfl rfl (hs3.cell_of cn)) ?_
              refine OW.val rfl rfl (by first | exact EX.gtrN (b := 2097151) rfl rfl | exact EX.gtrZ rfl rfl) ?_
              refine OW.val rfl rfl (EX.pickF rfl rfl) ?_
              refine OW.nil ?_
              refine KW.condD rfl (fun a2 => ?_) (fun a2 => ?_)
              · refine KW.seq (KW.region ?_)
                refine OW.val rfl rfl (EX.assign rfl) ?_
                refine OW.nil ?_
                refine KW.ret (ret1 rfl rfl ?_)
                exact no (fun hm => by have := (mayR_small hm i hlt n en).2; omega) _ x3
              · refine KW.skip (KW.leave (KW.region ?_))
                refine OW.val rfl rfl (EX.move rfl) ?_
                refine OW.val rfl rfl (by first | exact EX.addN (b := 1) (m := 9223372036854775807) rfl rfl rfl (by omega) | exact EX.addZ (m := 9223372036854775807) rfl rfl rfl rfl (by omega)) ?_
                refine OW.val rfl rfl (EX.assign rfl) ?_
                refine OW.nil ?_
                refine KW.back1 (i + 1) ⟨rfl, rfl, rfl, trivial⟩ rfl ?_ (by omega)
                refine ⟨by omega, fun j hj2 n' en' => ?_⟩
                by_cases e : j = i
                · subst e
                  rw [en] at en'
                  cases en'
                  exact ⟨by omega, by omega⟩
                · exact hj j (by omega) n' en'
          · obtain rfl : i = 3 := by omega
            refine KW.exit rfl ?_
            refine KW.meet1 (()) ⟨rfl, trivial⟩ rfl ?_
            exact hj
      · rintro _ hsm
        have fin : ∀ (q : Bool), (q = true ↔ mayN h.size 8589934591 ∧ mayN h.time 8589934591) → (Value.bool q = .bool (decide (MayR h)) ∧ Ext w w3) := fun q hq => by
          refine ⟨congrArg Value.bool ?_, x3⟩
          rw [Bool.eq_iff_iff, hq, decide_eq_true_eq]
          exact ⟨fun ⟨a, b⟩ => mayR_of hkind htx hsm a b, fun hm => ⟨hm.1.size, hm.1.time⟩⟩
        refine KW.seq ?_
        refine KW.region ?_
        refine OW.val rfl rfl (EX.fieldAddr (off := 1) Try.underlying25 rfl rfl ti3 rfl rfl) ?_
        refine OW.val rfl rfl (EX.load Try.underlying3 rfl rfl (hb3.cell_of rfl)) ?_
        refine OW.val rfl rfl (by first | exact EX.geqN (b := 0) rfl rfl | exact EX.geqZ rfl rfl) ?_
        refine OW.val rfl rfl (EX.move rfl) ?_
        refine OW.splitD 92 rfl (fun c1 => ?_) (fun c1 => ?_)
        · refine OW.val rfl rfl (EX.fieldAddr (off := 1) Try.underlying25 rfl rfl ti3 rfl rfl) ?_
          refine OW.val rfl rfl (EX.load Try.underlying3 rfl rfl (hb3.cell_of rfl)) ?_
          refine OW.val rfl rfl (by first | exact EX.leqN (b := 8589934591) rfl rfl | exact EX.leqZ rfl rfl) ?_
          refine OW.val rfl rfl (EX.pickT rfl rfl) ?_
          refine OW.val rfl rfl (EX.move rfl) ?_
          refine OW.splitD 97 rfl (fun c2 => ?_) (fun c2 => ?_)
          · refine OW.val rfl rfl (EX.fieldAddr (off := 4) Try.underlying25 rfl rfl ti3 rfl rfl) ?_
            refine OW.val rfl rfl (EX.load Try.underlying3 rfl rfl (hb3.cell_of rfl)) ?_
            refine OW.val rfl rfl (by first | exact EX.geqN (b := 0) rfl rfl | exact EX.geqZ rfl rfl) ?_
            refine OW.val rfl rfl (EX.pickT rfl rfl) ?_
            refine OW.val rfl rfl (EX.move rfl) ?_
            refine OW.splitD 102 rfl (fun c3 => ?_) (fun c3 => ?_)
            · refine OW.val rfl rfl (EX.fieldAddr (off := 4) Try.underlying25 rfl rfl ti3 rfl rfl) ?_
              refine OW.val rfl rfl (EX.load Try.underlying3 rfl rfl (hb3.cell_of rfl)) ?_
              refine OW.val rfl rfl (by first | exact EX.leqN (b := 8589934591) rfl rfl | exact EX.leqZ rfl rfl) ?_
              refine OW.val rfl rfl (EX.pickT rfl rfl) ?_
              refine OW.val rfl rfl (EX.assign rfl) ?_
              refine OW.nil ?_
              refine KW.ret (ret1 rfl rfl ?_)
              exact fin _ (by rw [decide_eq_true_eq]; unfold mayN; omega)
            · refine OW.pass rfl rfl ?_
              refine OW.pass rfl rfl ?_
              refine OW.pass rfl rfl ?_
              refine OW.val rfl rfl (EX.pickF rfl rfl) ?_
              refine OW.val rfl rfl (EX.assign rfl) ?_
              refine OW.nil ?_
              refine KW.ret (ret1 rfl rfl ?_)
              exact fin _ (by unfold mayN; simp; omega)
          · refine OW.pass rfl rfl ?_
            refine OW.pass rfl rfl ?_
            refine OW.pass rfl rfl ?_
            refine OW.val rfl rfl (EX.pickF rfl rfl) ?_
            refine OW.val rfl rfl (EX.move rfl) ?_
            refine OW.pass rfl rfl ?_
            refine OW.pass rfl rfl ?_
            refine OW.pass rfl rfl ?_
            refine OW.val rfl rfl (EX.pickF rfl rfl) ?_
            refine OW.val rfl rfl (EX.assign rfl) ?_
            refine OW.nil ?_
            refine KW.ret (ret1 rfl rfl ?_)
            exact fin _ (by unfold mayN; simp; omega)
        · refine OW.pass rfl rfl ?_
          refine OW.pass rfl rfl ?_
          refine OW.pass rfl rfl ?_
          refine OW.val rfl rfl (EX.pickF rfl rfl) ?_
          refine OW.val rfl rfl (EX.move rfl) ?_
          refine OW.pass rfl rfl ?_
          refine OW.pass rfl rfl ?_
          refine OW.pass rfl rfl ?_
          refine OW.val rfl rfl (EX.pickF rfl rfl) ?_
          refine OW.val rfl rfl (EX.move rfl) ?_
          refine OW.pass rfl rfl ?_
          refine OW.pass rfl rfl ?_
          refine OW.pass rfl rfl ?_
          refine OW.val rfl rfl (EX.pickF rfl rfl) ?_
          refine OW.val rfl rfl (EX.assign rfl) ?_
          refine OW.nil ?_
          refine KW.ret (ret1 rfl rfl ?_)
          exact fin _ (by unfold mayN; simp; omega)
theorem lay_nil (n : Nat) : lay [] n = nul n := by simp [lay]
set_option maxRecDepth 20000 in
theorem rencode_s (h : Hd) (ho : h.Ok) (w : World) : Ret Try.prog 10 [.agg h.cells.toArray] w fun v w' => v = .tuple #[str (encH h).1, .int .i64 (((encH h).2 : Nat) : Int)] ∧ Ext w w' := by
  have hk := ho.kind
  have hpl := ho.path
  refine Ret.enter Try.func10 rfl Try.ntmps10 (by kernel_rfl) rfl ?_
  refine KW.seq (KW.region ?_)
  refine OW.boxS rfl rfl rfl ?_
  rintro hb w0 hge0 hb0 hx0
  refine OW.val rfl rfl (EX.assign rfl) ?_
  refine OW.val rfl rfl (EX.assign rfl) ?_
  refine OW.nil ?_
  refine KW.seq (KW.region ?_)
  refine OW.val rfl rfl (EX.fieldAddr (off := 0) Try.underlying25 rfl rfl ti9 rfl rfl) ?_
  replace hb0 : Bk w0 hb 25 h.cells := hb0
  refine OW.val rfl rfl (EX.load Try.underlying9 rfl rfl (hb0.cell_of rfl)) ?_
  refine OW.call rfl rfl rfl (rsplit_s h.path (by omega) w0) ?_
  rintro _ w1 ⟨r, rfl, hr, hx1⟩
  refine OW.val rfl rfl (EX.move rfl) ?_
  refine OW.val rfl rfl (EX.extract rfl rfl) ?_
  refine OW.val rfl rfl (EX.extract rfl rfl) ?_
  refine OW.val rfl rfl (EX.extract rfl rfl) ?_
  refine OW.val rfl rfl (EX.assign rfl) ?_
  refine OW.val rfl rfl (EX.assign rfl) ?_
  refine OW.val rfl rfl (EX.assign rfl) ?_
  refine OW.nil ?_
  refine KW.seq (KW.seq ?_)
  obtain rfl := split_val hr
  have x1 := hx0.trans hx1
  have hb1 := hb0.ext hx1
  rcases hs1 : (splitP h.path).2.2 with _ | _
  · skip
    have e : encH h = ([], 140) := by unfold encH; rw [if_pos (.inl hs1)]
    refine KW.region ?_
    refine OW.val rfl rfl (EX.move rfl) ?_
    refine OW.val rfl rfl (by first | exact EX.notD rfl | exact EX.notB rfl) ?_
    refine OW.val rfl rfl (EX.move rfl) ?_
    refine OW.pass rfl rfl ?_
    refine OW.pass rfl rfl ?_
    refine OW.pass rfl rfl ?_
    refine OW.val rfl rfl (EX.pickT rfl rfl) ?_
    refine OW.nil ?_
    refine KW.condT rfl (KW.seq (KW.region ?_))
    refine OW.val rfl rfl (EX.assign rfl) ?_
    refine OW.val rfl rfl (EX.assign rfl) ?_
    refine OW.nil ?_
    refine KW.ret (ret2 rfl rfl rfl ?_)
    rw [e]
    exact ⟨rfl, x1⟩
  · skip
    refine KW.region ?_
    refine OW.val rfl rfl (EX.move rfl) ?_
    refine OW.val rfl rfl (by first | exact EX.notD rfl | exact EX.notB rfl) ?_
    refine OW.val rfl rfl (EX.move rfl) ?_
    refine OW.val rfl rfl (EX.fieldAddr (off := 0) Try.underlying25 rfl rfl ti9 rfl rfl) ?_
    refine OW.val rfl rfl (EX.load Try.underlying9 rfl rfl (hb1.cell_of rfl)) ?_
    refine OW.val rfl rfl (EX.eqlS (r := []) rfl rfl) ?_
    refine OW.val rfl rfl (EX.pickF rfl rfl) ?_
    refine OW.nil ?_
    refine KW.condD rfl (fun hnil => ?_) (fun hnil => ?_)
    · have e : encH h = ([], 140) := by unfold encH; rw [if_pos (.inr hnil)]
      refine KW.seq (KW.region ?_)
      refine OW.val rfl rfl (EX.assign rfl) ?_
      refine OW.val rfl rfl (EX.assign rfl) ?_
      refine OW.nil ?_
      refine KW.ret (ret2 rfl rfl rfl ?_)
      rw [e]
      exact ⟨rfl, x1⟩
    · obtain ⟨p1, p2, p3, p4, p5, p6, p7⟩ := splitP_ok hs1 hnil
      have hno : ¬ ((splitP h.path).2.2 = false ∨ h.path = []) := by rw [hs1]; simp [hnil]
      have eno : ¬ May h → encH h = ([], 160) := fun hm => by unfold encH; rw [if_neg hno, if_neg hm]
      have eyes : May h → encH h = (hdText h, 0) := fun hm => by unfold encH; rw [if_neg hno, if_pos hm]
      refine KW.skip (KW.seq (KW.seq (KW.region ?_)))
      refine OW.val rfl rfl (EX.loadBk Try.underlying25 rfl ti25 rfl (hb1) (rfl)) ?_
      refine OW.call rfl rfl rfl (rmay_s h ho w1) ?_
      rintro _ w2 ⟨rfl, hx2⟩
      refine OW.val rfl rfl (by first | exact EX.notD rfl | exact EX.notB rfl) ?_
      refine OW.nil ?_
      have x2 := x1.trans hx2
      have hb2 := hb1.ext hx2
      refine KW.condD rfl (fun hmr => ?_) (fun hmr => ?_)
      · refine KW.seq (KW.region ?_)
        refine OW.val rfl rfl (EX.assign rfl) ?_
        refine OW.val rfl rfl (EX.assign rfl) ?_
        refine OW.nil ?_
        refine KW.ret (ret2 rfl rfl rfl ?_)
        rw [eno fun hm => hmr ⟨hm, by omega⟩]
        exact ⟨rfl, x2⟩
      · have hm : May h := (Classical.not_not.1 hmr).1
        have m1 : mayT (splitP h.path).2.1 100 := ⟨p1, fun z => hm.path (p5 _ z)⟩
        have m2 : mayT (splitP h.path).1 155 := ⟨p3, fun z => hm.path (p4 _ z)⟩
        have m3 : mayT h.n0 32 := ⟨by have := hm.n0.1; omega, hm.n0.2⟩
        have m4 : mayT h.n1 32 := ⟨by have := hm.n1.1; omega, hm.n1.2⟩
        have o2 := ho.link
        have o3 := ho.n0
        have o4 := ho.n1
        have b1 := lay_len p1
        have b2 : ∀ n k, (oc n k).length = k + 1 := oc_len
        have b3 := b2 h.mode 7
        have b4 := b2 h.i0 7
        have b5 := b2 h.i1 7
        have b6 := b2 h.size 11
        have b7 := b2 h.time 11
        refine KW.skip (KW.seq ?_)
        refine KW.cut1 (fun (wr : World) => Ext w wr ∧ Bk wr hb 25 h.cells) (fun (wr : World) => [(1, .pointer (some ⟨hb, 0, none⟩)), (4, str ((splitP h.path).1)), (7, str (lay (splitP h.path).2.1 100 ++ oc h.mode 7 ++ oc h.i0 7 ++ oc h.i1 7 ++ oc h.size 11 ++ oc h.time 11))]) (fun (wr : World) => wr) ?_ ?_
        · skip
          refine KW.regionG (N := 25) (fun w' => Ext w w' ∧ Bk w' hb 25 h.cells) (by kernel_rfl) rfl ?_
          have hS : (fun w' => Ext w w' ∧ Bk w' hb 25 h.cells) w2.drew := ⟨x2.trans (Ext.drew w2), hb2.drew⟩
          refine GW.val 0 rfl (by kernel_rfl) (by kernel_rfl) (by kernel_rfl) rfl rfl hS (fun w' hS' => EX.move rfl) ?_
          refine GW.val 2 rfl (by kernel_rfl) (by kernel_rfl) (by kernel_rfl) rfl rfl hS (fun w' hS' => EX.fieldAddr (off := 3) Try.underlying25 rfl rfl ti3 rfl rfl) ?_
          refine GW.val 3 rfl (by kernel_rfl) (by kernel_rfl) (by kernel_rfl) rfl rfl hS (fun w' hS' => EX.load Try.underlying3 rfl rfl (hS'.2.cell_of rfl)) ?_
          refine GW.val 6 rfl (by kernel_rfl) (by kernel_rfl) (by kernel_rfl) rfl rfl hS (fun w' hS' => EX.fieldAddr (off := 8) Try.underlying25 rfl rfl ti23 rfl rfl) ?_
          refine GW.val 7 rfl (by kernel_rfl) (by kernel_rfl) (by kernel_rfl) rfl rfl hS (fun w' hS' => by first | exact EX.indexAddrA0 (i := 0) Try.underlying23 ti3 rfl rfl (by omega) | exact EX.indexAddrA1 (i := 0) Try.underlying23 ti3 rfl rfl (by omega)) ?_
          refine GW.val 8 rfl (by kernel_rfl) (by kernel_rfl) (by kernel_rfl) rfl rfl hS (fun w' hS' => EX.load Try.underlying3 rfl rfl (hS'.2.cell_of rfl)) ?_
          refine GW.val 11 rfl (by kernel_rfl) (by kernel_rfl) (by kernel_rfl) rfl rfl hS (fun w' hS' => EX.fieldAddr (off := 8) Try.underlying25 rfl rfl ti23 rfl rfl) ?_
          refine GW.val 12 rfl (by kernel_rfl) (by kernel_rfl) (by kernel_rfl) rfl rfl hS (fun w' hS' => by first | exact EX.indexAddrA0 (i := 1) Try.underlying23 ti3 rfl rfl (by omega) | exact EX.indexAddrA1 (i := 1) Try.underlying23 ti3 rfl rfl (by omega)) ?_
          refine GW.val 13 rfl (by kernel_rfl) (by kernel_rfl) (by kernel_rfl) rfl rfl hS (fun w' hS' => EX.load Try.underlying3 rfl rfl (hS'.2.cell_of rfl)) ?_
          refine GW.val 16 rfl (by kernel_rfl) (by kernel_rfl) (by kernel_rfl) rfl rfl hS (fun w' hS' => EX.fieldAddr (off := 1) Try.underlying25 rfl rfl ti3 rfl rfl) ?_
          refine GW.val 17 rfl (by kernel_rfl) (by kernel_rfl) (by kernel_rfl) rfl rfl hS (fun w' hS' => EX.load Try.underlying3 rfl rfl (hS'.2.cell_of rfl)) ?_
          refine GW.val 20 rfl (by kernel_rfl) (by kernel_rfl) (by kernel_rfl) rfl rfl hS (fun w' hS' => EX.fieldAddr (off := 4) Try.underlying25 rfl rfl ti3 rfl rfl) ?_
          refine GW.val 21 rfl (by kernel_rfl) (by kernel_rfl) (by kernel_rfl) rfl rfl hS (fun w' hS' => EX.load Try.underlying3 rfl rfl (hS'.2.cell_of rfl)) ?_
          refine GW.call 1 rfl (by kernel_rfl) rfl rfl rfl (rlaid_s (splitP h.path).2.1 (by omega) 100 (by decide) m1 w2.drew) ?_
          rintro _ _ ⟨rfl, rfl⟩
          refine ⟨hS, fun hS => ?_⟩
          refine GW.call 4 rfl (by kernel_rfl) rfl rfl rfl (rnumber_s h.mode 7 (by decide) (by decide) _ hm.mode (by decide) w2.drew) ?_
          rintro _ _ ⟨rfl, rfl⟩
          refine ⟨hS, fun hS => ?_⟩
          refine GW.val 5 rfl (by kernel_rfl) (by kernel_rfl) (by kernel_rfl) rfl rfl hS (fun w' hS' => EX.addS rfl rfl (by first | omega | (simp only [List.length_append, List.length_cons, List.length_nil, List.length_take, List.length_drop, List.length_replicate]; omega))) ?_
          refine GW.call 9 rfl (by kernel_rfl) rfl rfl rfl (rnumber_s h.i0 7 (by decide) (by decide) _ hm.i0 (by decide) w2.drew) ?_
          rintro _ _ ⟨rfl, rfl⟩
          refine ⟨hS, fun hS => ?_⟩
          refine GW.val 10 rfl (by kernel_rfl) (by kernel_rfl) (by kernel_rfl) rfl rfl hS (fun w' hS' => EX.addS rfl rfl (by first | omega | (simp only [List.length_append, List.length_cons, List.length_nil, List.length_take, List.length_drop, List.length_replicate]; omega))) ?_
          refine GW.call 14 rfl (by kernel_rfl) rfl rfl rfl (rnumber_s h.i1 7 (by decide) (by decide) _ hm.i1 (by decide) w2.drew) ?_
          rintro _ _ ⟨rfl, rfl⟩
          refine ⟨hS, fun hS => ?_⟩
          refine GW.val 15 rfl (by kernel_rfl) (by kernel_rfl) (by kernel_rfl) rfl rfl hS (fun w' hS' => EX.addS rfl rfl (by first | omega | (simp only [List.length_append, List.length_cons, List.length_nil, List.length_take, List.length_drop, List.length_replicate]; omega))) ?_
          refine GW.call 18 rfl (by kernel_rfl) rfl rfl rfl (rnumber_s h.size 11 (by decide) (by decide) _ hm.size (by decide) w2.drew) ?_
          rintro _ _ ⟨rfl, rfl⟩
          refine ⟨hS, fun hS => ?_⟩
          refine GW.val 19 rfl (by kernel_rfl) (by kernel_rfl) (by kernel_rfl) rfl rfl hS (fun w' hS' => EX.addS rfl rfl (by first | omega | (simp only [List.length_append, List.length_cons, List.length_nil, List.length_take, List.length_drop, List.length_replicate]; omega))) ?_
          refine GW.call 22 rfl (by kernel_rfl) rfl rfl rfl (rnumber_s h.time 11 (by decide) (by decide) _ hm.time (by decide) w2.drew) ?_
          rintro _ _ ⟨rfl, rfl⟩
          refine ⟨hS, fun hS => ?_⟩
          refine GW.val 23 rfl (by kernel_rfl) (by kernel_rfl) (by kernel_rfl) rfl rfl hS (fun w' hS' => EX.addS rfl rfl (by first | omega | (simp only [List.length_append, List.length_cons, List.length_nil, List.length_take, List.length_drop, List.length_replicate]; omega))) ?_
          refine GW.val 24 rfl (by kernel_rfl) (by kernel_rfl) (by kernel_rfl) rfl rfl hS (fun w' hS' => EX.assign rfl) ?_
          refine GW.done (by kernel_rfl) ?_
          refine KW.meet1 w2.drew ⟨rfl, rfl, rfl, trivial⟩ rfl ?_
          exact hS
        · rintro wr ⟨xr, hbr⟩
          generalize hH : lay (splitP h.path).2.1 100 ++ oc h.mode 7 ++ oc h.i0 7 ++ oc h.i1 7 ++ oc h.size 11 ++ oc h.time 11 = H
          have hHf : (headL h (splitP h.path).2.1).flatten = H := by rw [← hH]; simp [headL]
          have hlH : H.length = 148 := by rw [← hHf, List.length_flatten, head_len h p1]; rfl
          have b8 := lay_len hm.link.1
          have b9 := lay_len m3.1
          have b10 := lay_len m4.1
          refine KW.seq ?_
          refine KW.cut1 (fun (wq : World) => Ext w wq) (fun (wq : World) => [(4, str ((splitP h.path).1)), (7, str (H ++ [32, 32, 32, 32, 32, 32, 32, 32] ++ [UInt8.ofNat h.kind] ++ lay h.link 100 ++ magic ++ lay h.n0 32 ++ lay h.n1 32))]) (fun (wq : World) => wq) ?_ ?_
          · skip
            refine KW.regionG (N := 23) (fun w' => Ext w w' ∧ Bk w' hb 25 h.cells) (by kernel_rfl) rfl ?_
            have hS : (fun w' => Ext w w' ∧ Bk w' hb 25 h.cells) wr.drew := ⟨xr.trans (Ext.drew wr), hbr.drew⟩
            refine GW.val 0 rfl (by kernel_rfl) (by kernel_rfl) (by kernel_rfl) rfl rfl hS (fun w' hS' => EX.move rfl) ?_
            refine GW.val 1 rfl (by kernel_rfl) (by kernel_rfl) (by kernel_rfl) rfl rfl hS (fun w' hS' => EX.addS (r := [32, 32, 32, 32, 32, 32, 32, 32]) rfl rfl (by first | omega | (simp only [List.length_append, List.length_cons, List.length_nil, List.length_take, List.length_drop, List.length_replicate]; omega))) ?_
            refine GW.val 2 rfl (by kernel_rfl) (by kernel_rfl) (by kernel_rfl) rfl rfl hS (fun w' hS' => EX.fieldAddr (off := 2) Try.underlying25 rfl rfl ti5 rfl rfl) ?_
            refine GW.val 3 rfl (by kernel_rfl) (by kernel_rfl) (by kernel_rfl) rfl rfl hS (fun w' hS' => EX.load Try.underlying5 rfl rfl (hS'.2.cell_of rfl)) ?_
            refine GW.val 7 rfl (by kernel_rfl) (by kernel_rfl) (by kernel_rfl) rfl rfl hS (fun w' hS' => EX.fieldAddr (off := 5) Try.underlying25 rfl rfl ti9 rfl rfl) ?_
            refine GW.val 8 rfl (by kernel_rfl) (by kernel_rfl) (by kernel_rfl) rfl rfl hS (fun w' hS' => EX.load Try.underlying9 rfl rfl (hS'.2.cell_of rfl)) ?_
            refine GW.val 12 rfl (by kernel_rfl) (by kernel_rfl) (by kernel_rfl) rfl rfl hS (fun w' hS' => EX.fieldAddr (off := 6) Try.underlying25 rfl rfl ti22 rfl rfl) ?_
            refine GW.val 13 rfl (by kernel_rfl) (by kernel_rfl) (by kernel_rfl) rfl rfl hS (fun w' hS' => by first | exact EX.indexAddrA0 (i := 0) Try.underlying22 ti9 rfl rfl (by omega) | exact EX.indexAddrA1 (i := 0) Try.underlying22 ti9 rfl rfl (by omega)) ?_
            refine GW.val 14 rfl (by kernel_rfl) (by kernel_rfl) (by kernel_rfl) rfl rfl hS (fun w' hS' => EX.load Try.underlying9 rfl rfl (hS'.2.cell_of rfl)) ?_
            refine GW.val 17 rfl (by kernel_rfl) (by kernel_rfl) (by kernel_rfl) rfl rfl hS (fun w' hS' => EX.fieldAddr (off := 6) Try.underlying25 rfl rfl ti22 rfl rfl) ?_
            refine GW.val 18 rfl (by kernel_rfl) (by kernel_rfl) (by kernel_rfl) rfl rfl hS (fun w' hS' => by first | exact EX.indexAddrA0 (i := 1) Try.underlying22 ti9 rfl rfl (by omega) | exact EX.indexAddrA1 (i := 1) Try.underlying22 ti9 rfl rfl (by omega)) ?_
            refine GW.val 19 rfl (by kernel_rfl) (by kernel_rfl) (by kernel_rfl) rfl rfl hS (fun w' hS' => EX.load Try.underlying9 rfl rfl (hS'.2.cell_of rfl)) ?_
            refine GW.two 4 9 (by kernel_rfl) ?_ ?_
            · refine GO.buildB 4 1 rfl rfl rfl Try.underlying38 ti5 rfl rfl rfl rfl rfl (by decide) ?_
              rintro gb w4 hge4 h4 hx4
              refine ⟨⟨hS.1.trans hx4, hS.2.ext hx4⟩, fun hS => ?_⟩
              refine GW.strong (fun w' => Ext w w' ∧ Bk w' hb 25 h.cells ∧ Bk w' gb 5 [.int .u8 (h.kind : Int)]) (fun _ h => ⟨h.1, h.2.1⟩) ?_
              replace hS := (⟨hS.1, hS.2, h4⟩ : (fun w' => Ext w w' ∧ Bk w' hb 25 h.cells ∧ Bk w' gb 5 [.int .u8 (h.kind : Int)]) w4)
              refine GW.val 5 rfl (by kernel_rfl) (by kernel_rfl) (by kernel_rfl) rfl rfl hS (fun w' hS' => EX.strOf Try.underlying38 Try.underlying5 Try.underlying9 rfl (oneB hS'.2.2 hk) rfl) ?_
              refine GW.val 6 rfl (by kernel_rfl) (by kernel_rfl) (by kernel_rfl) rfl rfl hS (fun w' hS' => EX.addS rfl rfl (by first | omega | (simp only [List.length_append, List.length_cons, List.length_nil, List.length_take, List.length_drop, List.length_replicate]; omega))) ?_
              refine GW.call 9 rfl (by kernel_rfl) rfl rfl rfl (rlaid_s h.link (by omega) 100 (by decide) hm.link w4) ?_
              rintro _ _ ⟨rfl, rfl⟩
              refine ⟨hS, fun hS => ?_⟩
              refine GW.val 10 rfl (by kernel_rfl) (by kernel_rfl) (by kernel_rfl) rfl rfl hS (fun w' hS' => EX.addS rfl rfl (by first | omega | (simp only [List.length_append, List.length_cons, List.length_nil, List.length_take, List.length_drop, List.length_replicate]; omega))) ?_
              refine GW.val 11 rfl (by kernel_rfl) (by kernel_rfl) (by kernel_rfl) rfl rfl hS (fun w' hS' => EX.addS (r := [117, 115, 116, 97, 114, 0, 48, 48]) rfl rfl (by first | omega | (simp only [List.length_append, List.length_cons, List.length_nil, List.length_take, List.length_drop, List.length_replicate]; omega))) ?_
              refine GW.call 15 rfl (by kernel_rfl) rfl rfl rfl (rlaid_s h.n0 (by omega) 32 (by decide) m3 w4) ?_
              rintro _ _ ⟨rfl, rfl⟩
              refine ⟨hS, fun hS => ?_⟩
              refine GW.val 16 rfl (by kernel_rfl) (by kernel_rfl) (by kernel_rfl) rfl rfl hS (fun w' hS' => EX.addS rfl rfl (by first | omega | (simp only [List.length_append, List.length_cons, List.length_nil, List.length_take, List.length_drop, List.length_replicate]; omega))) ?_
              refine GW.call 20 rfl (by kernel_rfl) rfl rfl rfl (rlaid_s h.n1 (by omega) 32 (by decide) m4 w4) ?_
              rintro _ _ ⟨rfl, rfl⟩
              refine ⟨hS, fun hS => ?_⟩
              refine GW.val 21 rfl (by kernel_rfl) (by kernel_rfl) (by kernel_rfl) rfl rfl hS (fun w' hS' => EX.addS rfl rfl (by first | omega | (simp only [List.length_append, List.length_cons, List.length_nil, List.length_take, List.length_drop, List.length_replicate]; omega))) ?_
              refine GW.val 22 rfl (by kernel_rfl) (by kernel_rfl) (by kernel_rfl) rfl rfl hS (fun w' hS' => EX.assign rfl) ?_
              refine GW.done (by kernel_rfl) ?_
              refine KW.meet1 w4 ⟨rfl, rfl, trivial⟩ rfl ?_
              exact hS.1
            · refine GO.call 9 rfl rfl rfl rfl (rlaid_s h.link (by omega) 100 (by decide) hm.link wr.drew) ?_
              rintro _ _ ⟨rfl, rfl⟩
              refine ⟨hS, fun hS => ?_⟩
              refine GW.two 4 15 (by kernel_rfl) ?_ ?_
              · refine GO.buildB 4 1 rfl rfl rfl Try.underlying38 ti5 rfl rfl rfl rfl rfl (by decide) ?_
                rintro gb w4 hge4 h4 hx4
                refine ⟨⟨hS.1.trans hx4, hS.2.ext hx4⟩, fun hS => ?_⟩
                refine GW.strong (fun w' => Ext w w' ∧ Bk w' hb 25 h.cells ∧ Bk w' gb 5 [.int .u8 (h.kind : Int)]) (fun _ h => ⟨h.1, h.2.1⟩) ?_
                replace hS := (⟨hS.1, hS.2, h4⟩ : (fun w' => Ext w w' ∧ Bk w' hb 25 h.cells ∧ Bk w' gb 5 [.int .u8 (h.kind : Int)]) w4)
                refine GW.val 5 rfl (by kernel_rfl) (by kernel_rfl) (by kernel_rfl) rfl rfl hS (fun w' hS' => EX.strOf Try.underlying38 Try.underlying5 Try.underlying9 rfl (oneB hS'.2.2 hk) rfl) ?_
                refine GW.val 6 rfl (by kernel_rfl) (by kernel_rfl) (by kernel_rfl) rfl rfl hS (fun w' hS' => EX.addS rfl rfl (by first | omega | (simp only [List.length_append, List.length_cons, List.length_nil, List.length_take, List.length_drop, List.length_replicate]; omega))) ?_
                refine GW.val 10 rfl (by kernel_rfl) (by kernel_rfl) (by kernel_rfl) rfl rfl hS (fun w' hS' => EX.addS rfl rfl (by first | omega | (simp only [List.length_append, List.length_cons, List.length_nil, List.length_take, List.length_drop, List.length_replicate]; omega))) ?_
                refine GW.val 11 rfl (by kernel_rfl) (by kernel_rfl) (by kernel_rfl) rfl rfl hS (fun w' hS' => EX.addS (r := [117, 115, 116, 97, 114, 0, 48, 48]) rfl rfl (by first | omega | (simp only [List.length_append, List.length_cons, List.length_nil, List.length_take, List.length_drop, List.length_replicate]; omega))) ?_
                refine GW.call 15 rfl (by kernel_rfl) rfl rfl rfl (rlaid_s h.n0 (by omega) 32 (by decide) m3 w4) ?_
                rintro _ _ ⟨rfl, rfl⟩
                refine ⟨hS, fun hS => ?_⟩
                refine GW.val 16 rfl (by kernel_rfl) (by kernel_rfl) (by kernel_rfl) rfl rfl hS (fun w' hS' => EX.addS rfl rfl (by first | omega | (simp only [List.length_append, List.length_cons, List.length_nil, List.length_take, List.length_drop, List.length_replicate]; omega))) ?_
                refine GW.call 20 rfl (by kernel_rfl) rfl rfl rfl (rlaid_s h.n1 (by omega) 32 (by decide) m4 w4) ?_
                rintro _ _ ⟨rfl, rfl⟩
                refine ⟨hS, fun hS => ?_⟩
                refine GW.val 21 rfl (by kernel_rfl) (by kernel_rfl) (by kernel_rfl) rfl rfl hS (fun w' hS' => EX.addS rfl rfl (by first | omega | (simp only [List.length_append, List.length_cons, List.length_nil, List.length_take, List.length_drop, List.length_replicate]; omega))) ?_
                refine GW.val 22 rfl (by kernel_rfl) (by kernel_rfl) (by kernel_rfl) rfl rfl hS (fun w' hS' => EX.assign rfl) ?_
                refine GW.done (by kernel_rfl) ?_
                refine KW.meet1 w4 ⟨rfl, rfl, trivial⟩ rfl ?_
                exact hS.1
              · refine GO.call 15 rfl rfl rfl rfl (rlaid_s h.n0 (by omega) 32 (by decide) m3 wr.drew) ?_
                rintro _ _ ⟨rfl, rfl⟩
                refine ⟨hS, fun hS => ?_⟩
                refine GW.two 4 20 (by kernel_rfl) ?_ ?_
                · refine GO.buildB 4 1 rfl rfl rfl Try.underlying38 ti5 rfl rfl rfl rfl rfl (by decide) ?_
                  rintro gb w4 hge4 h4 hx4
                  refine ⟨⟨hS.1.trans hx4, hS.2.ext hx4⟩, fun hS => ?_⟩
                  refine GW.strong (fun w' => Ext w w' ∧ Bk w' hb 25 h.cells ∧ Bk w' gb 5 [.int .u8 (h.kind : Int)]) (fun _ h => ⟨h.1, h.2.1⟩) ?_
                  replace hS := (⟨hS.1, hS.2, h4⟩ : (fun w' => Ext w w' ∧ Bk w' hb 25 h.cells ∧ Bk w' gb 5 [.int .u8 (h.kind : Int)]) w4)
                  refine GW.val 5 rfl (by kernel_rfl) (by kernel_rfl) (by kernel_rfl) rfl rfl hS (fun w' hS' => EX.strOf Try.underlying38 Try.underlying5 Try.underlying9 rfl (oneB hS'.2.2 hk) rfl) ?_
                  refine GW.val 6 rfl (by kernel_rfl) (by kernel_rfl) (by kernel_rfl) rfl rfl hS (fun w' hS' => EX.addS rfl rfl (by first | omega | (simp only [List.length_append, List.length_cons, List.length_nil, List.length_take, List.length_drop, List.length_replicate]; omega))) ?_
                  refine GW.val 10 rfl (by kernel_rfl) (by kernel_rfl) (by kernel_rfl) rfl rfl hS (fun w' hS' => EX.addS rfl rfl (by first | omega | (simp only [List.length_append, List.length_cons, List.length_nil, List.length_take, List.length_drop, List.length_replicate]; omega))) ?_
                  refine GW.val 11 rfl (by kernel_rfl) (by kernel_rfl) (by kernel_rfl) rfl rfl hS (fun w' hS' => EX.addS (r := [117, 115, 116, 97, 114, 0, 48, 48]) rfl rfl (by first | omega | (simp only [List.length_append, List.length_cons, List.length_nil, List.length_take, List.length_drop, List.length_replicate]; omega))) ?_
                  refine GW.val 16 rfl (by kernel_rfl) (by kernel_rfl) (by kernel_rfl) rfl rfl hS (fun w' hS' => EX.addS rfl rfl (by first | omega | (simp only [List.length_append, List.length_cons, List.length_nil, List.length_take, List.length_drop, List.length_replicate]; omega))) ?_
                  refine GW.call 20 rfl (by kernel_rfl) rfl rfl rfl (rlaid_s h.n1 (by omega) 32 (by decide) m4 w4) ?_
                  rintro _ _ ⟨rfl, rfl⟩
                  refine ⟨hS, fun hS => ?_⟩
                  refine GW.val 21 rfl (by kernel_rfl) (by kernel_rfl) (by kernel_rfl) rfl rfl hS (fun w' hS' => EX.addS rfl rfl (by first | omega | (simp only [List.length_append, List.length_cons, List.length_nil, List.length_take, List.length_drop, List.length_replicate]; omega))) ?_
                  refine GW.val 22 rfl (by kernel_rfl) (by kernel_rfl) (by kernel_rfl) rfl rfl hS (fun w' hS' => EX.assign rfl) ?_
                  refine GW.done (by kernel_rfl) ?_
                  refine KW.meet1 w4 ⟨rfl, rfl, trivial⟩ rfl ?_
                  exact hS.1
                · refine GO.call 20 rfl rfl rfl rfl (rlaid_s h.n1 (by omega) 32 (by decide) m4 wr.drew) ?_
                  rintro _ _ ⟨rfl, rfl⟩
                  refine ⟨hS, fun hS => ?_⟩
                  refine GW.buildB 4 1 rfl (by kernel_rfl) rfl rfl Try.underlying38 ti5 rfl rfl rfl rfl rfl (by decide) ?_
                  rintro gb w4 hge4 h4 hx4
                  refine ⟨⟨hS.1.trans hx4, hS.2.ext hx4⟩, fun hS => ?_⟩
                  refine GW.strong (fun w' => Ext w w' ∧ Bk w' hb 25 h.cells ∧ Bk w' gb 5 [.int .u8 (h.kind : Int)]) (fun _ h => ⟨h.1, h.2.1⟩) ?_
                  replace hS := (⟨hS.1, hS.2, h4⟩ : (fun w' => Ext w w' ∧ Bk w' hb 25 h.cells ∧ Bk w' gb 5 [.int .u8 (h.kind : Int)]) w4)
                  refine GW.val 5 rfl (by kernel_rfl) (by kernel_rfl) (by kernel_rfl) rfl rfl hS (fun w' hS' => EX.strOf Try.underlying38 Try.underlying5 Try.underlying9 rfl (oneB hS'.2.2 hk) rfl) ?_
                  refine GW.val 6 rfl (by kernel_rfl) (by kernel_rfl) (by kernel_rfl) rfl rfl hS (fun w' hS' => EX.addS rfl rfl (by first | omega | (simp only [List.length_append, List.length_cons, List.length_nil, List.length_take, List.length_drop, List.length_replicate]; omega))) ?_
                  refine GW.val 10 rfl (by kernel_rfl) (by kernel_rfl) (by kernel_rfl) rfl rfl hS (fun w' hS' => EX.addS rfl rfl (by first | omega | (simp only [List.length_append, List.length_cons, List.length_nil, List.length_take, List.length_drop, List.length_replicate]; omega))) ?_
                  refine GW.val 11 rfl (by kernel_rfl) (by kernel_rfl) (by kernel_rfl) rfl rfl hS (fun w' hS' => EX.addS (r := [117, 115, 116, 97, 114, 0, 48, 48]) rfl rfl (by first | omega | (simp only [List.length_append, List.length_cons, List.length_nil, List.length_take, List.length_drop, List.length_replicate]; omega))) ?_
                  refine GW.val 16 rfl (by kernel_rfl) (by kernel_rfl) (by kernel_rfl) rfl rfl hS (fun w' hS' => EX.addS rfl rfl (by first | omega | (simp only [List.length_append, List.length_cons, List.length_nil, List.length_take, List.length_drop, List.length_replicate]; omega))) ?_
                  refine GW.val 21 rfl (by kernel_rfl) (by kernel_rfl) (by kernel_rfl) rfl rfl hS (fun w' hS' => EX.addS rfl rfl (by first | omega | (simp only [List.length_append, List.length_cons, List.length_nil, List.length_take, List.length_drop, List.length_replicate]; omega))) ?_
                  refine GW.val 22 rfl (by kernel_rfl) (by kernel_rfl) (by kernel_rfl) rfl rfl hS (fun w' hS' => EX.assign rfl) ?_
                  refine GW.done (by kernel_rfl) ?_
                  refine KW.meet1 w4 ⟨rfl, rfl, trivial⟩ rfl ?_
                  exact hS.1
          · rintro wq xq
            have z0 : mayN 0 0 := ⟨by decide, by decide⟩
            have b11 := b2 0 7
            have b12 := lay_len p3
            have b13 := lay_len (s := []) (n := 12) (by simp)
            generalize hM : H ++ [32, 32, 32, 32, 32, 32, 32, 32] ++ [UInt8.ofNat h.kind] ++ lay h.link 100 ++ magic ++ lay h.n0 32 ++ lay h.n1 32 = M
            have hlM : M.length ≤ 1000 := by rw [← hM]; simp only [List.length_append, List.length_cons, List.length_nil, b8, b9, b10, hlH]; show _ ≤ 1000; decide
            refine KW.seq (KW.region ?_)
            refine OW.val rfl rfl (EX.move rfl) ?_
            refine OW.call rfl rfl rfl (rnumber_s 0 7 (by decide) (by decide) _ z0 (by decide) wq) ?_
            rintro _ _ ⟨rfl, rfl⟩
            refine OW.val rfl rfl (EX.addS rfl rfl (by first | omega | (simp only [List.length_append, List.length_cons, List.length_nil, List.length_take, List.length_drop, List.length_replicate]; omega))) ?_
            refine OW.call rfl rfl rfl (rnumber_s 0 7 (by decide) (by decide) _ z0 (by decide) wq) ?_
            rintro _ _ ⟨rfl, rfl⟩
            refine OW.val rfl rfl (EX.addS rfl rfl (by first | omega | (simp only [List.length_append, List.length_cons, List.length_nil, List.length_take, List.length_drop, List.length_replicate]; omega))) ?_
            refine OW.val rfl rfl (EX.move rfl) ?_
            refine OW.call rfl rfl rfl (rlaid_s (splitP h.path).1 (by omega) 155 (by decide) m2 wq) ?_
            rintro _ _ ⟨rfl, rfl⟩
            refine OW.val rfl rfl (EX.addS rfl rfl (by first | omega | (simp only [List.length_append, List.length_cons, List.length_nil, List.length_take, List.length_drop, List.length_replicate]; omega))) ?_
            refine OW.call rfl rfl rfl (rlaid_s [] (by simp) 12 (by decide) ⟨by simp, by simp⟩ wq) ?_
            rintro _ _ ⟨rfl, rfl⟩
            refine OW.val rfl rfl (EX.addS rfl rfl (by first | omega | (simp only [List.length_append, List.length_cons, List.length_nil, List.length_take, List.length_drop, List.length_replicate]; omega))) ?_
            refine OW.val rfl rfl (EX.assign rfl) ?_
            refine OW.nil ?_
            refine KW.seq (KW.region ?_)
            refine OW.val rfl rfl (EX.move rfl) ?_
            have hall : M ++ oc 0 7 ++ oc 0 7 ++ lay (splitP h.path).1 155 ++ lay [] 12 = withS h (splitP h.path).1 (splitP h.path).2.1 [32, 32, 32, 32, 32, 32, 32, 32] := by
              unfold withS
              rw [hHf, ← hM, lay_nil]
              simp [tailL]
            have hlS := (fields_of (s := [32, 32, 32, 32, 32, 32, 32, 32]) hm p1 p3 rfl).1
            rw [hall]
            have hsum : sum (withS h (splitP h.path).1 (splitP h.path).2.1 [32, 32, 32, 32, 32, 32, 32, 32]) = (hdSum h, 0) := by
              unfold sum
              rw [if_neg (by omega)]
              unfold hdSum withS
              rw [sumTo_mid (b := [32, 32, 32, 32, 32, 32, 32, 32]) (b' := nul 8) (by rw [hHf, hlH]) rfl (nul_len 8)]
            have cs := refSum_s (withS h (splitP h.path).1 (splitP h.path).2.1 [32, 32, 32, 32, 32, 32, 32, 32]) (by omega) wq
            rw [hsum] at cs
            have hle : mayN ((hdSum h : Nat) : Int) 262143 := ⟨by omega, by have := sumTo_le (withS h (splitP h.path).1 (splitP h.path).2.1 (nul 8)) 512; unfold hdSum; omega⟩
            have b14 := b2 ((hdSum h : Nat) : Int) 6
            rw [eyes hm]
            refine OW.call rfl rfl rfl (cs) ?_
            rintro _ _ ⟨rfl, rfl⟩
            refine OW.val rfl rfl (EX.move rfl) ?_
            refine OW.val rfl rfl (EX.extract rfl rfl) ?_
            refine OW.val rfl rfl (EX.extract rfl rfl) ?_
            refine OW.val rfl rfl (EX.assign rfl) ?_
            refine OW.val rfl rfl (EX.assign rfl) ?_
            refine OW.nil ?_
            refine KW.seq ?_
            refine KW.regionQ (by kernel_rfl) (by kernel_rfl) ?_
            refine QW.val rfl rfl (fun _ => EX.move rfl) ?_
            refine QW.val rfl rfl (fun _ => EX.sliceFH (j := 148) Try.underlying9 rfl rfl (by omega)) ?_
            refine QW.val rfl rfl (fun _ => EX.move rfl) ?_
            refine QW.call rfl rfl rfl (fun _ => RetQ.of (rnumber_s ((hdSum h : Nat) : Int) 6 (by decide) (by decide) _ hle (by decide) _)) ?_
            refine QW.val rfl rfl (fun _ => EX.addS rfl rfl (by first | omega | (simp only [List.length_append, List.length_cons, List.length_nil, List.length_take, List.length_drop, List.length_replicate]; omega))) ?_
            refine QW.val rfl rfl (fun _ => EX.addS (r := [32]) rfl rfl (by first | omega | (simp only [List.length_append, List.length_cons, List.length_nil, List.length_take, List.length_drop, List.length_replicate]; omega))) ?_
            refine QW.val rfl rfl (fun _ => EX.move rfl) ?_
            refine QW.val rfl rfl (fun _ => EX.sliceLE (i := 156) Try.underlying9 rfl rfl (by omega)) ?_
            refine QW.val rfl rfl (fun _ => EX.addS rfl rfl (by first | omega | (simp only [List.length_append, List.length_cons, List.length_nil, List.length_take, List.length_drop, List.length_replicate]; omega))) ?_
            refine QW.val rfl rfl (fun _ => EX.assign rfl) ?_
            refine QW.val rfl rfl (fun _ => EX.assign rfl) ?_
            refine QW.nil (fun nq => ?_)
            refine KW.ret (ret2 rfl rfl rfl ?_)
            refine ⟨?_, xq.trans (Ext.drewN _ nq)⟩
            have ew : withS h (splitP h.path).1 (splitP h.path).2.1 [32, 32, 32, 32, 32, 32, 32, 32] = H ++ ([32, 32, 32, 32, 32, 32, 32, 32] ++ (tailL h (splitP h.path).1).flatten) := by unfold withS; rw [hHf, List.append_assoc]
            have e1 : (withS h (splitP h.path).1 (splitP h.path).2.1 [32, 32, 32, 32, 32, 32, 32, 32]).take 148 = H := by rw [ew, ← hlH]; exact List.take_left' rfl
            have e2 : (withS h (splitP h.path).1 (splitP h.path).2.1 [32, 32, 32, 32, 32, 32, 32, 32]).drop 156 = (tailL h (splitP h.path).1).flatten := by
              rw [ew, show 156 = H.length + 8 by omega, ← List.drop_drop, List.drop_left' rfl]
              rfl
            have ed : hdText h = H ++ oc ((hdSum h : Nat) : Int) 6 ++ [32] ++ (tailL h (splitP h.path).1).flatten := by
              unfold hdText withS sumF oc
              rw [hHf]
              simp
            simp only [ed, e1, e2]
            rfl
end Go.Proofs.Ytaoieiiggbpjeaa
