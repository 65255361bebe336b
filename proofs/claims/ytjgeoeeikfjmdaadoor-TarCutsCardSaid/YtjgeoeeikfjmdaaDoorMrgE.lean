/-
  What the statements rest on, part 5 of 5: many small texts, one behind the other.
-/
import Derived.Test.YtjgeoeeikfjmdaaDoorMrgD
import Derived.ProofKit
import Derived.OpenShut
import Derived.ShutString
import Derived.SizedLaws
import Derived.SliceStrings
import Derived.Deep.Slices
import Derived.Deep.Grids
import Derived.Test.YtjgeoeeikfjmdaaDoorRows
import Derived.Lib.LaidTab
import Derived.Stop.LaidErr
/- tar: the iterator over a text's files; Unpack. -/
namespace Go.Proofs.YtjgeoeeikfjmdaaDoor
set_option linter.unnecessarySimpa false
open Go.RowKit Fld Ust Pax Pth Tar
set_option linter.unusedVariables false
set_option linter.unusedSimpArgs false

/-! ### In plain words: what the iterator hands out -/
abbrev EnE := En × Nat
def isZ (s : List UInt8) : Bool := decide (512 ≤ s.length ∧ zeroH (s.take 512) = true)
def isO (h : Hd × Nat) : Bool := decide (h.2 = 0 ∧ (h.1.kind = 53 ∨ h.1.kind = 103))
def seqT : Nat → List UInt8 → List (En × Nat)
  | 0, _ => []
  | f + 1, s => if isZ s = true then []
    else if isO (headT s) = true then (if (dataT s (headT s).1.size.toNat).2.2 = true then seqT f (s.drop (dataT s (headT s).1.size.toNat).2.1) else [(en0, 180)])
    else if (headT s).2 ≠ 0 ∨ (readT s).2.2 ≠ 0 then [(en0, 180)] else ((readT s).1, 0) :: seqT f (s.drop (readT s).2.1)
theorem dataT_pos {s : List UInt8} {n : Nat} (h : (dataT s n).2.2 = true) : 512 ≤ (dataT s n).2.1 := by
  unfold dataT at h ⊢
  split
  · rename_i q
    rw [if_pos q] at h
    cases h
  · show 512 ≤ 512 + fil n
    omega
theorem restT_pos {t : List UInt8} {u : Nat} {p : List Pr} {h : Hd} (hz : (restT t u p h).2.2 = 0) : 512 ≤ (restT t u p h).2.1 ∧ (restT t u p h).2.1 ≤ u + t.length := by
  rw [restT_eq] at hz ⊢
  split at hz
  · rename_i q
    rw [if_pos q]
    have := dataT_pos q.2.1
    have := dataT_le t (szOf p h).1
    show 512 ≤ u + _ ∧ u + _ ≤ _
    omega
  · cases hz
theorem readT_pos {s : List UInt8} (h : (readT s).2.2 = 0) : 512 ≤ (readT s).2.1 ∧ (readT s).2.1 ≤ s.length := by
  by_cases h1 : (headT s).2 = 0
  · by_cases h2 : (headT s).1.kind = 120
    · rw [readT_x h1 h2] at h ⊢
      split at h
      · rename_i q
        rw [if_pos q]
        have h3 := restT_pos h
        have h4 := dataT_le s (headT s).1.size.toNat
        rw [List.length_drop] at h3
        omega
      · cases h
    · by_cases h3 : (headT s).1.kind = 48
      · rw [readT_0 h1 h3] at h ⊢
        have := restT_pos h
        omega
      · rw [readT_no h1 h2 h3] at h
        cases h
  · rw [readT_bad h1] at h
    cases h
theorem readT_e (s : List UInt8) : (readT s).2.2 = 0 ∨ readT s = (en0, 0, 180) := by
  have hr : ∀ t u p h, (restT t u p h).2.2 = 0 ∨ restT t u p h = (en0, 0, 180) := fun t u p h => by
    rw [restT_eq]
    split
    · exact .inl rfl
    · exact .inr rfl
  by_cases h1 : (headT s).2 = 0
  · by_cases h2 : (headT s).1.kind = 120
    · rw [readT_x h1 h2]
      split
      · exact hr _ _ _ _
      · exact .inr rfl
    · by_cases h3 : (headT s).1.kind = 48
      · rw [readT_0 h1 h3]
        exact hr _ _ _ _
      · rw [readT_no h1 h2 h3]
        exact .inr rfl
  · rw [readT_bad h1]
    exact .inr rfl
theorem seqT_len : ∀ (f : Nat) (s : List UInt8), (seqT f s).length ≤ f
  | 0, _ => by simp [seqT]
  | f + 1, s => by
    rw [seqT]
    split
    · simp
    · split
      · split
        · exact Nat.le_succ_of_le (seqT_len f _)
        · simp
      · split
        · simp
        · simpa using seqT_len f _
theorem unp_seq : ∀ (f : Nat) (s : List UInt8) (out : List En), s.length < f → ((∀ p ∈ seqT f s, p.2 = 0) ∧ unpT f s out = (out ++ (seqT f s).map (·.1), 0)) ∨ ((∃ p ∈ seqT f s, p.2 ≠ 0) ∧ unpT f s out = ([], 180))
  | 0, s, out, h => by omega
  | f + 1, s, out, h => by
    rw [seqT, unpT]
    by_cases hz : 512 ≤ s.length ∧ zeroH (s.take 512) = true
    · rw [if_pos hz, if_pos (by simp [isZ, hz])]
      exact .inl ⟨by simp, by simp⟩
    · rw [if_neg hz, if_neg (by simpa [isZ] using hz)]
      by_cases ho : (headT s).2 = 0 ∧ ((headT s).1.kind = 53 ∨ (headT s).1.kind = 103)
      · rw [if_pos ho, if_pos (by simpa [isO] using ho)]
        by_cases hd : (dataT s (headT s).1.size.toNat).2.2 = true
        · rw [if_pos hd, if_pos hd]
          have := dataT_pos hd
          have := dataT_le s (headT s).1.size.toNat
          exact unp_seq f _ out (by rw [List.length_drop]; omega)
        · rw [if_neg hd, if_neg hd]
          exact .inr ⟨⟨_, List.mem_singleton.2 rfl, by decide⟩, rfl⟩
      · rw [if_neg ho, if_neg (by simpa [isO] using ho)]
        by_cases hb : (headT s).2 ≠ 0 ∨ (readT s).2.2 ≠ 0
        · rw [if_pos hb, if_pos hb]
          exact .inr ⟨⟨_, List.mem_singleton.2 rfl, by decide⟩, rfl⟩
        · rw [if_neg hb, if_neg hb]
          have hr0 : (readT s).2.2 = 0 := by omega
          have hp := readT_pos hr0
          rcases unp_seq f (s.drop (readT s).2.1) (out ++ [(readT s).1]) (by rw [List.length_drop]; omega) with ⟨h1, h2⟩ | ⟨⟨p, h1, h2⟩, h3⟩
          · refine .inl ⟨fun p hp => ?_, by rw [h2]; simp⟩
            rcases List.mem_cons.1 hp with rfl | hp
            · rfl
            · exact h1 p hp
          · exact .inr ⟨⟨p, List.mem_cons_of_mem _ h1, h2⟩, h3⟩
theorem ensV_snoc (l : List En) (x : En) : ensV (l ++ [x]) = ensV l ++ x.cells := by simp [ensV]
theorem ensV_one (l : List En) : ∀ u ∈ ensV l, u.oneCell' = true := by
  intro u hu
  obtain ⟨p, _, h⟩ := List.mem_flatMap.1 hu
  simp only [En.cells, List.mem_cons, List.not_mem_nil, or_false] at h
  rcases h with rfl | rfl <;> rfl
/-! ### The iterator -/
set_option maxRecDepth 20000 in
theorem iter_t (sb : Nat) (s : List UInt8) (hs : s.length ≤ 524288) (w : World) (hsb : Bk w sb 9 [str s]) :
    SeqM 2 Tryd.prog 52 [.pointer (some ⟨sb, 0, none⟩)] (fun x : En × Nat => [.agg x.1.cells.toArray, .int .i64 ((x.2 : Nat) : Int)]) [sb] Env (fun xs => xs = seqT (s.length + 1) s) (fun pre => pre <+: seqT (s.length + 1) s) (s.length + 1) w := fun l J Jx W hW hJ hJx hJG hY h0 => by
  have hb0 : Bk W sb 9 [str s] := hsb.ext hW
  obtain ⟨full, hfull⟩ : ∃ full, full = seqT (s.length + 1) s := ⟨_, rfl⟩
  rw [← hfull]
  have hsl := seqT_len (s.length + 1) s
  rw [← hfull] at hsl
  have hret : Ret Tryd.prog 52 [.func (.yield l) #[] #[], .pointer (some ⟨sb, 0, none⟩)] W fun v W' => (∃ xs, xs = full ∧ J xs W') ∨ (∃ pre, pre <+: full ∧ Jx pre W') := by
    refine Ret.enterR 2 Tryd.func52 rfl Tryd.ntmps52 (by kernel_rfl) rfl ?_
    refine KR.scope (fun _ _ _ h => h) (KR.seq (KR.label (KR.block ?_)))
    refine KR.loop4 (fun (q : (List UInt8)) (f : Nat) (pre : (List EnE)) (wr : World) => J pre wr ∧ Bk wr sb 9 [str q] ∧ q.length < f ∧ q.length ≤ s.length ∧ full = pre ++ seqT f q) (fun (q : (List UInt8)) (f : Nat) (pre : (List EnE)) (wr : World) => [(0, .func (.yield l) #[] #[]), (1, .pointer (some ⟨sb, 0, none⟩))]) (fun (q : (List UInt8)) (f : Nat) (pre : (List EnE)) (wr : World) => wr) (fun (q : (List UInt8)) (f : Nat) (pre : (List EnE)) (wr : World) => q.length) (s) (s.length + 1) ([]) (W) ⟨rfl, rfl, trivial⟩ rfl ?_ ?_
    · exact ⟨h0, hb0, Nat.lt_succ_self _, Nat.le_refl _, hfull⟩
    · rintro q f pre wr ⟨hj, hb, hf, hq, he⟩
      obtain ⟨f, rfl⟩ : ∃ g, f = g + 1 := ⟨f - 1, by omega⟩
      have hG := hJG pre wr hj
      rw [seqT] at he
      have hl1 := congrArg List.length he
      rw [List.length_append] at hl1
      refine KR.block (KR.seq (KR.seq ?_))
      refine KR.cut1 (fun (_u : Unit) => True) (fun (_u : Unit) => [(0, .func (.yield l) #[] #[]), (1, .pointer (some ⟨sb, 0, none⟩)), (17, .bool (isZ q))]) (fun (_u : Unit) => wr) ?_ ?_
      · refine KR.region ?_
        refine OR.val rfl rfl (EX.load Tryd.underlying9 rfl rfl (hb.cell_of rfl)) ?_
        refine OR.val rfl rfl (EX.lenS Tryd.underlying9 rfl) ?_
        refine OR.val rfl rfl (by first | exact EX.geqN (b := 512) rfl rfl | exact EX.geqZ rfl rfl) ?_
        refine OR.val rfl rfl (EX.move rfl) ?_
        refine OR.splitD 13 rfl (fun a1 => ?_) (fun a1 => ?_)
        · skip
          refine OR.val rfl rfl (EX.load Tryd.underlying9 rfl rfl (hb.cell_of rfl)) ?_
          refine OR.val rfl rfl (EX.sliceFH (j := 512) Tryd.underlying9 rfl rfl (by omega)) ?_
          refine OR.call rfl rfl rfl (zero_s (q.take 512) wr) ?_
          rintro _ _ ⟨rfl, rfl⟩
          refine OR.val rfl rfl (EX.pickT rfl rfl) ?_
          refine OR.nil ?_
          refine KR.as 17 (.bool (isZ q)) rfl (congrArg Value.bool (by unfold isZ; rw [Bool.eq_iff_iff, decide_eq_true_eq]; exact ⟨fun h => ⟨by omega, h⟩, fun h => h.2⟩)) ?_
          refine KR.meet1 (()) ⟨rfl, rfl, rfl, trivial⟩ rfl ?_
          trivial
        · refine OR.pass rfl rfl ?_
          refine OR.pass rfl rfl ?_
          refine OR.pass rfl rfl ?_
          refine OR.val rfl rfl (EX.pickF rfl rfl) ?_
          refine OR.nil ?_
          refine KR.as 17 (.bool (isZ q)) rfl (congrArg Value.bool (decide_eq_false (fun h => a1 (by omega))).symm) ?_
          refine KR.meet1 (()) ⟨rfl, rfl, rfl, trivial⟩ rfl ?_
          trivial
      · rintro _ _
        refine KR.cond rfl (fun hz => ?_) (fun hz => ?_)
        · rw [if_pos hz, List.append_nil] at he
          refine KR.ret (retR0 (.inr rfl) rfl rfl rfl ?_)
          exact .inl ⟨pre, he.symm, hj⟩
        · rw [if_neg (by rw [hz]; decide)] at he
          have hHb := head_b q
          have hHe := head_e q
          refine KR.skip (KR.seq (KR.region ?_))
          refine OR.val rfl rfl (EX.load Tryd.underlying9 rfl rfl (hb.cell_of rfl)) ?_
          refine OR.call rfl rfl rfl (header_s q (by omega) wr) ?_
          rintro _ w1 ⟨rfl, hx1⟩
          refine OR.val rfl rfl (EX.move rfl) ?_
          refine OR.val rfl rfl (EX.extract rfl rfl) ?_
          refine OR.val rfl rfl (EX.extract rfl rfl) ?_
          refine OR.allocB (l := [str [], .int .i64 0, .int .u8 0, .int .i64 0, .int .i64 0, str [], str [], str [], .int .i64 0, .int .i64 0]) rfl rfl ti45 rfl ?_
          rintro hb1 w2 hge2 hh2 hx2
          refine OR.storeS rfl ti45 rfl rfl rfl (by first | rfl | (simp only [List.all_cons, List.all_nil, Bool.and_true, Bool.true_and, Bool.and_eq_true, Value.oneCell']; repeat (first | assumption | exact Own.one (by assumption) | constructor))) (hh2) (Nat.le_refl _) ?_
          rintro w3 hh3 hm3
          refine OR.val rfl rfl (EX.assign rfl) ?_
          refine OR.nil ?_
          refine KR.seq (KR.seq ?_)
          replace hh3 : Bk w3 hb1 45 (headT q).1.cells := hh3
          have x3 : Ext wr w3 := below_mo (hx1.trans hx2) hm3 (hx1.trans hx2).size (fun k hk => by simp at hk; have := hx1.size; omega)
          have hb3 := hb.ext x3
          have hj3 : J pre w3 := hJ _ _ _ hj (Mo.of_ext x3 _)
          have hG3 := hG.ext x3
          refine KR.cut1 (fun (_u : Unit) => True) (fun (_u : Unit) => [(0, .func (.yield l) #[] #[]), (1, .pointer (some ⟨sb, 0, none⟩)), (3, .pointer (some ⟨hb1, 0, none⟩)), (4, .int .i64 (((headT q).2 : Nat) : Int)), (34, .bool (isO (headT q)))]) (fun (_u : Unit) => w3) ?_ ?_
          · refine KR.region ?_
            refine OR.val rfl rfl (EX.move rfl) ?_
            refine OR.val rfl rfl (by first | exact EX.eqlN (b := 0) rfl rfl | exact EX.eqlZ rfl rfl) ?_
            refine OR.val rfl rfl (EX.move rfl) ?_
            refine OR.splitD 25 rfl (fun c1 => ?_) (fun c1 => ?_)
            · refine OR.val rfl rfl (EX.fieldAddr (off := 2) Tryd.underlying45 rfl rfl ti5 rfl rfl) ?_
              refine OR.val rfl rfl (EX.load Tryd.underlying5 rfl rfl (hh3.cell_of rfl)) ?_
              refine OR.val rfl rfl (by first | exact EX.eqlN (b := 53) rfl rfl | exact EX.eqlZ rfl rfl) ?_
              refine OR.val rfl rfl (EX.move rfl) ?_
              refine OR.splitD 29 rfl (fun c2 => ?_) (fun c2 => ?_)
              · refine OR.pass rfl rfl ?_
                refine OR.pass rfl rfl ?_
                refine OR.pass rfl rfl ?_
                refine OR.val rfl rfl (EX.pickT rfl rfl) ?_
                refine OR.val rfl rfl (EX.pickT rfl rfl) ?_
                refine OR.nil ?_
                refine KR.as 34 (.bool (isO (headT q))) rfl (congrArg Value.bool (decide_eq_true ⟨by omega, .inl (by omega)⟩).symm) ?_
                refine KR.meet1 (()) ⟨rfl, rfl, rfl, rfl, rfl, trivial⟩ rfl ?_
                trivial
              · refine OR.val rfl rfl (EX.fieldAddr (off := 2) Tryd.underlying45 rfl rfl ti5 rfl rfl) ?_
                refine OR.val rfl rfl (EX.load Tryd.underlying5 rfl rfl (hh3.cell_of rfl)) ?_
                refine OR.val rfl rfl (by first | exact EX.eqlN (b := 103) rfl rfl | exact EX.eqlZ rfl rfl) ?_
                refine OR.val rfl rfl (EX.pickF rfl rfl) ?_
                refine OR.val rfl rfl (EX.pickT rfl rfl) ?_
                refine OR.nil ?_
                refine KR.as 34 (.bool (isO (headT q))) rfl (congrArg Value.bool (decide_eq_decide.2 ⟨fun h => ⟨by omega, .inr (by omega)⟩, fun h => by rcases h.2 with h | h <;> omega⟩)) ?_
                refine KR.meet1 (()) ⟨rfl, rfl, rfl, rfl, rfl, trivial⟩ rfl ?_
                trivial
            · refine OR.pass rfl rfl ?_
              refine OR.pass rfl rfl ?_
              refine OR.pass rfl rfl ?_
              refine OR.pass rfl rfl ?_
              refine OR.pass rfl rfl ?_
              refine OR.pass rfl rfl ?_
              refine OR.pass rfl rfl ?_
              refine OR.pass rfl rfl ?_
              refine OR.val rfl rfl (EX.pickF rfl rfl) ?_
              refine OR.nil ?_
              refine KR.as 34 (.bool (isO (headT q))) rfl (congrArg Value.bool (decide_eq_false (fun h => c1 (by have := h.1; omega))).symm) ?_
              refine KR.meet1 (()) ⟨rfl, rfl, rfl, rfl, rfl, trivial⟩ rfl ?_
              trivial
          · rintro _ _
            have hyl : pre.length < s.length + 1 → ∀ (x : En × Nat) (wy : World), J pre wy → YieldR Tryd.prog 1 l [.agg x.1.cells.toArray, .int .i64 ((x.2 : Nat) : Int)] wy fun v W' => ∃ b, v = .bool b ∧ ((b = true ∧ J (pre ++ [x]) W' ∧ W'.heap[sb]? = wy.heap[sb]?) ∨ (b = false ∧ Jx (pre ++ [x]) W')) := fun hlen x wy hjy =>
              YieldAt.mono (hY pre x wy hjy hlen) (by
                rintro e W' ⟨v, rfl, ⟨rfl, h1, h2⟩ | ⟨rfl, h1⟩⟩
                · exact ⟨_, rfl, true, rfl, .inl ⟨rfl, h1, h2 sb (by simp)⟩⟩
                · exact ⟨_, rfl, false, rfl, .inr ⟨rfl, h1⟩⟩)
            have fin : ∀ (x : En × Nat) (W' : World), full = pre ++ [x] → (J (pre ++ [x]) W' ∨ Jx (pre ++ [x]) W') → ((∃ xs, xs = full ∧ J xs W') ∨ (∃ pre, pre <+: full ∧ Jx pre W')) := fun x W' h1 h2 => by
              rcases h2 with h2 | h2
              · exact .inl ⟨_, h1.symm, h2⟩
              · exact .inr ⟨_, ⟨[], by rw [h1, List.append_nil]⟩, h2⟩
            have hb1sb : hb1 ≠ sb := by have := hb.lt; have := hx1.size; omega
            refine KR.cut2 (fun (e : Nat) (wc : World) => (e = 0 ∧ (headT q).2 = 0 ∧ isO (headT q) = false ∨ e = 180 ∧ full = pre ++ [(en0, 180)]) ∧ Ext w3 wc) (fun (e : Nat) (wc : World) => [(0, .func (.yield l) #[] #[]), (1, .pointer (some ⟨sb, 0, none⟩)), (4, .int .i64 ((e : Nat) : Int))]) (fun (e : Nat) (wc : World) => wc) ?_ ?_
            · refine KR.cond rfl (fun ho => ?_) (fun ho => ?_)
              · rw [if_pos ho] at he
                have hok := of_decide_eq_true ho
                obtain ⟨m, hm1, hm2⟩ := hHb.size
                have hmn : (headT q).1.size.toNat = m := by omega
                rw [hmn] at he
                have hd := fun w => data_s q (by omega) m hm2 w
                have hdl := dataT_le q m
                have hdp := dataT_pos (s := q) (n := m)
                generalize (dataT q m).1 = rec at hd
                generalize (dataT q m).2.1 = n at hd he hdl hdp
                generalize (dataT q m).2.2 = ok at hd he hdp
                refine KR.seq (KR.region ?_)
                refine OR.val rfl rfl (EX.load Tryd.underlying9 rfl rfl (hb3.cell_of rfl)) ?_
                refine OR.val rfl rfl (EX.fieldAddr (off := 1) Tryd.underlying45 rfl rfl ti3 rfl rfl) ?_
                refine OR.val rfl rfl (EX.load Tryd.underlying3 rfl rfl (hh3.cell_of rfl)) ?_
                refine OR.as 38 (.int .i64 ((m : Nat) : Int)) rfl (congrArg (Value.int .i64) hm1) ?_
                refine OR.call rfl rfl rfl (hd w3) ?_
                rintro _ w4 ⟨rfl, hx4⟩
                refine OR.val rfl rfl (EX.move rfl) ?_
                refine OR.val rfl rfl (EX.extract rfl rfl) ?_
                refine OR.val rfl rfl (EX.extract rfl rfl) ?_
                refine OR.val rfl rfl (EX.extract rfl rfl) ?_
                refine OR.val rfl rfl (EX.assign rfl) ?_
                refine OR.val rfl rfl (EX.assign rfl) ?_
                refine OR.val rfl rfl (EX.assign rfl) ?_
                refine OR.nil ?_
                refine KR.seq (KR.seq (KR.region ?_))
                refine OR.val rfl rfl (EX.move rfl) ?_
                refine OR.nil ?_
                have hb4 := hb3.ext hx4
                have hj4 : J pre w4 := hJ _ _ _ hj3 (Mo.of_ext hx4 _)
                rcases ok with _ | _
                · refine KR.condF rfl (KR.skip (KR.region ?_))
                  refine OR.val rfl rfl (EX.assign rfl) ?_
                  refine OR.nil ?_
                  refine KR.meet2 (180) (w4) ⟨rfl, rfl, rfl, trivial⟩ rfl ?_
                  exact ⟨.inr ⟨rfl, by rw [he, if_neg (by decide)]⟩, hx4⟩
                · refine KR.condT rfl (KR.seq (KR.region ?_))
                  rw [if_pos rfl] at he
                  have hn := hdp rfl
                  refine OR.val rfl rfl (EX.load Tryd.underlying9 rfl rfl (hb4.cell_of rfl)) ?_
                  refine OR.val rfl rfl (EX.move rfl) ?_
                  refine OR.val rfl rfl (EX.sliceLE Tryd.underlying9 rfl rfl (by omega)) ?_
                  refine OR.storeB rfl ti9 rfl rfl (by first | rfl | assumption | exact Own.one (by assumption)) (hb4) (Nat.le_refl _) ?_
                  rintro w5 hb5 hm5
                  refine OR.nil ?_
                  refine KR.exit rfl ?_
                  refine KR.back4 (q.drop n) (f) (pre) (w5) ⟨rfl, rfl, trivial⟩ rfl ?_ (by rw [List.length_drop]; omega)
                  exact ⟨hJ _ _ _ hj4 hm5, hb5, by rw [List.length_drop]; omega, by rw [List.length_drop]; omega, he⟩
              · rw [if_neg (by rw [ho]; decide)] at he
                refine KR.skip ?_
                refine KR.meet2 ((headT q).2) (w3) ⟨rfl, rfl, rfl, trivial⟩ rfl ?_
                refine ⟨?_, Ext.refl _⟩
                rcases hHe with h | ⟨h, _⟩
                · exact .inl ⟨h, h, ho⟩
                · exact .inr ⟨h, by rw [he, if_pos (.inl (by omega))]⟩
            · rintro e wc ⟨hcase, hxc⟩
              have xc := x3.trans hxc
              have hbc := hb3.ext hxc
              have hjc : J pre wc := hJ _ _ _ hj3 (Mo.of_ext hxc _)
              have hGc := hG3.ext hxc
              refine KR.seq (KR.region ?_)
              refine OR.val rfl rfl (EX.buildS (pl := [(0, 1), (1, 1)]) (ks := []) (is := []) (zs := [str [], str []]) Tryd.underlying24 ti24 (by kernel_rfl) rfl rfl rfl (by first | rfl | (simp only [List.all_cons, List.all_nil, Bool.and_true, Bool.true_and, Bool.and_eq_true, Value.oneCell']; repeat (first | assumption | exact Own.one (by assumption) | constructor))) (by simp only [setAll, List.set_cons_zero, List.set_cons_succ]; rfl)) ?_
              refine OR.allocB (l := [str [], str []]) rfl rfl ti24 rfl ?_
              rintro xb w6 hge6 hx6b hx6
              refine OR.storeS rfl ti24 rfl rfl rfl (by first | rfl | (simp only [List.all_cons, List.all_nil, Bool.and_true, Bool.true_and, Bool.and_eq_true, Value.oneCell']; repeat (first | assumption | exact Own.one (by assumption) | constructor))) (hx6b) (Nat.le_refl _) ?_
              rintro w7 hx7b hm7
              refine OR.val rfl rfl (EX.assign rfl) ?_
              refine OR.nil ?_
              refine KR.seq (KR.seq (KR.region ?_))
              refine OR.val rfl rfl (EX.move rfl) ?_
              refine OR.val rfl rfl (by first | exact EX.eqlN (b := 0) rfl rfl | exact EX.eqlZ rfl rfl) ?_
              refine OR.nil ?_
              replace hx7b : Bk w7 xb 24 en0.cells := hx7b
              have x7 : Ext wc w7 := below_mo hx6 hm7 hx6.size (fun k hk => by simp at hk; omega)
              have hb7 := hbc.ext x7
              have hj7 : J pre w7 := hJ _ _ _ hjc (Mo.of_ext x7 _)
              refine KR.cut4 (fun (x : En) (n : Nat) (ee : Nat) (wy : World) => ((ee = 0 ∧ 512 ≤ n ∧ n ≤ q.length ∧ full = pre ++ (x, 0) :: seqT f (q.drop n)) ∨ (ee = 180 ∧ x = en0 ∧ full = pre ++ [(en0, 180)])) ∧ Bk wy xb 24 x.cells ∧ Ext wc wy) (fun (x : En) (n : Nat) (ee : Nat) (wy : World) => [(0, .func (.yield l) #[] #[]), (1, .pointer (some ⟨sb, 0, none⟩)), (4, .int .i64 ((ee : Nat) : Int)), (8, .pointer (some ⟨xb, 0, none⟩)), (9, .int .i64 ((n : Nat) : Int))]) (fun (x : En) (n : Nat) (ee : Nat) (wy : World) => wy) ?_ ?_
              · refine KR.condD rfl (fun hzz => ?_) (fun hzz => ?_)
                · obtain ⟨rfl, e2, e3⟩ : e = 0 ∧ (headT q).2 = 0 ∧ isO (headT q) = false := by
                    rcases hcase with h | ⟨h, _⟩
                    · exact h
                    · omega
                  rw [if_neg (by rw [e3]; decide)] at he
                  have c1 := read_s q (by omega) w7 (hGc.ext x7)
                  refine KR.region ?_
                  refine OR.val rfl rfl (EX.load Tryd.underlying9 rfl rfl (hb7.cell_of rfl)) ?_
                  refine OR.call rfl rfl rfl (c1) ?_
                  rintro _ w8 ⟨rfl, hx8⟩
                  refine OR.val rfl rfl (EX.move rfl) ?_
                  refine OR.val rfl rfl (EX.extract rfl rfl) ?_
                  refine OR.val rfl rfl (EX.extract rfl rfl) ?_
                  refine OR.val rfl rfl (EX.extract rfl rfl) ?_
                  refine OR.storeS rfl ti24 rfl rfl rfl (by first | rfl | (simp only [List.all_cons, List.all_nil, Bool.and_true, Bool.true_and, Bool.and_eq_true, Value.oneCell']; repeat (first | assumption | exact Own.one (by assumption) | constructor))) ((hx7b.ext hx8)) (Nat.le_refl _) ?_
                  rintro w9 hx9b hm9
                  refine OR.val rfl rfl (EX.assign rfl) ?_
                  refine OR.val rfl rfl (EX.assign rfl) ?_
                  refine OR.nil ?_
                  replace hx9b : Bk w9 xb 24 (readT q).1.cells := hx9b
                  have x9 : Ext wc w9 := below_mo (x7.trans hx8) hm9 (x7.trans hx8).size (fun k hk => by simp at hk; omega)
                  refine KR.meet4 ((readT q).1) ((readT q).2.1) ((readT q).2.2) (w9) ⟨rfl, rfl, rfl, rfl, rfl, trivial⟩ rfl ?_
                  refine ⟨?_, hx9b, x9⟩
                  rcases readT_e q with h | h
                  · have hp := readT_pos h
                    exact .inl ⟨h, hp.1, hp.2, by rw [he, if_neg (by omega)]⟩
                  · exact .inr ⟨by rw [h], by rw [h], by rw [he, if_pos (.inr (by rw [h]; decide))]⟩
                · obtain ⟨rfl, hlast⟩ : e = 180 ∧ full = pre ++ [(en0, 180)] := by
                    rcases hcase with ⟨h, _⟩ | h
                    · exact absurd (by omega) hzz
                    · exact h
                  refine KR.skip ?_
                  refine KR.meet4 (en0) (0) (180) (w7) ⟨rfl, rfl, rfl, rfl, rfl, trivial⟩ rfl ?_
                  exact ⟨.inr ⟨rfl, rfl, hlast⟩, hx7b, x7⟩
              · rintro x n ee wy ⟨hc2, hxb, hxy⟩
                have hby := hbc.ext hxy
                have hjy : J pre wy := hJ _ _ _ hjc (Mo.of_ext hxy _)
                have hlen : pre.length < s.length + 1 := by
                  have hl2 := hsl
                  rcases hc2 with ⟨_, _, _, h⟩ | ⟨_, _, h⟩ <;> (rw [h] at hl2; simp only [List.length_append, List.length_cons] at hl2; omega)
                refine KR.seq (KR.seq ?_)
                refine KR.region ?_
                refine OR.val rfl rfl (EX.move rfl) ?_
                refine OR.val rfl rfl (EX.loadBk Tryd.underlying24 rfl ti24 rfl (hxb) (rfl)) ?_
                refine OR.val rfl rfl (EX.move rfl) ?_
                refine OR.yield2 rfl rfl rfl rfl rfl rfl (hyl hlen (x, ee) wy hjy) ?_
                rintro _ wz ⟨y, rfl, hv⟩
                refine OR.val rfl rfl (by first | exact EX.notD rfl | exact EX.notB rfl) ?_
                refine OR.val rfl rfl (EX.move rfl) ?_
                rcases y with _ | _
                · obtain ⟨_, hjz⟩ : false = false ∧ Jx (pre ++ [(x, ee)]) wz := by
                    rcases hv with ⟨h, _⟩ | h
                    · cases h
                    · exact h
                  refine OR.pass rfl rfl ?_
                  refine OR.pass rfl rfl ?_
                  refine OR.val rfl rfl (EX.pickT rfl rfl) ?_
                  refine OR.nil ?_
                  refine KR.condT rfl ?_
                  refine KR.ret (retR0 (.inr rfl) rfl rfl rfl ?_)
                  rcases hc2 with ⟨rfl, _, _, h⟩ | ⟨rfl, rfl, h⟩
                  · exact .inr ⟨_, ⟨seqT f (q.drop n), by rw [h]; simp⟩, hjz⟩
                  · exact fin _ _ h (.inr hjz)
                · obtain ⟨_, hjz, hkz⟩ : true = true ∧ J (pre ++ [(x, ee)]) wz ∧ wz.heap[sb]? = wy.heap[sb]? := by
                    rcases hv with h | ⟨h, _⟩
                    · exact h
                    · cases h
                  refine OR.val rfl rfl (EX.move rfl) ?_
                  refine OR.val rfl rfl (by first | exact EX.neqN (b := 0) rfl rfl | exact EX.neqZ rfl rfl) ?_
                  refine OR.val rfl rfl (EX.pickF rfl rfl) ?_
                  refine OR.nil ?_
                  have hbz : Bk wz sb 9 [str q] := hby.of_block hkz
                  refine KR.condD rfl (fun hee => ?_) (fun hee => ?_)
                  · skip
                    refine KR.ret (retR0 (.inr rfl) rfl rfl rfl ?_)
                    rcases hc2 with ⟨rfl, _⟩ | ⟨rfl, rfl, h⟩
                    · omega
                    · exact fin _ _ h (.inl hjz)
                  · obtain ⟨rfl, hn1, hn2, h⟩ : ee = 0 ∧ 512 ≤ n ∧ n ≤ q.length ∧ full = pre ++ (x, 0) :: seqT f (q.drop n) := by
                      rcases hc2 with h | ⟨h, _⟩
                      · exact h
                      · omega
                    refine KR.skip (KR.region ?_)
                    refine OR.val rfl rfl (EX.load Tryd.underlying9 rfl rfl (hbz.cell_of rfl)) ?_
                    refine OR.val rfl rfl (EX.move rfl) ?_
                    refine OR.val rfl rfl (EX.sliceLE Tryd.underlying9 rfl rfl (by omega)) ?_
                    refine OR.storeB rfl ti9 rfl rfl (by first | rfl | assumption | exact Own.one (by assumption)) (hbz) (Nat.le_refl _) ?_
                    rintro wq hbq hmq
                    refine OR.nil ?_
                    refine KR.leave ?_
                    refine KR.back4 (q.drop n) (f) (pre ++ [(x, 0)]) (wq) ⟨rfl, rfl, trivial⟩ rfl ?_ (by rw [List.length_drop]; omega)
                    exact ⟨hJ _ _ _ hjz hmq, hbq, by rw [List.length_drop]; omega, by rw [List.length_drop]; omega, by rw [h]; simp⟩
  exact callsIn_wide.2 (hret.2.mono fun e W' ⟨v, he, hq⟩ => ⟨⟨v, he⟩, hq⟩)
end Go.Proofs.YtjgeoeeikfjmdaaDoor
/- tar: Unpack. -/
namespace Go.Proofs.YtjgeoeeikfjmdaaDoor
set_option linter.unnecessarySimpa false
open Go.RowKit Fld Ust Pax Pth Tar
set_option linter.unusedVariables false
set_option linter.unusedSimpArgs false

theorem files_s (s : List UInt8) (w : World) : Ret Tryd.prog 35 [str s] w fun v w' => ∃ sb, v = .func (.func 52) #[] #[.pointer (some ⟨sb, 0, none⟩)] ∧ w.heap.size ≤ sb ∧ Bk w' sb 9 [str s] ∧ Ext w w' := by
  refine Ret.enter Tryd.func35 rfl Tryd.ntmps35 (by kernel_rfl) rfl ?_
  refine KW.seq (KW.region ?_)
  refine OW.boxB rfl rfl rfl rfl ?_
  rintro sb w1 hge1 hb1 hx1
  refine OW.val rfl rfl (EX.assign rfl) ?_
  refine OW.nil ?_
  refine KW.seq (KW.region ?_)
  refine OW.val rfl rfl (EX.makeFunc rfl rfl) ?_
  refine OW.val rfl rfl (EX.assign rfl) ?_
  refine OW.nil ?_
  refine KW.ret (ret1 rfl rfl ?_)
  exact ⟨sb, rfl, hge1, hb1, hx1⟩
theorem seqT_e : ∀ (f : Nat) (s : List UInt8), ∀ p ∈ seqT f s, p.2 = 0 ∨ p.2 = 180
  | 0, _, p, hp => by simp [seqT] at hp
  | f + 1, s, p, hp => by
    rw [seqT] at hp
    split at hp
    · cases hp
    · split at hp
      · split at hp
        · exact seqT_e f _ p hp
        · simp only [List.mem_singleton] at hp
          subst hp
          exact .inr rfl
      · split at hp
        · simp only [List.mem_singleton] at hp
          subst hp
          exact .inr rfl
        · rcases List.mem_cons.1 hp with rfl | hp
          · exact .inl rfl
          · exact seqT_e f _ p hp
theorem unpackT_ok {s : List UInt8} (hs : ¬ 524288 < s.length) (h : ∀ p ∈ seqT (s.length + 1) s, p.2 = 0) : unpackT s = ((seqT (s.length + 1) s).map (·.1), 0) := by
  unfold unpackT
  rw [if_neg hs]
  rcases unp_seq (s.length + 1) s [] (Nat.lt_succ_self _) with ⟨_, h2⟩ | ⟨⟨p, h1, h2⟩, _⟩
  · rw [h2]; rfl
  · exact absurd (h p h1) h2
theorem unpackT_bad {s : List UInt8} (hs : ¬ 524288 < s.length) {p : En × Nat} (hp : p ∈ seqT (s.length + 1) s) (h : p.2 ≠ 0) : unpackT s = ([], 180) := by
  unfold unpackT
  rw [if_neg hs]
  rcases unp_seq (s.length + 1) s [] (Nat.lt_succ_self _) with ⟨h1, _⟩ | ⟨_, h2⟩
  · exact absurd (h1 p hp) h
  · exact h2
set_option maxRecDepth 20000 in
theorem unpack_s (s : List UInt8) (hs : s.length ≤ 140737488355328) (w : World) (hG : Env w) :
    Ret Tryd.prog 13 [str s] w fun v w' => ∃ u, v = .tuple #[u, .int .i64 (((unpackT s).2 : Nat) : Int)] ∧ Own w' w.heap.size 24 2 u (unpackT s).1.length (ensV (unpackT s).1) ∧ Ext w w' := by
  refine Ret.enterR 3 Tryd.func13 rfl Tryd.ntmps13 (by kernel_rfl) rfl ?_
  refine KR.seq (KR.region ?_)
  refine OR.allocB (l := [.slice none 0 0]) rfl rfl ti31 rfl ?_
  rintro tb w1 hge1 ht1 hx1
  refine OR.allocB (l := [.int .i64 0]) rfl rfl ti25 rfl ?_
  rintro eb w2 hge2 he2 hx2
  refine OR.nil ?_
  refine KR.seq (KR.seq (KR.region ?_))
  refine OR.val rfl rfl (EX.move rfl) ?_
  refine OR.val rfl rfl (EX.lenS Tryd.underlying9 rfl) ?_
  refine OR.val rfl rfl (by first | exact EX.gtrN (b := 524288) rfl rfl | exact EX.gtrZ rfl rfl) ?_
  refine OR.nil ?_
  have ht2 := ht1.ext hx2
  have x2 := hx1.trans hx2
  have hlt1 := ht1.lt
  have nte : tb ≠ eb := by omega
  refine KR.condD rfl (fun hbig => ?_) (fun hbig => ?_)
  · have e : unpackT s = ([], 3) := by unfold unpackT; rw [if_pos (by omega)]
    refine KR.seq (KR.region ?_)
    refine OR.storeB rfl ti31 rfl rfl (by first | rfl | assumption | exact Own.one (by assumption)) (ht2) (Nat.le_refl _) ?_
    rintro w3 ht3 hm3
    have he3 := he2.mo hm3 (by simp; exact Ne.symm nte)
    refine OR.storeB rfl ti25 rfl rfl (by first | rfl | assumption | exact Own.one (by assumption)) (he3) (Nat.le_refl _) ?_
    rintro w4 he4 hm4
    refine OR.nil ?_
    have ht4 := ht3.mo hm4 (by simp; exact nte)
    refine KR.ret (retRC2 (.inr rfl) rfl rfl rfl Tryd.underlying31 rfl Tryd.underlying25 rfl rfl rfl (ht4) (he4) ?_)
    rw [e]
    exact ⟨_, rfl, Own.nil _ _ _ _, below_mo (below_mo x2 hm3 x2.size (fun k hk => by simp at hk; omega)) hm4 (Nat.le_trans x2.size hm3.size) (fun k hk => by simp at hk; have := hx1.size; omega)⟩
  · have hs2 : s.length ≤ 524288 := by omega
    refine KR.skip (KR.seq (KR.region ?_))
    refine OR.allocB (l := [.slice none 0 0]) rfl rfl ti31 rfl ?_
    rintro ob w3 hge3 ho3 hx3
    refine OR.nil ?_
    refine KR.seq (KR.seq (KR.region ?_))
    refine OR.val rfl rfl (EX.move rfl) ?_
    refine OR.call rfl rfl rfl (files_s s w3) ?_
    rintro _ w4 ⟨sb, rfl, hsge, hsb, hx4⟩
    refine OR.nil ?_
    refine KR.block ?_
    have x4 := (x2.trans hx3).trans hx4
    have ht4 := (ht2.ext hx3).ext hx4
    have he4 := (he2.ext hx3).ext hx4
    have ho4 := ho3.ext hx4
    have z1 := hx1.size
    have z2 := hx2.size
    have z3 := hx3.size
    have z4 := hx4.size
    have l1 := ht1.lt
    have l2 := he2.lt
    have l3 := ho3.lt
    have l4 := hsb.lt
    have hSge : ∀ k ∈ [sb], w.heap.size ≤ k := fun k hk => by simp at hk; omega
    have not_sb : ∀ k, k ∉ [sb] ↔ k ≠ sb := fun k => by simp
    refine KR.rangeM rfl (Nat.le_add_left _ _) Tryd.func52 (by kernel_rfl) rfl rfl rfl rfl rfl (by decide) (by decide) (by decide) ti24 rfl (fun x : En × Nat => x.1.cells) (fun x : En × Nat => .int .i64 ((x.2 : Nat) : Int)) (fun _ => rfl) (fun _ => rfl) (fun k hk => by simp at hk; omega) (iter_t sb s hs2 w4 hsb) (fun (pre : List (En × Nat)) W => ∃ v, Bk W ob 31 [v] ∧ Own W w.heap.size 24 2 v pre.length (ensV (pre.map Prod.fst)) ∧ (∀ k, v.ownBlock = some k → k ≠ sb) ∧ (∀ p ∈ pre, p.2 = 0) ∧ Bk W tb 31 [.slice none 0 0] ∧ Bk W eb 25 [.int .i64 0] ∧ Ext w W ∧ w4.heap.size ≤ W.heap.size) (fun c (pre : List (En × Nat)) W => c = .ret ∧ ∃ p ∈ pre, p.2 ≠ 0 ∧ Bk W tb 31 [.slice none 0 0] ∧ Bk W eb 25 [.int .i64 ((p.2 : Nat) : Int)] ∧ Ext w W) (fun pre A B T h hm hT => let ⟨v, h1, h2, h3, h4, h5, h6, h7, h8⟩ := h; ⟨v, h1.abd hm hT (by simp; omega), h2.abd hm hT (fun k hk => by simp; exact h3 k hk), h3, h4, h5.abd hm hT (by simp; omega), h6.abd hm hT (by simp; omega), below_mo h7 hm h7.size (abd_ge hT hSge (by omega)), Nat.le_trans h8 hm.size⟩) (fun c pre A B T h hm hT => let ⟨h1, p, h2, h3, h4, h5, h6⟩ := h; ⟨h1, p, h2, h3, h4.abd hm hT (by simp; omega), h5.abd hm hT (by simp; omega), below_mo h6 hm h6.size (abd_ge hT hSge (by omega))⟩) (fun pre W h => let ⟨_, _, _, _, _, _, _, h7, _⟩ := h; hG.ext h7) (⟨_, ho4, Own.nil _ _ _ _, (fun k hk => by simp [Value.ownBlock] at hk), (fun p hp => by cases hp), ht4, he4, x4, Nat.le_refl _⟩) ?_ ?_ ?_
    · rintro l pre x b W ⟨v, h1, h2, h3, h4, h5, h6, h7, h8⟩ hlen hbge hbk
      refine KR.block (KR.seq (KR.seq (KR.region ?_)))
      refine OR.val rfl rfl (EX.move rfl) ?_
      refine OR.val rfl rfl (by first | exact EX.neqN (b := 0) rfl rfl | exact EX.neqZ rfl rfl) ?_
      refine OR.nil ?_
      refine KR.condD rfl (fun hee => ?_) (fun hee => ?_)
      · refine KR.seq (KR.region ?_)
        refine OR.val rfl rfl (EX.move rfl) ?_
        refine OR.storeB rfl ti31 rfl rfl (by first | rfl | assumption | exact Own.one (by assumption)) (h5) (Nat.le_refl _) ?_
        rintro W2 h5' hm5
        have h6' := h6.mo hm5 (by simp; exact Ne.symm nte)
        refine OR.storeB rfl ti25 rfl rfl (by first | rfl | assumption | exact Own.one (by assumption)) (h6') (Nat.le_refl _) ?_
        rintro W3 h6'' hm6
        refine OR.nil ?_
        have h5'' := h5'.mo hm6 (by simp; exact nte)
        refine KR.ret ?_
        refine fun _ _ => ⟨(hm5.keeps (fun k hk => by simp at hk; subst hk; exact ⟨_, _, h5⟩)).trans (hm6.keeps (fun k hk => by simp at hk; subst hk; exact ⟨_, _, h6'⟩)), rfl, x, by simp, fun z => hee (by omega), h5'', h6'', ?_⟩
        exact below_mo (below_mo h7 hm5 h7.size (fun k hk => by simp at hk; omega)) hm6 (Nat.le_trans h7.size hm5.size) (fun k hk => by simp at hk; omega)
      · have hx0 : x.2 = 0 := by omega
        refine KR.skip (KR.region ?_)
        refine OR.val rfl rfl (EX.load Tryd.underlying31 rfl rfl (h1.cell_of rfl)) ?_
        refine OR.val rfl rfl (EX.loadBk Tryd.underlying24 rfl ti24 rfl (hbk) (rfl)) ?_
        refine OR.pushSB (w.heap.size) rfl rfl (fun _ => rfl) rfl Tryd.underlying31 ti24 rfl (by decide) (by decide) rfl rfl (fun _ => rfl) (by first | rfl | assumption | (simp only [List.all_cons, List.all_nil, Bool.and_true, Bool.true_and, Bool.and_eq_true, Value.oneCell']; repeat (first | assumption | constructor))) (h7.size) (h2) (by simp only [maxLen]; omega) (by omega) ?_
        rintro _ v2 W2 hown2 hmo2 hblk2
        have nb1 : ob ∉ v.ownBlock.toList := fun q => h2.ne h1 (by decide) ob (by simpa using q) rfl
        have nb2 : tb ∉ v.ownBlock.toList := fun q => h2.ne h5 (by decide) tb (by simpa using q) rfl
        have nb3 : eb ∉ v.ownBlock.toList := fun q => h2.ne h6 (by decide) eb (by simpa using q) rfl
        have nb4 : sb ∉ v.ownBlock.toList := fun q => h3 sb (by simpa using q) rfl
        have h1b := h1.mo hmo2 nb1
        refine OR.storeB rfl ti31 rfl rfl (by first | rfl | assumption | exact Own.one (by assumption)) (h1b) (Nat.le_refl _) ?_
        rintro W3 h1c hm3
        refine OR.nil ?_
        refine KR.leave ?_
        refine KR.done ?_
        have k1 : KeepsOthers W W2 := hmo2.keeps (fun k hk => by obtain ⟨_, q, hb⟩ := h2.blkT k (by simpa using hk); exact ⟨_, _, hb⟩)
        have k2 : KeepsOthers W2 W3 := hm3.keeps (fun k hk => by simp at hk; subst hk; exact ⟨_, _, h1b⟩)
        refine fun _ _ => ⟨k1.trans k2, fun k hk => ?_, v2, h1c, ?_, ?_, ?_, (h5.mo hmo2 nb2).mo hm3 (by simp; omega), (h6.mo hmo2 nb3).mo hm3 (by simp; omega), ?_, Nat.le_trans h8 (Nat.le_trans hmo2.size hm3.size)⟩
        · simp only [List.mem_singleton] at hk
          rw [hk]
          exact (hm3.block sb (by have := hmo2.size; omega) (by simp; omega)).trans (hmo2.block sb (by omega) nb4)
        · rw [List.length_append, List.map_append, List.map_singleton, ensV_snoc]
          exact hown2.mo hm3 (fun k hk => by simp; exact fun z => hown2.ne h1b (by decide) k hk z.symm)
        · intro k hk
          rcases hblk2 with q | ⟨g, q1, q2⟩
          · exact h3 k (by rw [← q]; exact hk)
          · rw [q1] at hk
            cases hk
            omega
        · intro p hp
          rcases List.mem_append.1 hp with hp | hp
          · exact h4 p hp
          · simp only [List.mem_singleton] at hp
            subst hp
            exact hx0
        · exact below_mo (below_mo h7 hmo2 h7.size (fun k hk => (h2.lt k (Option.mem_toList.1 hk)).1)) hm3 (Nat.le_trans h7.size hmo2.size) (fun k hk => by simp at hk; omega)
    · rintro D xs W hD rfl ⟨v, h1, h2, h3, h4, h5, h6, h7, h8⟩ hK
      have e := unpackT_ok (by omega) h4
      refine KR.leave (KR.seq (KR.region ?_))
      refine OR.val rfl rfl (EX.load Tryd.underlying31 rfl rfl (h1.cell_of rfl)) ?_
      refine OR.storeB rfl ti31 rfl rfl (by first | rfl | assumption | exact Own.one (by assumption)) (h5) (Nat.le_refl _) ?_
      rintro W2 h5' hm5
      have h6' := h6.mo hm5 (by simp; exact Ne.symm nte)
      refine OR.storeB rfl ti25 rfl rfl (by first | rfl | assumption | exact Own.one (by assumption)) (h6') (Nat.le_refl _) ?_
      rintro W3 h6'' hm6
      refine OR.nil ?_
      have h5'' := h5'.mo hm6 (by simp; exact nte)
      have hK2 : W3.heap[D]? = some (.deferred (some [])) := by
        have hDl := (Array.getElem?_eq_some_iff.1 hK).1
        exact (hm6.block D (by have := hm5.size; omega) (by simp; omega)).trans ((hm5.block D hDl (by simp; omega)).trans hK)
      refine KR.ret (retMC2 (.inr rfl) rfl rfl (hK2) rfl Tryd.underlying31 rfl Tryd.underlying25 rfl rfl rfl (h5'') (h6'') ?_)
      rw [e]
      refine ⟨v, rfl, ?_, Ext.putObj (below_mo (below_mo h7 hm5 h7.size (fun k hk => by simp at hk; omega)) hm6 (Nat.le_trans h7.size hm5.size) (fun k hk => by simp at hk; omega)) (by omega) _⟩
      have ho3 := (h2.mo hm5 (fun k hk => by simp; exact fun z => h2.ne h5 (by decide) k hk z.symm)).mo hm6 (fun k hk => by simp; exact fun z => h2.ne h6 (by decide) k hk z.symm)
      rw [List.length_map]
      exact ho3.mo (mo_putObj W3 D _) (fun k hk => by
        simp only [List.mem_singleton]
        rintro rfl
        obtain ⟨_, l, fr, q, _⟩ := ho3.blkT k hk
        rw [hK2] at q
        cases q)
    · rintro D c pre W hD hpre ⟨rfl, p, h2, h3, h4, h5, h6⟩ hK
      have hmem : p ∈ seqT (s.length + 1) s := hpre.subset h2
      have e := unpackT_bad (by omega) hmem h3
      have h180 : p.2 = 180 := by
        rcases seqT_e _ _ p hmem with q | q
        · exact absurd q h3
        · exact q
      rw [h180] at h5
      refine KR.ret (retMC2 (.inr rfl) rfl rfl (hK) rfl Tryd.underlying31 rfl Tryd.underlying25 rfl rfl rfl (h4) (h5) ?_)
      rw [e]
      exact ⟨_, rfl, Own.nil _ _ _ _, Ext.putObj h6 (by omega) _⟩
end Go.Proofs.YtjgeoeeikfjmdaaDoor
/- tar: Pack; what the statements begin with. -/
namespace Go.Proofs.YtjgeoeeikfjmdaaDoor
set_option linter.unnecessarySimpa false
open Go.RowKit Fld Ust Pax Pth Tar
set_option linter.unusedVariables false
set_option linter.unusedSimpArgs false

/-! ### In plain words -/
def hv : List En → Nat
  | [] => 0
  | x :: l => x.path.length + x.data.length + 1000 + hv l
theorem hv_append : ∀ (a b : List En), hv (a ++ b) = hv a + hv b
  | [], b => by simp [hv]
  | x :: a, b => by
    have := hv_append a b
    simp only [List.cons_append, hv]
    omega
theorem hv_take (l : List En) (i : Nat) : hv (l.take i) ≤ hv l := by
  have := hv_append (l.take i) (l.drop i)
  rw [List.take_append_drop] at this
  omega
theorem hv_mem : ∀ {l : List En} {x : En}, x ∈ l → x.path.length + x.data.length + 1000 ≤ hv l
  | y :: l, x, h => by
    simp only [hv]
    rcases List.mem_cons.1 h with rfl | h
    · omega
    · have := hv_mem h; omega
set_option maxRecDepth 20000 in
theorem hv_len : ∀ (l : List En), l.length * 1000 ≤ hv l
  | [] => by simp [hv]
  | x :: l => by
    have := hv_len l
    simp only [hv, List.length_cons]
    omega
def okL (l : List En) : Prop := ∀ x ∈ l, checkP x.path = 0 ∧ x.data.length ≤ 262144
set_option maxRecDepth 20000 in
theorem cat_le : ∀ (l : List En), okL l → (catT l).length ≤ 3 * hv l
  | [], _ => by simp [catT]
  | x :: l, h => by
    have h1 := ent_len (h x (by simp)).1 (h x (by simp)).2
    have h2 := cat_le l (fun y hy => h y (by simp [hy]))
    have e : (catT (x :: l)).length = (entT x).length + (catT l).length := by rw [show catT (x :: l) = entT x ++ catT l from rfl, List.length_append]
    have e2 : hv (x :: l) = x.path.length + x.data.length + 1000 + hv l := rfl
    generalize (catT (x :: l)).length = q1 at *
    generalize (catT l).length = q3 at *
    generalize (entT x).length = q4 at *
    generalize hv (x :: l) = q5 at *
    generalize hv l = q6 at *
    omega
theorem catT_snoc (l : List En) (x : En) : catT (l ++ [x]) = catT l ++ entT x := by simp [catT]
theorem errT_ok {l : List En} (h : okL l) : errT l = 0 := by
  induction l with
  | nil => rfl
  | cons x l ih =>
    have hx := h x (by simp)
    unfold errT
    rw [if_neg (by omega), if_neg (by omega)]
    exact ih fun y hy => h y (by simp [hy])
theorem errT_at {l : List En} {i : Nat} (hi : i < l.length) (h : okL (l.take i)) (he : (entE l[i]).2 ≠ 0) : errT l = (entE l[i]).2 := by
  induction l generalizing i with
  | nil => simp at hi
  | cons x l ih =>
    cases i with
    | zero =>
      simp only [List.getElem_cons_zero] at he ⊢
      unfold errT entE at *
      by_cases c : checkP x.path = 0
      · rw [if_neg (by omega)] at he ⊢
        by_cases c2 : 262144 < x.data.length
        · rw [if_pos c2] at he ⊢
          rw [if_neg (by omega), if_pos c2]
        · rw [if_neg c2] at he
          exact absurd rfl he
      · rw [if_pos c, if_pos c]
    | succ i =>
      have hx := h x (by simp)
      simp only [List.getElem_cons_succ] at he ⊢
      unfold errT
      rw [if_neg (by omega), if_neg (by omega)]
      exact ih (by simpa using hi) (fun y hy => h y (by simp [hy])) he
/-! ### The builder -/
theorem write_b (B b g : Nat) (l s : List UInt8) (w : World) (h : Bd w B b l) (hs : s ≠ []) (hg : Bk w g 5 (bytesV s)) (hlen : l.length + s.length ≤ 140737488355328) (hB : B ≤ w.heap.size) :
    Ret Tryd.prog 30 [.pointer (some ⟨b, 0, none⟩), .slice (some ⟨g, 0, none⟩) s.length s.length] w fun r w' => (∃ q, r = q) ∧ Bd w' B b (l ++ s) ∧ Below B w w' := by
  obtain ⟨hBb, p, v, hp, hb, hn, hown⟩ := h
  have hlb : (bytesV l).length = l.length := by simp [bytesV]
  have hls : (bytesV s).length = s.length := by simp [bytesV]
  have ngb : g ≠ b := hg.ne hb (by decide)
  refine Ret.enter Tryd.func30 rfl Tryd.ntmps30 (by kernel_rfl) rfl ?_
  refine KW.seq (KW.region ?_)
  refine OW.val rfl rfl (EX.assign rfl) ?_
  refine OW.val rfl rfl (EX.assign rfl) ?_
  refine OW.nil ?_
  refine KW.seq (KW.region ?_)
  refine OW.val rfl rfl (EX.move rfl) ?_
  refine OW.call rfl rfl rfl (copyCheck_b b p v w hp hb) ?_
  rintro _ w1 ⟨rfl, hb1, hm1⟩
  refine OW.nil ?_
  refine KW.seq (KW.region ?_)
  refine OW.val rfl rfl (EX.move rfl) ?_
  refine OW.val rfl rfl (EX.move rfl) ?_
  refine OW.val rfl rfl (EX.nilCheck rfl) ?_
  refine OW.val rfl rfl (EX.fieldAddr (off := 1) Tryd.underlying71 rfl rfl ti69 rfl rfl) ?_
  have hown1 := hown.mo hm1 (fun k hk => by simp; exact fun z => hown.ne hb (by decide) k hk z.symm)
  have b1 : Below B w w1 := below_mo (Below.refl B w) hm1 hB (fun k hk => by simp at hk; omega)
  have hB1 : B ≤ w1.heap.size := Nat.le_trans hB b1.size
  have hg1 := hg.mo hm1 (by simp; exact ngb)
  refine OW.val rfl rfl (EX.load Tryd.underlying69 rfl rfl (hb1.cell_of rfl)) ?_
  refine OW.val rfl rfl (EX.move rfl) ?_
  refine OW.append B rfl rfl Tryd.underlying69 ti5 rfl (by decide) rfl rfl hown1 (Src.of_sl Tryd.underlying69 (Sl.of_bk hg1 hg1.lt) (by omega) bytesV_one (by decide)) (by simp only [maxLen]; omega) (by omega) hB1 ?_
  rintro v2 w2 hown2 hg2 hv2
  refine OW.val rfl rfl (EX.nilCheck rfl) ?_
  refine OW.val rfl rfl (EX.fieldAddr (off := 1) Tryd.underlying71 rfl rfl ti69 rfl rfl) ?_
  have hb2 := hb1.grown hg2 (fun z => hown1.ne hb1 (by decide) b z.symm rfl)
  have b2 : Below B w w2 := below_mo b1 (Mo.grown hg2 (S := v.ownBlock.toList) (fun k e => by rw [e]; simp)) hB1 (fun k hk => (hown1.lt k (Option.mem_toList.1 hk)).1)
  have hB2 : B ≤ w2.heap.size := Nat.le_trans hB b2.size
  refine OW.storeB rfl ti69 rfl rfl (by first | rfl | assumption | exact Own.one (by assumption)) (hb2) (by simp) ?_
  rintro w3 hb3 hm3
  refine OW.nil ?_
  refine KW.seq (KW.region ?_)
  refine OW.val rfl rfl (EX.move rfl) ?_
  refine OW.val rfl rfl (EX.lenA Tryd.underlying69 rfl) ?_
  refine OW.val rfl rfl (EX.assign rfl) ?_
  refine OW.val rfl rfl (EX.assign rfl) ?_
  refine OW.nil ?_
  have b3 : Below B w w3 := below_mo b2 hm3 hB2 (fun k hk => by simp at hk; omega)
  have hown3 := hown2.mo hm3 (fun k hk => by simp; exact fun z => hown2.ne hb2 (by decide) k hk z.symm)
  refine KW.ret (ret2 rfl rfl rfl ?_)
  refine ⟨⟨_, rfl⟩, ⟨hBb, _, v2, .inr rfl, hb3, fun q => absurd q (by simp [hs]), ?_⟩, b3⟩
  rw [List.length_append]
  have e : bytesV (l ++ s) = bytesV l ++ bytesV s := by simp [bytesV]
  rw [e]
  exact hown3
theorem blen_b (B b : Nat) (l : List UInt8) (w : World) (h : Bd w B b l) :
    Ret Tryd.prog 28 [.pointer (some ⟨b, 0, none⟩)] w fun r w' => r = .int .i64 ((l.length : Nat) : Int) ∧ w = w' := by
  obtain ⟨hBb, p, v, hp, hb, hn, hown⟩ := h
  obtain ⟨A, c, rfl, _, _⟩ := hown.slice
  refine Ret.enter Tryd.func28 rfl Tryd.ntmps28 (by kernel_rfl) rfl ?_
  refine KW.seq (KW.region ?_)
  refine OW.val rfl rfl (EX.assign rfl) ?_
  refine OW.nil ?_
  refine KW.seq (KW.region ?_)
  refine OW.val rfl rfl (EX.move rfl) ?_
  refine OW.val rfl rfl (EX.nilCheck rfl) ?_
  refine OW.val rfl rfl (EX.fieldAddr (off := 1) Tryd.underlying71 rfl rfl ti69 rfl rfl) ?_
  refine OW.val rfl rfl (EX.load Tryd.underlying69 rfl rfl (hb.cell_of rfl)) ?_
  refine OW.val rfl rfl (EX.lenA Tryd.underlying69 rfl) ?_
  refine OW.val rfl rfl (EX.assign rfl) ?_
  refine OW.nil ?_
  refine KW.ret (ret1 rfl rfl ?_)
  exact ⟨rfl, rfl⟩
/-! ### Packing -/
set_option maxRecDepth 20000 in
theorem pack_s (l : List En) (hl : hv l ≤ 40000) (A : Option Addr) (c B : Nat) (w : World) (hG : Env w) (hs : Sl w B A (ensV l)) :
    Ret Tryd.prog 10 [.slice A l.length c] w fun v w' => v = .tuple #[str (packT l).1, .int .i64 (((packT l).2 : Nat) : Int)] ∧ Ext w w' := by
  have hll := hv_len l
  refine Ret.enter Tryd.func10 rfl Tryd.ntmps10 (by kernel_rfl) rfl ?_
  refine KW.seq (KW.region ?_)
  refine OW.val rfl rfl (EX.assign rfl) ?_
  refine OW.val rfl rfl (EX.assign rfl) ?_
  refine OW.nil ?_
  refine KW.seq (KW.region ?_)
  refine OW.allocB (l := [.pointer none, .slice none 0 0]) rfl rfl ti71 rfl ?_
  rintro bb w1 hge1 hb1 hx1
  refine OW.nil ?_
  refine KW.seq (KW.seq (KW.region ?_))
  refine OW.val rfl rfl (EX.move rfl) ?_
  refine OW.val rfl rfl (EX.lenA Tryd.underlying31 rfl) ?_
  refine OW.val rfl rfl (EX.move rfl) ?_
  refine OW.nil ?_
  refine KW.block ?_
  have hbd := Bd.new (B := w.heap.size) hge1 hb1
  refine KW.loop2 (fun (i : Nat) (wr : World) => i ≤ l.length ∧ okL (l.take i) ∧ Bd wr w.heap.size bb (catT (l.take i)) ∧ Ext w wr) (fun (i : Nat) (wr : World) => [(4, .pointer (some ⟨bb, 0, none⟩)), (9, .slice A l.length c), (10, .int .i64 ((l.length : Nat) : Int)), (11, .int .i64 ((i : Nat) : Int)), (0, .slice A l.length c)]) (fun (i : Nat) (wr : World) => wr) (fun (i : Nat) (wr : World) => l.length - i) (0) (w1) ⟨rfl, rfl, rfl, rfl, rfl, trivial⟩ rfl ?_ ?_
  · exact ⟨Nat.zero_le _, fun x hx => by simp at hx, hbd, hx1⟩
  · rintro i wr ⟨hi, hok, hbd, hx⟩
    have hcl := cat_le _ hok
    have hvt := hv_take l i
    refine KW.seq (KW.region ?_)
    refine OW.val rfl rfl (by first | exact EX.lssN rfl rfl | exact EX.lssZ rfl rfl) ?_
    refine OW.nil ?_
    refine KW.seq ?_
    refine KW.condD rfl (fun hlt => ?_) (fun hlt => ?_)
    · obtain ⟨b, o, rfl, _, hcell⟩ := (hs.ext hx).flat (c := 2) (fun _ => rfl) (by decide) hlt
      have hsn : l.take (i + 1) = l.take i ++ [l[i]] := (List.take_append_getElem hlt).symm
      have hvt1 := hv_take l (i + 1)
      have hmem := hv_mem (List.getElem_mem hlt)
      have hat := fun h => errT_at hlt hok h
      have hentE : (entE l[i]).2 = 0 → entE l[i] = (entT l[i], 0) ∧ checkP (l[i]).path = 0 ∧ (l[i]).data.length ≤ 262144 := fun h => by
        unfold entE at h ⊢
        by_cases c1 : checkP (l[i]).path = 0
        · rw [if_neg (by omega)] at h ⊢
          by_cases c2 : 262144 < (l[i]).data.length
          · rw [if_pos c2] at h; cases h
          · rw [if_neg c2]; exact ⟨rfl, c1, by omega⟩
        · rw [if_pos c1] at h; cases h
      generalize hx0 : l[i] = x at hcell hsn hmem hat hentE
      refine KW.skip (KW.seq (KW.block (KW.seq (KW.region ?_))))
      refine OW.val rfl rfl (EX.indexAddrS Tryd.underlying31 ti24 rfl rfl (by omega)) ?_
      refine OW.val rfl rfl (EX.loadA (l := x.cells) Tryd.underlying24 rfl ti24 rfl rfl hcell) ?_
      refine OW.allocB (l := [str [], str []]) rfl rfl ti24 rfl ?_
      rintro xb w2 hge2 hxb hx2
      refine OW.storeS rfl ti24 rfl rfl rfl (by first | rfl | (simp only [List.all_cons, List.all_nil, Bool.and_true, Bool.true_and, Bool.and_eq_true, Value.oneCell']; repeat (first | assumption | exact Own.one (by assumption) | constructor))) (hxb) (Nat.le_refl _) ?_
      rintro w3 hxb3 hm3
      refine OW.nil ?_
      refine KW.seq (KW.region ?_)
      replace hxb3 : Bk w3 xb 24 x.cells := hxb3
      have x3 : Ext wr w3 := below_mo hx2 hm3 hx2.size (fun k hk => by simp at hk; omega)
      refine OW.val rfl rfl (EX.loadBk Tryd.underlying24 rfl ti24 rfl (hxb3) (rfl)) ?_
      refine OW.call rfl rfl rfl (entry_s x (by omega) (by omega) w3 (hG.ext (hx.trans x3))) ?_
      rintro _ w4 ⟨rfl, hx4⟩
      refine OW.val rfl rfl (EX.move rfl) ?_
      refine OW.val rfl rfl (EX.extract rfl rfl) ?_
      refine OW.val rfl rfl (EX.extract rfl rfl) ?_
      refine OW.val rfl rfl (EX.assign rfl) ?_
      refine OW.val rfl rfl (EX.assign rfl) ?_
      refine OW.nil ?_
      refine KW.seq (KW.seq (KW.region ?_))
      refine OW.val rfl rfl (EX.move rfl) ?_
      refine OW.val rfl rfl (by first | exact EX.neqN (b := 0) rfl rfl | exact EX.neqZ rfl rfl) ?_
      refine OW.nil ?_
      have x4 := (hx.trans x3).trans hx4
      refine KW.condD rfl (fun he => ?_) (fun he => ?_)
      · have e : packT l = ([], (entE x).2) := by
          unfold packT
          have := hat (by omega)
          rw [if_pos (by omega), this]
        refine KW.seq (KW.region ?_)
        refine OW.val rfl rfl (EX.move rfl) ?_
        refine OW.val rfl rfl (EX.assign rfl) ?_
        refine OW.val rfl rfl (EX.assign rfl) ?_
        refine OW.nil ?_
        refine KW.ret (ret2 rfl rfl rfl ?_)
        rw [e]
        exact ⟨rfl, x4⟩
      · obtain ⟨e1, e2, e3⟩ := hentE (by omega)
        have hel := ent_len e2 e3
        have hok2 : okL (l.take (i + 1)) := fun y hy => by
          rw [hsn] at hy
          rcases List.mem_append.1 hy with hy | hy
          · exact hok y hy
          · simp only [List.mem_singleton] at hy
            subst hy
            exact ⟨e2, e3⟩
        have hcl2 := cat_le _ hok2
        have hcs : catT (l.take (i + 1)) = catT (l.take i) ++ entT x := by rw [hsn, catT_snoc]
        have hbd4 := (hbd.ext x3).ext hx4
        have hcl3 : (catT (l.take (i + 1))).length = (catT (l.take i)).length + (entT x).length := by rw [hcs, List.length_append]
        rw [e1]
        refine KW.skip (KW.seq (KW.region ?_))
        refine OW.val rfl rfl (EX.move rfl) ?_
        refine OW.call rfl rfl rfl (writeString_b w.heap.size bb (catT (l.take i)) (entT x) w4 hbd4 (fun q => by rw [q] at hel; simp at hel) (by omega) x4.size) ?_
        rintro _ w5 ⟨⟨q, rfl⟩, hbd5, hbl5⟩
        refine OW.nil ?_
        refine KW.seq (KW.region ?_)
        rw [← hcs] at hbd5
        have x5 : Ext w w5 := Below.trans x4 hbl5
        refine OW.call rfl rfl rfl (blen_b w.heap.size bb (catT (l.take (i + 1))) w5 hbd5) ?_
        rintro _ _ ⟨rfl, rfl⟩
        refine OW.val rfl rfl (by first | exact EX.addN (b := 1024) (m := 9223372036854775807) rfl rfl rfl (by omega) | exact EX.addZ (m := 9223372036854775807) rfl rfl rfl rfl (by omega)) ?_
        refine OW.val rfl rfl (by first | exact EX.gtrN (b := 524288) rfl rfl | exact EX.gtrZ rfl rfl) ?_
        refine OW.nil ?_
        refine KW.condD rfl (fun hbig => ?_) (fun hbig => ?_)
        · omega
        · refine KW.skip (KW.leave (KW.region ?_))
          refine OW.val rfl rfl (by first | exact EX.addN (b := 1) (m := 9223372036854775807) rfl rfl rfl (by omega) | exact EX.addZ (m := 9223372036854775807) rfl rfl rfl rfl (by omega)) ?_
          refine OW.val rfl rfl (EX.move rfl) ?_
          refine OW.nil ?_
          refine KW.back2 (i + 1) (w5) ⟨rfl, rfl, rfl, rfl, rfl, trivial⟩ rfl ?_ (by omega)
          exact ⟨by omega, hok2, hbd5, x5⟩
    · obtain rfl : i = l.length := by omega
      rw [List.take_length] at hok hbd hcl
      have e : packT l = (catT l ++ nul 1024, 0) := by
        unfold packT
        rw [if_neg (by rw [errT_ok hok]; decide)]
      refine KW.exit rfl (KW.seq (KW.region ?_))
      refine OW.makeB (len := 1024) rfl rfl Tryd.underlying69 ti5 rfl rfl rfl (by omega) (by omega) ?_
      rintro gb w2 hge2 hg2 hx2
      have hg3 : Bk w2 gb 5 (bytesV (nul 1024)) := by rw [bytesV_nul]; exact hg2
      have x2 := hx.trans hx2
      refine OW.call rfl rfl rfl (write_b w.heap.size bb gb (catT l) (nul 1024) w2 (hbd.ext hx2) (by decide) hg3 (by have : (nul 1024).length = 1024 := nul_length _; omega) x2.size) ?_
      rintro _ w3 ⟨⟨q, rfl⟩, hbd3, hbl3⟩
      refine OW.nil ?_
      refine KW.seq (KW.region ?_)
      have x3 : Ext w w3 := Below.trans x2 hbl3
      refine OW.call rfl rfl rfl (bstring_b w.heap.size bb (catT l ++ nul 1024) w3 hbd3 (by have : (nul 1024).length = 1024 := nul_length _; rw [List.length_append]; omega) x3.size) ?_
      rintro _ w4 ⟨rfl, hbl4⟩
      refine OW.val rfl rfl (EX.assign rfl) ?_
      refine OW.val rfl rfl (EX.assign rfl) ?_
      refine OW.nil ?_
      refine KW.ret (ret2 rfl rfl rfl ?_)
      rw [e]
      exact ⟨rfl, Below.trans x3 hbl4⟩
/-! ### What the statements begin with -/
theorem en_ne (a b : En) : (!([decide (a.path = b.path), decide (a.data = b.data)].all id)) = decide (a ≠ b) := by
  obtain ⟨a1, a2⟩ := a
  obtain ⟨b1, b2⟩ := b
  rw [Bool.eq_iff_iff]
  by_cases c1 : a1 = b1 <;> by_cases c2 : a2 = b2 <;> simp [c1, c2]
theorem en_eq (a b : En) : ([decide (a.path = b.path), decide (a.data = b.data)].all id) = decide (a = b) := by
  obtain ⟨a1, a2⟩ := a
  obtain ⟨b1, b2⟩ := b
  rw [Bool.eq_iff_iff]
  by_cases c1 : a1 = b1 <;> by_cases c2 : a2 = b2 <;> simp [c1, c2]
set_option maxRecDepth 20000 in
theorem sameE_s (l1 l2 : List En) (A1 A2 : Option Addr) (k1 k2 : Nat) (w : World) (B1 B2 : Nat) (h1 : Sl w B1 A1 (ensV l1)) (h2 : Sl w B2 A2 (ensV l2)) (hn : l1.length ≤ 140737488355328) :
    Ret Tryd.prog 14 [.slice A1 l1.length k1, .slice A2 l2.length k2] w fun v w' => v = .bool (decide (l1 = l2)) ∧ Ext w w' := by
  refine Ret.enter Tryd.func14 rfl Tryd.ntmps14 (by kernel_rfl) rfl ?_
  refine KW.seq (KW.region ?_)
  refine OW.val rfl rfl (EX.assign rfl) ?_
  refine OW.nil ?_
  refine KW.seq (KW.seq (KW.region ?_))
  refine OW.val rfl rfl (EX.move rfl) ?_
  refine OW.val rfl rfl (EX.lenA Tryd.underlying31 rfl) ?_
  refine OW.val rfl rfl (EX.move rfl) ?_
  refine OW.val rfl rfl (EX.lenA Tryd.underlying31 rfl) ?_
  refine OW.val rfl rfl (by first | exact EX.neqN rfl rfl | exact EX.neqZ rfl rfl) ?_
  refine OW.nil ?_
  refine KW.condD rfl (fun hl => ?_) (fun hl => ?_)
  · refine KW.seq (KW.region ?_)
    refine OW.val rfl rfl (EX.assign rfl) ?_
    refine OW.nil ?_
    refine KW.ret (ret1 rfl rfl ?_)
    refine ⟨congrArg Value.bool (decide_eq_false (fun e => hl (by rw [e]))).symm, Ext.refl _⟩
  · have hll : l1.length = l2.length := by omega
    refine KW.skip (KW.seq (KW.seq (KW.region ?_)))
    refine OW.val rfl rfl (EX.assign rfl) ?_
    refine OW.nil ?_
    refine KW.block ?_
    refine KW.loop2 (fun (i : Nat) (wr : World) => i ≤ l1.length ∧ (∀ j, j < i → l1[j]? = l2[j]?) ∧ Ext w wr) (fun (i : Nat) (wr : World) => [(0, .slice A1 l1.length k1), (1, .slice A2 l2.length k2), (5, .int .i64 ((i : Nat) : Int))]) (fun (i : Nat) (wr : World) => wr) (fun (i : Nat) (wr : World) => l1.length - i) (0) (w) ⟨rfl, rfl, rfl, trivial⟩ rfl ?_ ?_
    · exact ⟨by omega, fun j hj => by omega, Ext.refl _⟩
    · rintro i wr ⟨hi, he, hx⟩
      refine KW.seq (KW.seq (KW.region ?_))
      refine OW.val rfl rfl (EX.move rfl) ?_
      refine OW.val rfl rfl (EX.move rfl) ?_
      refine OW.val rfl rfl (EX.lenA Tryd.underlying31 rfl) ?_
      refine OW.val rfl rfl (by first | exact EX.lssN rfl rfl | exact EX.lssZ rfl rfl) ?_
      refine OW.nil ?_
      refine KW.condD rfl (fun hlt => ?_) (fun hlt => ?_)
      · have hlt2 : i < l2.length := by omega
        obtain ⟨b1, o1, rfl, _, hc1⟩ := (h1.ext hx).flat (c := 2) (fun _ => rfl) (by decide) hlt
        obtain ⟨b2, o2, rfl, _, hc2⟩ := (h2.ext hx).flat (c := 2) (fun _ => rfl) (by decide) hlt2
        refine KW.skip (KW.seq (KW.block (KW.seq ?_)))
        refine KW.regionQ (by kernel_rfl) (by kernel_rfl) ?_
        refine QW.val rfl rfl (fun _ => EX.move rfl) ?_
        refine QW.val rfl rfl (fun _ => EX.move rfl) ?_
        refine QW.val rfl rfl (fun _ => EX.indexAddrS Tryd.underlying31 ti24 rfl rfl (by omega)) ?_
        refine QW.val rfl rfl (fun _ => EX.loadA (w := wr.drewN _) (l := (l1[i]).cells) Tryd.underlying24 rfl ti24 rfl rfl hc1) ?_
        refine QW.val rfl rfl (fun _ => EX.move rfl) ?_
        refine QW.val rfl rfl (fun _ => EX.move rfl) ?_
        refine QW.val rfl rfl (fun _ => EX.indexAddrS Tryd.underlying31 ti24 rfl rfl (by omega)) ?_
        refine QW.val rfl rfl (fun _ => EX.loadA (w := wr.drewN _) (l := (l2[i]).cells) Tryd.underlying24 rfl ti24 rfl rfl hc2) ?_
        refine QW.val rfl rfl (fun _ => EX.neqG Tryd.underlying24 (by kernel_rfl) (by kernel_rfl) rfl rfl (.cons (by decide) Tryd.underlying9 rfl rfl rfl (eq_str Tryd.underlying9) (.cons (by decide) Tryd.underlying9 rfl rfl rfl (eq_str Tryd.underlying9) .nil)) rfl) ?_
        refine QW.nil (fun nq => ?_)
        refine KW.as 25 (.bool (decide (l1[i] ≠ l2[i]))) rfl (congrArg Value.bool (en_ne _ _)) ?_
        refine KW.condD rfl (fun hne => ?_) (fun hne => ?_)
        · refine KW.seq (KW.region ?_)
          refine OW.val rfl rfl (EX.assign rfl) ?_
          refine OW.nil ?_
          refine KW.ret (ret1 rfl rfl ?_)
          refine ⟨congrArg Value.bool (decide_eq_false (fun e => hne ?_)).symm, hx.trans (Ext.drewN wr nq)⟩
          subst e
          rfl
        · refine KW.skip (KW.leave (KW.region ?_))
          refine OW.val rfl rfl (EX.move rfl) ?_
          refine OW.val rfl rfl (by first | exact EX.addN (b := 1) (m := 9223372036854775807) rfl rfl rfl (by omega) | exact EX.addZ (m := 9223372036854775807) rfl rfl rfl rfl (by omega)) ?_
          refine OW.val rfl rfl (EX.assign rfl) ?_
          refine OW.nil ?_
          refine KW.back2 (i + 1) (wr.drewN nq) ⟨rfl, rfl, rfl, trivial⟩ rfl ?_ (by omega)
          refine ⟨by omega, fun j hj => ?_, hx.trans (Ext.drewN wr nq)⟩
          by_cases e : j = i
          · subst e
            rw [List.getElem?_eq_getElem hlt, List.getElem?_eq_getElem hlt2]
            exact congrArg some (by simpa using hne)
          · exact he j (by omega)
      · obtain rfl : i = l1.length := by omega
        refine KW.exit rfl (KW.seq (KW.region ?_))
        refine OW.val rfl rfl (EX.assign rfl) ?_
        refine OW.nil ?_
        refine KW.ret (ret1 rfl rfl ?_)
        refine ⟨congrArg Value.bool (decide_eq_true ?_).symm, hx⟩
        apply List.ext_getElem?
        intro j
        by_cases hj : j < l1.length
        · exact he j hj
        · rw [List.getElem?_eq_none (by omega), List.getElem?_eq_none (by omega)]
/-- entries among a law's arguments -/
structure EnOk (x : En) : Prop where
  path : x.path.length ≤ 140737488351232
  data : x.data.length ≤ 140737488351232
set_option maxRecDepth 20000 in
theorem light_s (l : List En) (hok : ∀ x ∈ l, EnOk x) (hl : l.length ≤ 140737488355328) (A : Option Addr) (c B : Nat) (w : World) (hs : Sl w B A (ensV l)) :
    Ret Tryd.prog 9 [.slice A l.length c] w fun v w' => v = .bool (decide (hv l ≤ 40000)) ∧ Ext w w' := by
  refine Ret.enter Tryd.func9 rfl Tryd.ntmps9 (by kernel_rfl) rfl ?_
  refine KW.seq (KW.region ?_)
  refine OW.val rfl rfl (EX.assign rfl) ?_
  refine OW.nil ?_
  refine KW.seq (KW.region ?_)
  refine OW.val rfl rfl (EX.assign rfl) ?_
  refine OW.nil ?_
  refine KW.seq (KW.seq (KW.region ?_))
  refine OW.val rfl rfl (EX.assign rfl) ?_
  refine OW.nil ?_
  refine KW.block ?_
  refine KW.loop2 (fun (i : Nat) (wr : World) => i ≤ l.length ∧ hv (l.take i) ≤ 40000 ∧ Ext w wr) (fun (i : Nat) (wr : World) => [(0, .slice A l.length c), (3, .int .i64 (((hv (l.take i)) : Nat) : Int)), (4, .int .i64 ((i : Nat) : Int))]) (fun (i : Nat) (wr : World) => wr) (fun (i : Nat) (wr : World) => l.length - i) (0) (w) ⟨rfl, rfl, rfl, trivial⟩ rfl ?_ ?_
  · exact ⟨Nat.zero_le _, by simp [hv], Ext.refl _⟩
  · rintro i wr ⟨hi, hn, hx⟩
    refine KW.seq (KW.seq (KW.region ?_))
    refine OW.val rfl rfl (EX.move rfl) ?_
    refine OW.val rfl rfl (EX.move rfl) ?_
    refine OW.val rfl rfl (EX.lenA Tryd.underlying31 rfl) ?_
    refine OW.val rfl rfl (by first | exact EX.lssN rfl rfl | exact EX.lssZ rfl rfl) ?_
    refine OW.nil ?_
    refine KW.condD rfl (fun hlt => ?_) (fun hlt => ?_)
    · obtain ⟨b, o, rfl, _, hcell⟩ := (hs.ext hx).flat (c := 2) (fun _ => rfl) (by decide) hlt
      have hsn : l.take (i + 1) = l.take i ++ [l[i]] := (List.take_append_getElem hlt).symm
      have hxk := hok l[i] (List.getElem_mem hlt)
      have q1 := hxk.path
      have q2 := hxk.data
      have hvs : hv (l.take (i + 1)) = hv (l.take i) + ((l[i]).path.length + (l[i]).data.length + 1000) := by rw [hsn, hv_append]; simp [hv]
      have hvt := hv_take l (i + 1)
      refine KW.skip (KW.seq (KW.block (KW.seq ?_)))
      refine KW.regionQ (by kernel_rfl) (by kernel_rfl) ?_
      refine QW.val rfl rfl (fun _ => EX.move rfl) ?_
      refine QW.val rfl rfl (fun _ => EX.move rfl) ?_
      refine QW.val rfl rfl (fun _ => EX.move rfl) ?_
      refine QW.val rfl rfl (fun _ => EX.indexAddrS Tryd.underlying31 ti24 rfl rfl (by omega)) ?_
      refine QW.val rfl rfl (fun _ => EX.fieldAddr (off := 0) Tryd.underlying24 rfl rfl ti9 rfl rfl) ?_
      refine QW.val rfl rfl (fun _ => EX.load Tryd.underlying9 rfl rfl (hcell 0 _ rfl)) ?_
      refine QW.val rfl rfl (fun _ => EX.lenS Tryd.underlying9 rfl) ?_
      refine QW.val rfl rfl (fun _ => EX.move rfl) ?_
      refine QW.val rfl rfl (fun _ => EX.move rfl) ?_
      refine QW.val rfl rfl (fun _ => EX.indexAddrS Tryd.underlying31 ti24 rfl rfl (by omega)) ?_
      refine QW.val rfl rfl (fun _ => EX.fieldAddr (off := 1) Tryd.underlying24 rfl rfl ti9 rfl rfl) ?_
      refine QW.val rfl rfl (fun _ => EX.load Tryd.underlying9 rfl rfl (hcell 1 _ rfl)) ?_
      refine QW.val rfl rfl (fun _ => EX.lenS Tryd.underlying9 rfl) ?_
      refine QW.val rfl rfl (fun _ => by first | exact EX.addN (m := 9223372036854775807) rfl rfl rfl (by omega) | exact EX.addZ (m := 9223372036854775807) rfl rfl rfl rfl (by omega)) ?_
      refine QW.val rfl rfl (fun _ => by first | exact EX.addN (b := 1000) (m := 9223372036854775807) rfl rfl rfl (by omega) | exact EX.addZ (m := 9223372036854775807) rfl rfl rfl rfl (by omega)) ?_
      refine QW.val rfl rfl (fun _ => by first | exact EX.addN (m := 9223372036854775807) rfl rfl rfl (by omega) | exact EX.addZ (m := 9223372036854775807) rfl rfl rfl rfl (by omega)) ?_
      refine QW.val rfl rfl (fun _ => EX.assign rfl) ?_
      refine QW.nil (fun nq => ?_)
      refine KW.seq (KW.region ?_)
      refine OW.val rfl rfl (EX.move rfl) ?_
      refine OW.val rfl rfl (by first | exact EX.gtrN (b := 40000) rfl rfl | exact EX.gtrZ rfl rfl) ?_
      refine OW.nil ?_
      have hx1 : Ext w (wr.drewN nq) := hx.trans (Ext.drewN wr nq)
      generalize wr.drewN nq = wq at hx1
      refine KW.as 3 (.int .i64 (((hv (l.take (i + 1))) : Nat) : Int)) rfl (congrArg (Value.int .i64) (by rw [hvs])) ?_
      refine KW.condD rfl (fun hbig => ?_) (fun hbig => ?_)
      · refine KW.seq (KW.region ?_)
        refine OW.val rfl rfl (EX.assign rfl) ?_
        refine OW.nil ?_
        refine KW.ret (ret1 rfl rfl ?_)
        exact ⟨congrArg Value.bool (decide_eq_false (by omega)).symm, hx1⟩
      · refine KW.skip (KW.leave (KW.region ?_))
        refine OW.val rfl rfl (EX.move rfl) ?_
        refine OW.val rfl rfl (by first | exact EX.addN (b := 1) (m := 9223372036854775807) rfl rfl rfl (by omega) | exact EX.addZ (m := 9223372036854775807) rfl rfl rfl rfl (by omega)) ?_
        refine OW.val rfl rfl (EX.assign rfl) ?_
        refine OW.nil ?_
        refine KW.back2 (i + 1) (wq) ⟨rfl, rfl, rfl, trivial⟩ rfl ?_ (by omega)
        exact ⟨by omega, by omega, hx1⟩
    · obtain rfl : i = l.length := by omega
      rw [List.take_length] at hn
      refine KW.exit rfl (KW.seq (KW.region ?_))
      refine OW.val rfl rfl (EX.assign rfl) ?_
      refine OW.nil ?_
      refine KW.ret (ret1 rfl rfl ?_)
      exact ⟨congrArg Value.bool (decide_eq_true hn).symm, hx⟩
def awx : En := ⟨[97], [104, 101, 108, 108, 111]⟩
theorem awx_ok : checkP awx.path = 0 ∧ awx.data.length ≤ 262144 := ⟨by decide +kernel, by decide⟩
theorem awx_okL : okL [awx] := fun x hx => by
  simp only [List.mem_singleton] at hx
  subst hx
  exact awx_ok
theorem awx_split : (splitP awx.path).2.2 = true := short_split (by decide)
theorem awx_len : (entT awx).length = 1024 := by
  unfold entT
  rw [if_pos awx_split, sect_len (good_one awx_ok.1 awx_ok.2 awx_split)]
  rfl
theorem awx_entE : entE awx = (entT awx, 0) := by
  unfold entE
  rw [if_neg (by rw [awx_ok.1]; decide), if_neg (by decide)]
theorem awx_pack : packT [awx] = (catT [awx] ++ nul 1024, 0) := by
  unfold packT
  rw [if_neg (by rw [errT_ok awx_okL]; decide)]
theorem awx_cat : (catT [awx]).length = 1024 := by
  have : catT [awx] = entT awx := by simp [catT]
  rw [this, awx_len]
theorem awx_unpack : unpackT (catT [awx] ++ nul 1024) = ([awx], 0) := by
  have h := unpack_back awx_okL (n := 1024) (by decide) [] (by rw [List.length_append, awx_cat, List.append_nil, nul_len]; decide)
  rwa [List.append_nil] at h
theorem unpack_nil : unpackT [] = ([], 180) := by
  unfold unpackT
  rw [if_neg (by decide)]
  exact unp_fail (.inl ⟨head_short (by decide), by decide⟩)
set_option maxRecDepth 20000 in
theorem awake18_s (w : World) (hG : Env w) : Ret Tryd.prog 6 [] w fun v w' => v = .bool true ∧ Ext w w' := by
  refine Ret.enter Tryd.func6 rfl Tryd.ntmps6 (by kernel_rfl) rfl ?_
  refine KW.seq (KW.region ?_)
  refine OW.val rfl rfl (EX.assign rfl) ?_
  refine OW.nil ?_
  refine KW.seq (KW.region ?_)
  refine OW.val rfl rfl (EX.buildS (pl := [(0, 1), (1, 1)]) (ks := [0, 1]) (is := [0, 1]) (zs := [str [], str []]) Tryd.underlying24 ti24 (by kernel_rfl) rfl rfl rfl (by first | rfl | (simp only [List.all_cons, List.all_nil, Bool.and_true, Bool.true_and, Bool.and_eq_true, Value.oneCell']; repeat (first | assumption | exact Own.one (by assumption) | constructor))) (by simp only [setAll, List.set_cons_zero, List.set_cons_succ]; rfl)) ?_
  have c1 := entry_s awx (by decide) (by decide) w hG
  rw [awx_entE] at c1
  refine OW.call rfl rfl rfl (c1) ?_
  rintro _ w1 ⟨rfl, hx1⟩
  refine OW.val rfl rfl (EX.move rfl) ?_
  refine OW.val rfl rfl (EX.extract rfl rfl) ?_
  refine OW.val rfl rfl (EX.extract rfl rfl) ?_
  refine OW.val rfl rfl (EX.assign rfl) ?_
  refine OW.val rfl rfl (EX.assign rfl) ?_
  refine OW.nil ?_
  refine KW.seq (KW.region ?_)
  refine OW.val rfl rfl (EX.buildS (pl := [(0, 1), (1, 1)]) (ks := [0, 1]) (is := [0, 1]) (zs := [str [], str []]) Tryd.underlying24 ti24 (by kernel_rfl) rfl rfl rfl (by first | rfl | (simp only [List.all_cons, List.all_nil, Bool.and_true, Bool.true_and, Bool.and_eq_true, Value.oneCell']; repeat (first | assumption | exact Own.one (by assumption) | constructor))) (by simp only [setAll, List.set_cons_zero, List.set_cons_succ]; rfl)) ?_
  refine OW.buildG 1 ([awx.cells]) rfl rfl Tryd.underlying31 ti24 rfl (by decide) rfl rfl rfl (by repeat' (first | exact List.forall_mem_nil _ | refine List.forall_mem_cons.2 ⟨by first | rfl | assumption, ?_⟩)) (by decide) ?_
  rintro sb w2 hge2 hb2 hx2
  replace hb2 : Bk w2 sb 24 (ensV [awx]) := hb2
  have x2 := hx1.trans hx2
  have c2 := pack_s [awx] (by decide) (some ⟨sb, 0, none⟩) 1 _ w2 (hG.ext x2) (Sl.of_bk hb2 hb2.lt)
  rw [awx_pack] at c2
  refine OW.call rfl rfl rfl (c2) ?_
  rintro _ w3 ⟨rfl, hx3⟩
  refine OW.val rfl rfl (EX.move rfl) ?_
  refine OW.val rfl rfl (EX.extract rfl rfl) ?_
  refine OW.val rfl rfl (EX.extract rfl rfl) ?_
  refine OW.val rfl rfl (EX.assign rfl) ?_
  refine OW.val rfl rfl (EX.assign rfl) ?_
  refine OW.nil ?_
  refine KW.seq (KW.region ?_)
  refine OW.val rfl rfl (EX.move rfl) ?_
  have x3 := x2.trans hx3
  have hl2 : (catT [awx] ++ nul 1024).length = 2048 := by rw [List.length_append, awx_cat, nul_len]
  have c3 := unpack_s (catT [awx] ++ nul 1024) (by omega) w3 (hG.ext x3)
  rw [awx_unpack] at c3
  have hl1 := awx_len
  generalize entT awx = t1 at hl1
  generalize catT [awx] ++ nul 1024 = t2 at hl2 c3
  refine OW.call rfl rfl rfl (c3) ?_
  rintro _ w4 ⟨u, rfl, hown, hx4⟩
  refine OW.val rfl rfl (EX.move rfl) ?_
  refine OW.val rfl rfl (EX.extract rfl rfl) ?_
  refine OW.val rfl rfl (EX.extract rfl rfl) ?_
  refine OW.val rfl rfl (EX.assign rfl) ?_
  refine OW.val rfl rfl (EX.assign rfl) ?_
  refine OW.nil ?_
  refine KW.seq (KW.region ?_)
  have x4 := x3.trans hx4
  have c4 := unpack_s [] (by decide) w4 (hG.ext x4)
  rw [unpack_nil] at c4
  refine OW.call rfl rfl rfl (c4) ?_
  rintro _ w5 ⟨u2, rfl, hown2, hx5⟩
  refine OW.val rfl rfl (EX.move rfl) ?_
  refine OW.val rfl rfl (EX.extract rfl rfl) ?_
  refine OW.val rfl rfl (EX.extract rfl rfl) ?_
  refine OW.val rfl rfl (EX.assign rfl) ?_
  refine OW.val rfl rfl (EX.assign rfl) ?_
  refine OW.nil ?_
  refine KW.seq ?_
  have x5 := x4.trans hx5
  obtain ⟨A, c, eu, _, hsl⟩ := (hown.ext hx5).slice
  obtain rfl : u = .slice A 1 c := eu
  obtain ⟨b, o, rfl, _, hcell⟩ := hsl.flat (l := [awx]) (i := 0) (c := 2) (fun _ => rfl) (by decide) (by decide)
  refine KW.region ?_
  refine OW.val rfl rfl (EX.move rfl) ?_
  refine OW.val rfl rfl (EX.lenS Tryd.underlying9 rfl) ?_
  refine OW.val rfl rfl (by first | exact EX.eqlN (b := 1024) rfl rfl | exact EX.eqlZ rfl rfl) ?_
  refine OW.val rfl rfl (EX.move rfl) ?_
  refine OW.as 32 (.bool true) rfl (congrArg Value.bool (decide_eq_true (hl1))) ?_
  refine OW.val rfl rfl (EX.move rfl) ?_
  refine OW.val rfl rfl (by first | exact EX.eqlN (b := 0) rfl rfl | exact EX.eqlZ rfl rfl) ?_
  refine OW.val rfl rfl (EX.pickT rfl rfl) ?_
  refine OW.val rfl rfl (EX.move rfl) ?_
  refine OW.as 36 (.bool true) rfl (congrArg Value.bool (decide_eq_true (rfl))) ?_
  refine OW.val rfl rfl (EX.move rfl) ?_
  refine OW.val rfl rfl (EX.lenS Tryd.underlying9 rfl) ?_
  refine OW.val rfl rfl (by first | exact EX.eqlN (b := 2048) rfl rfl | exact EX.eqlZ rfl rfl) ?_
  refine OW.val rfl rfl (EX.pickT rfl rfl) ?_
  refine OW.val rfl rfl (EX.move rfl) ?_
  refine OW.as 41 (.bool true) rfl (congrArg Value.bool (decide_eq_true (hl2))) ?_
  refine OW.val rfl rfl (EX.move rfl) ?_
  refine OW.val rfl rfl (by first | exact EX.eqlN (b := 0) rfl rfl | exact EX.eqlZ rfl rfl) ?_
  refine OW.val rfl rfl (EX.pickT rfl rfl) ?_
  refine OW.val rfl rfl (EX.move rfl) ?_
  refine OW.as 45 (.bool true) rfl (congrArg Value.bool (decide_eq_true (rfl))) ?_
  refine OW.val rfl rfl (EX.move rfl) ?_
  refine OW.val rfl rfl (EX.lenA Tryd.underlying31 rfl) ?_
  refine OW.val rfl rfl (by first | exact EX.eqlN (b := 1) rfl rfl | exact EX.eqlZ rfl rfl) ?_
  refine OW.val rfl rfl (EX.pickT rfl rfl) ?_
  refine OW.val rfl rfl (EX.move rfl) ?_
  refine OW.as 50 (.bool true) rfl (congrArg Value.bool (decide_eq_true (rfl))) ?_
  refine OW.val rfl rfl (EX.move rfl) ?_
  refine OW.val rfl rfl (EX.indexAddrS (i := 0) Tryd.underlying31 ti24 rfl rfl (by omega)) ?_
  refine OW.val rfl rfl (EX.loadA (l := awx.cells) Tryd.underlying24 rfl ti24 rfl rfl hcell) ?_
  refine OW.val rfl rfl (EX.buildS (pl := [(0, 1), (1, 1)]) (ks := [0, 1]) (is := [0, 1]) (zs := [str [], str []]) Tryd.underlying24 ti24 (by kernel_rfl) rfl rfl rfl (by first | rfl | (simp only [List.all_cons, List.all_nil, Bool.and_true, Bool.true_and, Bool.and_eq_true, Value.oneCell']; repeat (first | assumption | exact Own.one (by assumption) | constructor))) (by simp only [setAll, List.set_cons_zero, List.set_cons_succ]; rfl)) ?_
  refine OW.val rfl rfl (EX.eqlG Tryd.underlying24 (by kernel_rfl) (by kernel_rfl) rfl rfl (.cons (by decide) Tryd.underlying9 rfl rfl rfl (eq_str Tryd.underlying9) (.cons (by decide) Tryd.underlying9 rfl rfl rfl (eq_str Tryd.underlying9) .nil)) rfl) ?_
  refine OW.val rfl rfl (EX.pickT rfl rfl) ?_
  refine OW.val rfl rfl (EX.move rfl) ?_
  refine OW.as 57 (.bool true) rfl (congrArg Value.bool (by simp [awx])) ?_
  refine OW.val rfl rfl (EX.move rfl) ?_
  refine OW.val rfl rfl (by first | exact EX.eqlN (b := 0) rfl rfl | exact EX.eqlZ rfl rfl) ?_
  refine OW.val rfl rfl (EX.pickT rfl rfl) ?_
  refine OW.val rfl rfl (EX.move rfl) ?_
  refine OW.as 61 (.bool true) rfl (congrArg Value.bool (decide_eq_true (rfl))) ?_
  refine OW.val rfl rfl (EX.move rfl) ?_
  refine OW.val rfl rfl (by first | exact EX.eqlN (b := 180) rfl rfl | exact EX.eqlZ rfl rfl) ?_
  refine OW.val rfl rfl (EX.pickT rfl rfl) ?_
  refine OW.val rfl rfl (EX.assign rfl) ?_
  refine OW.nil ?_
  refine KW.as 0 (.bool true) rfl (congrArg Value.bool (decide_eq_true (rfl))) ?_
  refine KW.ret (ret1 rfl rfl ?_)
  exact ⟨rfl, x5⟩
end Go.Proofs.YtjgeoeeikfjmdaaDoor
/- From a walk to a law's row: the call returned true, and all that was there is as it was. No program is spoken of. -/
namespace Go.Proofs.YtjgeoeeikfjmdaaDoor
set_option linter.unnecessarySimpa false
set_option linter.unusedVariables false
set_option linter.unusedSimpArgs false
open Go.ChangeShapes Go.WideShapes Go.ChangeAt Go.RowKit
section
variable {H : Type} {enc : TypeId × Value → H} {P : Program}
theorem trodAll_stays (hl : laidOutB P = true) {W W' : World} (hx : Ext W W') : ∀ {ts : List TypeId} {vs : List Value} {ds : List (DataW H)} {ps : List MemPlace},
    (∀ t ∈ ts, P.readableRec t = true ∧ t < P.types.size) → DataW.TrodAll enc P W 0 (fun _ => true) true ts vs ds ps → (∀ p ∈ ps, p.block < W.heap.size) →
    DataW.TrodAll enc P W' 0 (fun b => decide (b < W.heap.size)) true ts vs ds ps
  | [], vs, ds, ps, _, h, _ => by
    obtain ⟨rfl, rfl, rfl⟩ := trodAll_nil h
    exact trodAll_mk0
  | t :: ts, vs, ds, ps, hr, h, hlt => by
    obtain ⟨v, vs', d, ds', p, q, rfl, rfl, rfl, h1, h2⟩ := trodAll_cons h
    refine trodAll_cons_mk (WideElems.Trod_stays hl (hr t (by simp)).1 (hr t (by simp)).2 h1 (fun x hx' => hx.same (hlt x (by simp [hx']))) (fun x hx' => by simpa using hlt x (by simp [hx']))) ?_
    exact trodAll_stays hl hx (fun u hu => hr u (by simp [hu])) h2 (fun x hx' => hlt x (by simp [hx']))
theorem law_post {f : Func} {s : ChangeSpec} {W W' : World} {args : Array Value} {ds gs : List (DataW H)} {before : List MemPlace} {T : TypeId}
    (hW : DataW.Whole enc P f.params.toList s.vars false W args.toList ds gs before) (hv : s.vars = []) (hspec : s.fn H (ds ++ gs) = { results := [.lit (.bool true)], args := ds }) (hrt : f.resultTypes = #[T]) (hu : P.underlying T = some .bool)
    (hl : laidOutB P = true) (hr : ∀ t ∈ f.params.toList, P.readableRec t = true ∧ t < P.types.size) (hx : Ext W W') : s.post enc P f false true false false W args (.bool true) W' := by
  have hlt : ∀ p ∈ before, p.block < W.heap.size := fun p hp => hW.lt p hp
  have hW0 := hW
  obtain ⟨p, q, hA, hV, rfl, _, _⟩ := hW
  rw [hv] at hV
  refine ⟨ds, gs, _, [], p, [], hW0, ?_, ?_, ?_, hx.frame _, fun h => by cases h⟩
  · rw [hspec, hrt]
    exact trodAll_cons_mk (p := []) (p' := []) (shut_bool hu _) trodAll_mk0
  · rw [hspec]
    exact trodAll_stays hl hx hr hA (fun x hx' => hlt x (by simp [hx']))
  · rw [hspec, hv]
    exact rfl
end
end Go.Proofs.YtjgeoeeikfjmdaaDoor
/- A law's arguments, as the walks take them. No program is spoken of. -/
namespace Go.Proofs.YtjgeoeeikfjmdaaDoor
set_option linter.unnecessarySimpa false
open Go.ChangeShapes Go.WideShapes Go.ChangeAt Go.RowKit
set_option linter.unusedSimpArgs false
set_option linter.unusedVariables false
/-- a listed variable's cells, as its initialiser lays them -/
def layCells (cs : List Value) : Obj → Obj
  | .cells _ t frozen => .cells cs.toArray t frozen
  | o => o
section
variable {H : Type} {enc : TypeId × Value → H} {P : Program} {W : World} {base : Nat} {t e : TypeId} {v : Value} {d : DataW H} {p : List MemPlace} {r : Reach} {b0 : Nat}
theorem wf_nat {k : IntKind} {n : Int} (hs : k.signed = false) (h : (Lit.int k n).wf = true) : ∃ m : Nat, n = m ∧ m ≤ maxN k := by
  cases k <;> simp [IntKind.signed] at hs <;> (simp [Lit.wf, IntKind.min, IntKind.max, IntKind.signed, IntKind.bits] at h; exact ⟨n.toNat, by omega, by simp [maxN]; omega⟩)
theorem wf_int {n : Int} (h : (Lit.int .i64 n).wf = true) : -9223372036854775808 ≤ n ∧ n ≤ 9223372036854775807 := by
  simp [Lit.wf, IntKind.min, IntKind.max, IntKind.signed, IntKind.bits] at h
  omega
theorem open_nat {k : IntKind} (ht : P.underlying t = some (.int k)) (hs : k.signed = false) (hval : Value.okWide P W r b0 t v) (hd : DataW.Trod enc P W base (fun _ => true) true t v d p) : ∃ m : Nat, v = .int k (m : Int) ∧ m ≤ maxN k := by
  obtain ⟨n, rfl, _, _, hw⟩ := open_int ht hval hd
  obtain ⟨m, rfl, hm⟩ := wf_nat hs hw
  exact ⟨m, rfl, hm⟩
theorem open_i64 (ht : P.underlying t = some (.int .i64)) (hval : Value.okWide P W r b0 t v) (hd : DataW.Trod enc P W base (fun _ => true) true t v d p) : ∃ n : Int, v = .int .i64 n ∧ -9223372036854775808 ≤ n ∧ n ≤ 9223372036854775807 := by
  obtain ⟨n, rfl, _, _, hw⟩ := open_int ht hval hd
  exact ⟨n, rfl, wf_int hw⟩
theorem open_str (ht : P.underlying t = some .string) (hval : Value.okWide P W r b0 t v) (hd : DataW.Trod enc P W base (fun _ => true) true t v d p) : ∃ s : List UInt8, v = str s ∧ d = .lit (.string s) := by
  obtain ⟨s, rfl, rfl, _, hs⟩ := ChangeMaps.open_string ht hval hd
  exact ⟨s.data.toList, rfl, rfl⟩
theorem reach_str {ts : List TypeId} {ds : List (DataW H)} (h : (DataW.weightsEach P ts ds).all (· ≤ reachBytes) = true) {j : Nat} {s : List UInt8} (ht : ts[j]? = some t) (hd : ds[j]? = some (.lit (.string s))) : s.length ≤ 140737488351232 :=
  Nat.le_trans (sized_string h ht hd) (by decide)
/-- a slice's cells, wherever they start -/
theorem sl_of_cells {a : Addr} {xs : List Value} (h : ∀ j u, xs[j]? = some u → W.cell? (a.add j) = some u) : Sl W W.heap.size (some a) xs := by
  by_cases hx : xs = []
  · exact .inl hx
  · have h0 : 0 < xs.length := List.length_pos_iff.2 hx
    have hc := h 0 xs[0] (List.getElem?_eq_getElem h0)
    have ha : a.add 0 = a := by unfold Addr.add; simp
    rw [ha] at hc
    obtain ⟨b, o, sp⟩ := a
    have hsp : sp = none := by
      unfold World.cell? at hc
      split at hc
      · cases sp with
        | none => rfl
        | some _ => simp at hc
      · simp at hc
    subst hsp
    refine .inr ⟨b, o, rfl, World.block_lt_of_cell? W _ hc, fun j u hu => ?_⟩
    have := h j u hu
    have hadd : (⟨b, o, none⟩ : Addr).add j = ⟨b, o + j, none⟩ := by unfold Addr.add; split <;> simp_all
    rwa [hadd] at this
theorem nats_of {k : IntKind} (hs : k.signed = false) : ∀ (zs : List Int), (∀ n ∈ zs, (Lit.int k n).wf = true) → ∃ ms : List Nat, zs = ms.map (fun (m : Nat) => (m : Int)) ∧ ∀ m ∈ ms, m ≤ maxN k
  | [], _ => ⟨[], rfl, by simp⟩
  | z :: zs, h => by
    obtain ⟨m, rfl, hm⟩ := wf_nat hs (h z (by simp))
    obtain ⟨ms, rfl, hms⟩ := nats_of hs zs (fun n hn => h n (by simp [hn]))
    exact ⟨m :: ms, rfl, by simpa using ⟨hm, hms⟩⟩
/-- a slice of unsigned numbers -/
theorem open_slN {k : IntKind} (ht : P.underlying t = some (.slice e)) (he : P.underlying e = some (.int k)) (hs : k.signed = false) (hc : P.cellsOf e = 1) (hval : Value.okWide P W r b0 t v) (hd : DataW.Trod enc P W base (fun _ => true) true t v d p) :
    ∃ (l : List Nat) (A : Option Addr) (c : Nat), v = .slice A l.length c ∧ (∀ x ∈ l, x ≤ maxN k) ∧ l.length ≤ 9223372036854775807 ∧ Sl W W.heap.size A (ints k l) := by
  obtain ⟨A, len, cap, rfl⟩ := okWide_slice ht hval
  obtain ⟨fuel, hf⟩ := hd
  rcases open_ints ht he hc hf with ⟨hcs, _⟩ | ⟨a, len', cap', zs, hcs, _, hl, hm, hz, _, hcell, hwz⟩
  · simp [Value.cells] at hcs
    obtain ⟨rfl, rfl, rfl⟩ := hcs
    exact ⟨[], none, 0, rfl, by simp, by simp, .inl rfl⟩
  · simp [Value.cells] at hcs
    obtain ⟨rfl, rfl, rfl⟩ := hcs
    simp only [if_true] at hz
    obtain ⟨ms, hms, hle⟩ := nats_of hs zs hwz
    have hmz : ms.length = zs.length := by rw [hms]; simp
    refine ⟨ms.take len, some a, cap, ?_, fun x hx => hle x (List.mem_of_mem_take hx), ?_, sl_of_cells fun j u hu => ?_⟩
    · rw [List.length_take, Nat.min_eq_left (by omega)]
    · rw [List.length_take]; simp only [maxLen] at hm; omega
    · have hjl : j < (ints k (ms.take len)).length := (List.getElem?_eq_some_iff.1 hu).1
      rw [ints_length, List.length_take] at hjl
      have hj : j < ms.length := by omega
      rw [hcell j (by omega), ← hu, hms]
      simp [ints, List.getElem?_take, show j < len by omega, hj, List.getD]
def strsV (l : List (List UInt8)) : List Value := l.map fun s => str s
theorem strsV_get {l : List (List UInt8)} {i : Nat} (h : i < l.length) : (strsV l)[i]? = some (str l[i]) := by simp [strsV, h]
theorem strsV_length (l : List (List UInt8)) : (strsV l).length = l.length := by simp [strsV]
theorem strsV_append (l m : List (List UInt8)) : strsV (l ++ m) = strsV l ++ strsV m := by simp [strsV]
theorem strsV_one {l : List (List UInt8)} : ∀ u ∈ strsV l, u.oneCell' = true := by
  intro u hu
  obtain ⟨_, _, rfl⟩ := List.mem_map.1 hu
  rfl
theorem weightsAll_mem : ∀ {l : List (DataW H)} {x : DataW H}, x ∈ l → ∀ n ∈ x.weights P e, n ∈ DataW.weightsAll P e l
  | y :: l, x, hx, n, hn => by
    simp only [DataW.weightsAll, List.mem_append]
    rcases List.mem_cons.1 hx with rfl | hx
    · exact .inl hn
    · exact .inr (weightsAll_mem hx n hn)
  | [], _, hx, _, _ => by simp at hx
/-- a slice of texts -/
theorem open_slS (ht : P.underlying t = some (.slice e)) (he : P.underlying e = some .string) (hc : P.cellsOf e = 1) (hval : Value.okWide P W r b0 t v) (hd : DataW.Trod enc P W base (fun _ => true) true t v d p)
    {ts : List TypeId} {ds : List (DataW H)} (hsz : (DataW.weightsEach P ts ds).all (· ≤ reachBytes) = true) {j : Nat} (hj : ts[j]? = some t) (hdj : ds[j]? = some d) :
    ∃ (l : List (List UInt8)) (A : Option Addr) (c : Nat), v = .slice A l.length c ∧ (∀ s ∈ l, s.length ≤ 140737488351232) ∧ l.length ≤ 9223372036854775807 ∧ Sl W W.heap.size A (strsV l) := by
  obtain ⟨A, len, cap, rfl⟩ := okWide_slice ht hval
  obtain ⟨fuel, hf⟩ := hd
  rcases open_strings ht he hc hf with ⟨hcs, _⟩ | ⟨a, len', cap', ss, hcs, _, hl, hm, hz, hx, hcell, hws⟩
  · simp [Value.cells] at hcs
    obtain ⟨rfl, rfl, rfl⟩ := hcs
    exact ⟨[], none, 0, rfl, by simp, by simp, .inl rfl⟩
  · simp [Value.cells] at hcs
    obtain ⟨rfl, rfl, rfl⟩ := hcs
    simp only [if_true] at hz
    simp only [Prod.mk.injEq] at hx
    obtain ⟨rfl, rfl⟩ := hx
    have hlen : (ss.take len).length = len := by rw [List.length_take]; omega
    refine ⟨(ss.take len).map fun s => s.data.toList, some a, cap, by simp [hlen]; omega, ?_, ?_, sl_of_cells fun i u hu => ?_⟩
    · intro s hs
      obtain ⟨s', hs', rfl⟩ := List.mem_map.1 hs
      have hmem : (DataW.lit (.string s'.data.toList) : DataW H) ∈ strs (ss.take len) := List.mem_map.2 ⟨s', hs', rfl⟩
      have h1 : s'.data.toList.length ∈ (DataW.slice (strs (ss.take len)) (strs (ss.drop len)) : DataW H).weights P t := by
        simp only [DataW.weights, ht, List.mem_cons, List.mem_append]
        exact .inr (.inl (weightsAll_mem hmem _ (by simp [DataW.weights])))
      have := List.all_eq_true.1 hsz _ (DataW.weights_mem_each hj hdj _ h1)
      simp only [decide_eq_true_eq] at this
      exact Nat.le_trans this (by decide)
    · rw [List.length_map, hlen]; simp only [maxLen] at hm; omega
    · have hjl : i < (strsV ((ss.take len).map fun s => s.data.toList)).length := (List.getElem?_eq_some_iff.1 hu).1
      rw [strsV_length, List.length_map, hlen] at hjl
      rw [hcell i (by omega), ← hu]
      simp [strsV, List.getElem?_take, hjl, show i < ss.length by omega, List.getD]
end
end Go.Proofs.YtjgeoeeikfjmdaaDoor
/- A law's arguments that are slices of structs or of bools, as the walks take them. No program is spoken of. -/
namespace Go.Proofs.YtjgeoeeikfjmdaaDoor
set_option linter.unnecessarySimpa false
open Go.ChangeShapes Go.WideShapes Go.ChangeAt Go.RowKit Go.Deep
set_option linter.unusedSimpArgs false
set_option linter.unusedVariables false
theorem flatMap_at {α : Type} {cells : α → List Value} {c : Nat} (hc : ∀ a, (cells a).length = c) : ∀ (l : List α) (j : Nat) (u : Value), (l.flatMap cells)[j]? = some u → ∃ i r, ∃ hi : i < l.length, r < c ∧ j = i * c + r ∧ (cells l[i])[r]? = some u
  | [], j, u, h => by simp at h
  | a :: l, j, u, h => by
    rw [List.flatMap_cons] at h
    by_cases hj : j < c
    · rw [List.getElem?_append_left (by rw [hc]; exact hj)] at h
      exact ⟨0, j, by simp, hj, by omega, h⟩
    · rw [List.getElem?_append_right (by rw [hc]; omega), hc] at h
      obtain ⟨i, r, hi, hr, he, hu⟩ := flatMap_at hc l _ u h
      exact ⟨i + 1, r, by simpa using hi, hr, by rw [Nat.succ_mul]; omega, by simpa using hu⟩
section
variable {H : Type} {enc : TypeId × Value → H} {P : Program} {W : World} {base : Nat} {t e : TypeId} {v : Value} {d : DataW H} {p : List MemPlace} {r : Reach} {b0 : Nat}
/-- a slice whose elements are some cells each -/
theorem open_slG {α : Type} [Inhabited α] (cells : α → List Value) (ok : α → Prop) {c : Nat} (hcl : ∀ a, (cells a).length = c) (ht : P.underlying t = some (.slice e)) (hc : P.cellsOf e = c)
    (step : ∀ n cs x, DataW.trod enc P W base (fun _ => true) true n e cs = some x → (∀ m ∈ x.1.weights P e, m ≤ reachBytes) → (∃ es sp, d = .slice es sp ∧ x.1 ∈ es) → ∃ a, cs = cells a ∧ ok a)
    (hval : Value.okWide P W r b0 t v) (hd : DataW.Trod enc P W base (fun _ => true) true t v d p)
    {ts : List TypeId} {ds : List (DataW H)} (hsz : (DataW.weightsEach P ts ds).all (· ≤ reachBytes) = true) {j : Nat} (hj : ts[j]? = some t) (hdj : ds[j]? = some d) :
    ∃ (l : List α) (A : Option Addr) (cap : Nat), v = .slice A l.length cap ∧ (∀ a ∈ l, ok a) ∧ (A = none → l = []) ∧ l.length * P.bytesOf e ≤ reachBytes ∧ l.length ≤ cap ∧ Sl W W.heap.size A (l.flatMap cells) := by
  obtain ⟨A, len, cap, rfl⟩ := okWide_slice ht hval
  obtain ⟨fuel, hf⟩ := hd
  rcases open_slice ht hf with ⟨hcs, _⟩ | ⟨a, len', cap', m, n, D, Pl, hcs, _, hl, hm, hmm, hx, hel⟩
  · simp [Value.cells] at hcs
    obtain ⟨rfl, rfl, rfl⟩ := hcs
    exact ⟨[], none, 0, rfl, by simp, fun _ => rfl, by simp, by simp, .inl rfl⟩
  · simp [Value.cells] at hcs
    obtain ⟨rfl, rfl, rfl⟩ := hcs
    simp only [if_true] at hmm
    subst hmm
    simp only [Prod.mk.injEq] at hx
    obtain ⟨rfl, rfl⟩ := hx
    obtain ⟨B, hB⟩ := choose_lt (α := α) (p := fun i b => W.cells? base (a.add (i * c)) c = some (cells b) ∧ ok b) (n := len) (fun i hi => by
      obtain ⟨cs', h1, h2⟩ := hel i (by omega)
      have hw : ∀ k ∈ (D i).weights P e, k ≤ reachBytes := fun k hk => by
        have hmem : D i ∈ (List.range len).map D := List.mem_map.2 ⟨i, List.mem_range.2 hi, rfl⟩
        have h1 : k ∈ (DataW.slice ((List.range len).map D) ((List.range (m - len)).map fun j => D (len + j)) : DataW H).weights P t := by
          simp only [DataW.weights, ht, List.mem_cons, List.mem_append]
          exact .inr (.inl (weightsAll_mem hmem _ hk))
        have := List.all_eq_true.1 hsz _ (DataW.weights_mem_each hj hdj _ h1)
        simpa using this
      obtain ⟨b, rfl, hb⟩ := step n cs' _ h2 hw ⟨_, _, rfl, List.mem_map.2 ⟨i, List.mem_range.2 hi, rfl⟩⟩
      rw [hc] at h1
      exact ⟨b, h1, hb⟩)
    have hln : ((List.range len).map B).length = len := by simp
    refine ⟨(List.range len).map B, some a, m, by rw [hln], ?_, fun q => (by cases q), ?_, by rw [hln]; exact hl, sl_of_cells fun i u hu => ?_⟩
    · intro b hb
      obtain ⟨i, hi, rfl⟩ := List.mem_map.1 hb
      exact (hB i (List.mem_range.1 hi)).2
    · rw [hln]
      have := sized_slice hsz hj hdj ht
      simp only [List.length_map, List.length_range] at this
      exact Nat.le_trans (Nat.mul_le_mul_right _ (by omega)) this
    · obtain ⟨q, s, hq, hs, rfl, hu'⟩ := flatMap_at hcl _ _ _ hu
      have hq' : q < len := by simpa using hq
      have hg : ((List.range len).map B)[q] = B q := by simp
      rw [hg] at hu'
      rw [← add_add, (World.cells?_some (hB q hq').1).2.2 s hs]
      exact hu'
/-- a slice of bools -/
theorem open_slB (ht : P.underlying t = some (.slice e)) (he : P.underlying e = some .bool) (hc : P.cellsOf e = 1) (hb1 : P.bytesOf e = 1) (hval : Value.okWide P W r b0 t v) (hd : DataW.Trod enc P W base (fun _ => true) true t v d p)
    {ts : List TypeId} {ds : List (DataW H)} (hsz : (DataW.weightsEach P ts ds).all (· ≤ reachBytes) = true) {j : Nat} (hj : ts[j]? = some t) (hdj : ds[j]? = some d) :
    ∃ (l : List Bool) (A : Option Addr) (cap : Nat), v = .slice A l.length cap ∧ (A = none → l = []) ∧ l.length ≤ 140737488351232 ∧ Sl W W.heap.size A (l.map fun b => .bool b) := by
  obtain ⟨l, A, cap, h1, _, h2, h3, _, h4⟩ := open_slG (fun b : Bool => [Value.bool b]) (fun _ => True) (c := 1) (fun _ => rfl) ht hc (fun n cs x hx _ _ => by
    obtain ⟨b, rfl, _⟩ := DataW.trod_bool he hx
    exact ⟨b, rfl, trivial⟩) hval hd hsz hj hdj
  refine ⟨l, A, cap, h1, h2, ?_, ?_⟩
  · rw [hb1, Nat.mul_one] at h3
    exact Nat.le_trans h3 (by decide)
  · have e : ∀ l : List Bool, (l.flatMap fun b => [Value.bool b]) = l.map fun b => .bool b := fun l => by
      induction l with
      | nil => rfl
      | cons b l ih => simp only [List.flatMap_cons, List.map_cons, ih]; rfl
    rwa [e] at h4
/-- two numbers with a sign -/
theorem open_arr2 (ht : P.underlying t = some (.array 2 e)) (he : P.underlying e = some (.int .i64)) (hc : P.cellsOf e = 1) (hC : P.cellsOf t = 2) (hval : Value.okWide P W r b0 t v) (hd : DataW.Trod enc P W base (fun _ => true) true t v d p) :
    ∃ a b : Int, v = .agg [.int .i64 a, .int .i64 b].toArray := by
  obtain ⟨cs, rfl, hs⟩ : ∃ cs, v = .agg cs ∧ cs.size = P.cellsOf t := by
    simp only [Value.okWide, ht] at hval
    obtain ⟨cs, h1, h2, _⟩ := hval
    exact ⟨cs, h1, h2⟩
  obtain ⟨fuel, hf⟩ := hd
  obtain ⟨xs, m, rfl, _, hl, hlen, hx⟩ := DataW.trod_array ht hf
  obtain ⟨l⟩ := cs
  have hs' : l.length = 2 := by simpa [hC] using hs
  match l, hs' with
  | [u0, u1], _ =>
    have g : ∀ i, i < 2 → ∃ y, xs[i]? = some y := fun i hi => ⟨_, List.getElem?_eq_getElem (by rw [hlen]; exact hi)⟩
    obtain ⟨y0, e0⟩ := g 0 (by omega)
    obtain ⟨y1, e1⟩ := g 1 (by omega)
    have f0 := (hx 0 (by omega)).trans e0
    have f1 := (hx 1 (by omega)).trans e1
    rw [hc] at f0 f1
    simp only [Value.cells, Nat.zero_mul, Nat.one_mul, List.drop_zero, List.drop_succ_cons, List.take_succ_cons, List.take_zero] at f0 f1
    obtain ⟨n0, h0, _⟩ := DataW.trod_int he f0
    obtain ⟨n1, h1, _⟩ := DataW.trod_int he f1
    simp only [List.cons.injEq, and_true] at h0 h1
    subst h0 h1
    exact ⟨n0, n1, rfl⟩
/-- a struct by value -/
theorem open_stG {α : Type} (cells : α → List Value) (ok : α → Prop) {fs : Array Field} (ht : P.underlying t = some (.struct fs))
    (step : ∀ n cs x, DataW.trod enc P W base (fun _ => true) true n t cs = some x → (∀ m ∈ x.1.weights P t, m ≤ reachBytes) → ∃ a, cs = cells a ∧ ok a)
    (hval : Value.okWide P W r b0 t v) (hd : DataW.Trod enc P W base (fun _ => true) true t v d p)
    {ts : List TypeId} {ds : List (DataW H)} (hsz : (DataW.weightsEach P ts ds).all (· ≤ reachBytes) = true) {j : Nat} (hj : ts[j]? = some t) (hdj : ds[j]? = some d) :
    ∃ a : α, v = .agg (cells a).toArray ∧ ok a := by
  obtain ⟨⟨l⟩, rfl, hs⟩ := okWide_struct ht hval
  obtain ⟨fuel, hf⟩ := hd
  obtain ⟨a, h1, h2⟩ := step fuel _ _ hf (fun m hm => by
    have := List.all_eq_true.1 hsz _ (DataW.weights_mem_each hj hdj _ hm)
    simpa using this)
  simp only [Value.cells] at h1
  exact ⟨a, by rw [← h1], h2⟩
end
end Go.Proofs.YtjgeoeeikfjmdaaDoor
/- tar: the statements without the document's answer. -/
namespace Go.Proofs.YtjgeoeeikfjmdaaDoor
set_option linter.unnecessarySimpa false
open Go.ChangeShapes Go.WideShapes Go.ChangeAt Go.RowKit Go.Deep Fld Ust Pax Pth Tar
set_option linter.unusedVariables false
set_option linter.unusedSimpArgs false

section
variable {H : Type} {enc : TypeId × Value → H} {W : World} {base : Nat} {v : Value} {d : DataW H} {p : List MemPlace} {r : Reach} {b0 : Nat}
instance : Inhabited En := ⟨⟨[], []⟩⟩
theorem two_cells {l : List Value} (h : l.length = 2) : ∃ a b, l = [a, b] := by
  match l, h with
  | [a, b], _ => exact ⟨a, b, rfl⟩
theorem weight_at {P : Program} {ts : List TypeId} {ds : List (DataW H)} {j : Nat} {t : TypeId} {s : List UInt8} (h : ∀ m ∈ DataW.weightsEach P ts ds, m ≤ reachBytes) (ht : ts[j]? = some t) (hd : ds[j]? = some (.lit (.string s))) : s.length ≤ 140737488351232 :=
  Nat.le_trans (h _ (DataW.weights_mem_each ht hd _ (by simp [DataW.weights]))) (by decide)
set_option maxRecDepth 20000 in
theorem en_shape (n : Nat) (cs : List Value) (x : DataW H × List MemPlace) (h : DataW.trod enc Tryd.prog W base (fun _ => true) true n 24 cs = some x) : ∃ a : En, cs = a.cells ∧ ∃ xs : List (DataW H), x.1 = .agg xs ∧ xs[0]? = some (.lit (.string a.path)) ∧ xs[1]? = some (.lit (.string a.data)) := by
  obtain ⟨xs, m, rfl, rfl, hl, hlen, hf⟩ := DataW.trod_struct Tryd.underlying24 h
  obtain ⟨c0, c1, rfl⟩ := two_cells (hl.trans (by kernel_rfl))
  have g : ∀ i (hi : i < 2), ∃ y, xs[i]? = some y := fun i hi => ⟨_, List.getElem?_eq_getElem (by rw [hlen]; exact hi)⟩
  obtain ⟨y0, e0⟩ := g 0 (by omega)
  obtain ⟨y1, e1⟩ := g 1 (by omega)
  have f0 : DataW.trod enc Tryd.prog W base (fun _ => true) true m 9 ((([c0, c1] : List Value).drop 0).take (Tryd.prog.cellsOf 9)) = some y0 := (hf 0 _ rfl).trans e0
  have f1 : DataW.trod enc Tryd.prog W base (fun _ => true) true m 9 ((([c0, c1] : List Value).drop 1).take (Tryd.prog.cellsOf 9)) = some y1 := (hf 1 _ rfl).trans e1
  rw [show Tryd.prog.cellsOf 9 = 1 by kernel_rfl] at f0 f1
  simp only [List.drop_zero, List.drop_succ_cons, List.take_succ_cons, List.take_zero] at f0 f1
  obtain ⟨s0, h0, hy0, w0⟩ := DataW.trod_string Tryd.underlying9 f0
  obtain ⟨s1, h1, hy1, w1⟩ := DataW.trod_string Tryd.underlying9 f1
  simp only [List.cons.injEq, and_true] at h0 h1
  subst h0 h1
  refine ⟨⟨s0.data.toList, s1.data.toList⟩, rfl, xs.map (·.1), rfl, ?_, ?_⟩
  · rw [List.getElem?_map, e0, hy0]; rfl
  · rw [List.getElem?_map, e1, hy1]; rfl
set_option maxRecDepth 20000 in
theorem en_step (n : Nat) (cs : List Value) (x : DataW H × List MemPlace) (h : DataW.trod enc Tryd.prog W base (fun _ => true) true n 24 cs = some x) (hw : ∀ m ∈ x.1.weights Tryd.prog 24, m ≤ reachBytes) : ∃ a : En, cs = a.cells ∧ EnOk a := by
  obtain ⟨a, h1, xs, h2, h3, h4⟩ := en_shape n cs x h
  have hwe : ∀ k ∈ DataW.weightsEach Tryd.prog [9, 9] xs, k ≤ reachBytes := fun k hk => hw k (by
    rw [h2]
    simp only [DataW.weights, Tryd.underlying24]
    exact hk)
  exact ⟨a, h1, ⟨weight_at (j := 0) hwe rfl h3, weight_at (j := 1) hwe rfl h4⟩⟩
set_option maxRecDepth 20000 in
theorem open_Entry (hval : Value.okWide Tryd.prog W r b0 31 v) (hd : DataW.Trod enc Tryd.prog W base (fun _ => true) true 31 v d p)
    {ts : List TypeId} {ds : List (DataW H)} (hsz : (DataW.weightsEach Tryd.prog ts ds).all (· ≤ reachBytes) = true) {j : Nat} (hj : ts[j]? = some 31) (hdj : ds[j]? = some d) :
    ∃ (l : List En) (A : Option Addr) (cap : Nat), v = .slice A l.length cap ∧ ((∀ x ∈ l, EnOk x) ∧ l.length ≤ 140737488355328) ∧ Sl W W.heap.size A (ensV l) := by
  obtain ⟨l, A, cap, h1, h2, _, h4, _, h3⟩ := open_slG (α := En) En.cells EnOk (c := 2) (fun _ => rfl) Tryd.underlying31 (by kernel_rfl) (fun n cs x hx hw _ => en_step n cs x hx hw) hval hd hsz hj hdj
  refine ⟨l, A, cap, h1, ⟨h2, ?_⟩, h3⟩
  rw [show Tryd.prog.bytesOf 24 = 32 by kernel_rfl] at h4
  simp only [reachBytes] at h4
  omega
end
theorem mlen_of {w : World} (h : w.ShapedOpen Tryd.prog) : ∃ m : Int, w.cell? ⟨0, 0, none⟩ = some (.int .i64 m) := Tryd.laysM219.s1_3 w h
theorem tab_of {W : World} (h : laidMetH Tryd.prog Rows.tarBackRow.laid W) : Tab W := by
  have h2 : laidMet Tryd.prog [("internal/strconv.uint64pow10", Lib.tabData .u64 Lib.pow10Tab)] W := laidMet.tail (laidMet.tail h)
  exact Lib.tabBelow_of_tabIs (Lib.tabIs_of_head (rest := []) (g := 1) (by kernel_rfl) (by kernel_rfl) Tryd.underlying140 Tryd.underlying134 (by kernel_rfl) (by kernel_rfl) h2)
def okB (l : List En) : Bool := l.all fun x => decide (checkP x.path = 0)
theorem okB_snoc (l : List En) (x : En) : okB (l ++ [x]) = (okB l && decide (checkP x.path = 0)) := by simp [okB]
theorem okB_true {l : List En} : okB l = true ↔ ∀ x ∈ l, checkP x.path = 0 := by simp [okB]
theorem light_data {l : List En} (h : hv l ≤ 40000) : ∀ x ∈ l, x.path.length ≤ 40000 ∧ x.data.length ≤ 40000 := fun x hx => by
  have := hv_mem hx
  omega
theorem packT_bad {l : List En} (h : hv l ≤ 40000) (hm : ¬ ∀ x ∈ l, checkP x.path = 0) : packT l = ([], 140) := by
  have key : ∀ l : List En, hv l ≤ 40000 → (¬ ∀ x ∈ l, checkP x.path = 0) → errT l = 140 := by
    intro l
    induction l with
    | nil => intro _ hm; exact absurd (fun x hx => by cases hx) hm
    | cons x l ih =>
      intro h hm
      simp only [hv] at h
      unfold errT
      by_cases c : checkP x.path = 0
      · rw [if_neg (by omega), if_neg (by omega)]
        refine ih (by omega) fun q => hm fun y hy => ?_
        rcases List.mem_cons.1 hy with rfl | hy
        · exact c
        · exact q y hy
      · rw [if_pos c]
  unfold packT
  rw [key l h hm, if_pos (by decide)]
theorem packT_good {l : List En} (h : okL l) : packT l = (catT l ++ nul 1024, 0) := by
  unfold packT
  rw [if_neg (by rw [errT_ok h]; decide)]
set_option maxRecDepth 20000 in
theorem tarBack_s (l : List En) (hl : (∀ x ∈ l, EnOk x) ∧ l.length ≤ 140737488355328) (A : Option Addr) (c : Nat) (behind : List UInt8) (hbl : behind.length ≤ 140737488355328) (w : World) (B : Nat) (hs : Sl w B A (ensV l)) (ht : Tab w) (hm : ∃ m : Int, w.cell? ⟨0, 0, none⟩ = some (.int .i64 m)) :
    Ret Tryd.prog 4 [.slice A l.length c, str behind] w fun v w' => v = .bool true ∧ Ext w w' := by
  have hG : Env w := ⟨ht, hm⟩
  have c0 := light_s l hl.1 hl.2 A c B w hs
  have bye : ∀ w', Ext w w' → Ret Tryd.prog 6 [] w' fun v w'' => v = .bool true ∧ Ext w w'' := fun w' hx => (awake18_s w' (hG.ext hx)).mono fun _ _ h => ⟨h.1, hx.trans h.2⟩
  refine Ret.enter Tryd.func4 rfl Tryd.ntmps4 (by kernel_rfl) rfl ?_
  refine KW.seq (KW.region ?_)
  refine OW.val rfl rfl (EX.assign rfl) ?_
  refine OW.nil ?_
  refine KW.seq (KW.seq ?_)
  rcases Decidable.em (hv l ≤ 40000) with hlight | hlight
  · rw [decide_eq_true hlight] at c0
    refine KW.region ?_
    refine OW.val rfl rfl (EX.move rfl) ?_
    refine OW.call rfl rfl rfl (c0) ?_
    rintro _ w1 ⟨rfl, hx1⟩
    refine OW.val rfl rfl (by first | exact EX.notD rfl | exact EX.notB rfl) ?_
    refine OW.val rfl rfl (EX.move rfl) ?_
    refine OW.val rfl rfl (EX.move rfl) ?_
    refine OW.val rfl rfl (EX.lenS Tryd.underlying9 rfl) ?_
    refine OW.val rfl rfl (by first | exact EX.gtrN (b := 5000) rfl rfl | exact EX.gtrZ rfl rfl) ?_
    refine OW.val rfl rfl (EX.pickF rfl rfl) ?_
    refine OW.nil ?_
    refine KW.condD rfl (fun hbig => ?_) (fun hbig => ?_)
    · refine KW.seq (KW.region ?_)
      refine OW.call rfl rfl rfl (bye w1 hx1) ?_
      rintro _ w2 ⟨rfl, hx2⟩
      refine OW.val rfl rfl (EX.assign rfl) ?_
      refine OW.nil ?_
      refine KW.ret (ret1 rfl rfl ?_)
      exact ⟨rfl, hx2⟩
    · have hld := light_data hlight
      have c2 := pack_s l hlight A c B w1 (hG.ext hx1) (hs.ext hx1)
      obtain ⟨ps, pe, hp, hpw⟩ : ∃ ps pe, packT l = (ps, pe) ∧ True := ⟨_, _, rfl, trivial⟩
      rw [hp] at c2
      refine KW.skip (KW.seq (KW.region ?_))
      refine OW.val rfl rfl (EX.move rfl) ?_
      refine OW.call rfl rfl rfl (c2) ?_
      rintro _ w2 ⟨rfl, hx2⟩
      refine OW.val rfl rfl (EX.move rfl) ?_
      refine OW.val rfl rfl (EX.extract rfl rfl) ?_
      refine OW.val rfl rfl (EX.extract rfl rfl) ?_
      refine OW.val rfl rfl (EX.assign rfl) ?_
      refine OW.val rfl rfl (EX.assign rfl) ?_
      refine OW.nil ?_
      refine KW.seq (KW.region ?_)
      refine OW.val rfl rfl (EX.assign rfl) ?_
      refine OW.nil ?_
      refine KW.seq (KW.seq (KW.region ?_))
      refine OW.val rfl rfl (EX.assign rfl) ?_
      refine OW.nil ?_
      refine KW.block ?_
      have x2 := hx1.trans hx2
      refine KW.loop2 (fun (i : Nat) (wr : World) => i ≤ l.length ∧ Ext w wr) (fun (i : Nat) (wr : World) => [(0, .slice A l.length c), (1, str (behind)), (5, str (ps)), (6, .int .i64 ((pe : Nat) : Int)), (7, .bool (okB (l.take i))), (8, .int .i64 ((i : Nat) : Int))]) (fun (i : Nat) (wr : World) => wr) (fun (i : Nat) (wr : World) => l.length - i) (0) (w2) ⟨rfl, rfl, rfl, rfl, rfl, rfl, trivial⟩ rfl ?_ ?_
      · exact ⟨Nat.zero_le _, x2⟩
      · rintro i wr ⟨hi, hx⟩
        refine KW.seq (KW.seq (KW.region ?_))
        refine OW.val rfl rfl (EX.move rfl) ?_
        refine OW.val rfl rfl (EX.move rfl) ?_
        refine OW.val rfl rfl (EX.lenA Tryd.underlying31 rfl) ?_
        refine OW.val rfl rfl (by first | exact EX.lssN rfl rfl | exact EX.lssZ rfl rfl) ?_
        refine OW.nil ?_
        refine KW.condD rfl (fun hlt => ?_) (fun hlt => ?_)
        · obtain ⟨b, o, rfl, _, hcell⟩ := (hs.ext hx).flat (c := 2) (fun _ => rfl) (by decide) hlt
          have hsn : l.take (i + 1) = l.take i ++ [l[i]] := (List.take_append_getElem hlt).symm
          have hxd := hld l[i] (List.getElem_mem hlt)
          have hmay : okB (l.take (i + 1)) = (okB (l.take i) && decide (checkP (l[i]).path = 0)) := by rw [hsn, okB_snoc]
          refine KW.skip (KW.seq (KW.block (KW.seq ?_)))
          refine KW.cut1 (fun (wq : World) => Ext wr wq) (fun (wq : World) => [(0, .slice (some ⟨b, o, none⟩) l.length c), (1, str (behind)), (5, str (ps)), (6, .int .i64 ((pe : Nat) : Int)), (7, .bool (okB (l.take (i + 1)))), (8, .int .i64 ((i : Nat) : Int))]) (fun (wq : World) => wq) ?_ ?_
          · skip
            rcases hmb : okB (l.take i) with _ | _
            · rw [hmb, Bool.false_and] at hmay
              rw [hmay]
              refine KW.region ?_
              refine OW.val rfl rfl (EX.move rfl) ?_
              refine OW.val rfl rfl (EX.move rfl) ?_
              refine OW.pass rfl rfl ?_
              refine OW.pass rfl rfl ?_
              refine OW.pass rfl rfl ?_
              refine OW.pass rfl rfl ?_
              refine OW.pass rfl rfl ?_
              refine OW.pass rfl rfl ?_
              refine OW.pass rfl rfl ?_
              refine OW.val rfl rfl (EX.pickF rfl rfl) ?_
              refine OW.val rfl rfl (EX.assign rfl) ?_
              refine OW.nil ?_
              refine KW.meet1 (wr) ⟨rfl, rfl, rfl, rfl, rfl, rfl, trivial⟩ rfl ?_
              exact Ext.refl _
            · rw [hmb, Bool.true_and] at hmay
              rw [hmay]
              refine KW.region ?_
              refine OW.val rfl rfl (EX.move rfl) ?_
              refine OW.val rfl rfl (EX.move rfl) ?_
              refine OW.val rfl rfl (EX.move rfl) ?_
              refine OW.val rfl rfl (EX.move rfl) ?_
              refine OW.val rfl rfl (EX.indexAddrS Tryd.underlying31 ti24 rfl rfl (by omega)) ?_
              refine OW.val rfl rfl (EX.fieldAddr (off := 0) Tryd.underlying24 rfl rfl ti9 rfl rfl) ?_
              refine OW.val rfl rfl (EX.load Tryd.underlying9 rfl rfl (hcell 0 _ rfl)) ?_
              refine OW.call rfl rfl rfl (check_s (l[i]).path (by omega) wr) ?_
              rintro _ wq ⟨rfl, hxq⟩
              refine OW.val rfl rfl (by first | exact EX.eqlN (b := 0) rfl rfl | exact EX.eqlZ rfl rfl) ?_
              refine OW.val rfl rfl (EX.pickT rfl rfl) ?_
              refine OW.val rfl rfl (EX.assign rfl) ?_
              refine OW.nil ?_
              refine KW.as 7 (.bool (decide (checkP (l[i]).path = 0))) rfl (congrArg Value.bool (decide_eq_decide.2 (by omega))) ?_
              refine KW.meet1 (wq) ⟨rfl, rfl, rfl, rfl, rfl, rfl, trivial⟩ rfl ?_
              exact hxq
          · rintro wq hxq
            have hcq := ((hs.ext hx).ext hxq).flat (i := i) (c := 2) (fun _ => rfl) (by decide) hlt
            obtain ⟨b', o', hbo, _, hcellq⟩ := hcq
            cases hbo
            have xq := hx.trans hxq
            generalize hxi : l[i] = x at hxd hcell hcellq
            have c3 := entry_s x (by omega) (by omega) wq (hG.ext xq)
            refine KW.seq (KW.region ?_)
            refine OW.val rfl rfl (EX.move rfl) ?_
            refine OW.val rfl rfl (EX.move rfl) ?_
            refine OW.val rfl rfl (EX.indexAddrS Tryd.underlying31 ti24 rfl rfl (by omega)) ?_
            refine OW.val rfl rfl (EX.loadA (l := x.cells) Tryd.underlying24 rfl ti24 rfl rfl hcellq) ?_
            rcases Decidable.em ((entE x).2 = 0) with he | he
            · have hck : checkP x.path = 0 ∧ x.data.length ≤ 262144 := by
                unfold entE at he
                by_cases c1 : checkP x.path = 0
                · exact ⟨c1, by omega⟩
                · rw [if_pos c1] at he; cases he
              have hel := ent_len hck.1 hck.2
              have hee : entE x = (entT x, 0) := by unfold entE; rw [if_neg (by omega), if_neg (by omega)]
              rw [hee] at c3
              (try simp only at c3)
              have c4 := fun w => read_s (entT x ++ behind) (by rw [List.length_append]; omega) w
              rw [read_ent hck.1 hck.2] at c4
              (try simp only at c4)
              refine OW.call rfl rfl rfl (c3) ?_
              rintro _ w4 ⟨rfl, hx4⟩
              refine OW.val rfl rfl (EX.move rfl) ?_
              refine OW.val rfl rfl (EX.extract rfl rfl) ?_
              refine OW.val rfl rfl (EX.extract rfl rfl) ?_
              refine OW.val rfl rfl (EX.assign rfl) ?_
              refine OW.val rfl rfl (EX.assign rfl) ?_
              refine OW.nil ?_
              refine KW.seq (KW.region ?_)
              refine OW.val rfl rfl (EX.move rfl) ?_
              refine OW.val rfl rfl (EX.move rfl) ?_
              refine OW.val rfl rfl (EX.addS rfl rfl (by first | omega | (simp only [List.length_append, List.length_cons, List.length_nil, List.length_take, List.length_drop, List.length_replicate]; omega))) ?_
              have x4 := xq.trans hx4
              refine OW.call rfl rfl rfl (c4 w4 (hG.ext x4)) ?_
              rintro _ w5 ⟨rfl, hx5⟩
              refine OW.val rfl rfl (EX.move rfl) ?_
              refine OW.val rfl rfl (EX.extract rfl rfl) ?_
              refine OW.val rfl rfl (EX.extract rfl rfl) ?_
              refine OW.val rfl rfl (EX.extract rfl rfl) ?_
              have x5 := x4.trans hx5
              refine OW.allocB (l := [str [], str []]) rfl rfl ti24 rfl ?_
              rintro xb w6 hge6 hxb hx6
              refine OW.storeS rfl ti24 rfl rfl rfl (by first | rfl | (simp only [List.all_cons, List.all_nil, Bool.and_true, Bool.true_and, Bool.and_eq_true, Value.oneCell']; repeat (first | assumption | exact Own.one (by assumption) | constructor))) (hxb) (Nat.le_refl _) ?_
              rintro w7 hxb7 hm7
              refine OW.val rfl rfl (EX.assign rfl) ?_
              refine OW.val rfl rfl (EX.assign rfl) ?_
              refine OW.nil ?_
              refine KW.seq ?_
              replace hxb7 : Bk w7 xb 24 x.cells := hxb7
              have x7 : Ext w w7 := below_mo (x5.trans hx6) hm7 (x5.trans hx6).size (fun k hk => by simp at hk; have := x5.size; omega)
              obtain ⟨b', o', hbo, _, hcell7⟩ := (hs.ext x7).flat (i := i) (c := 2) (fun _ => rfl) (by decide) hlt
              cases hbo
              rw [hxi] at hcell7
              refine KW.regionQ (by kernel_rfl) (by kernel_rfl) ?_
              refine QW.val rfl rfl (fun _ => EX.move rfl) ?_
              refine QW.val rfl rfl (fun _ => by first | exact EX.eqlN (b := 0) rfl rfl | exact EX.eqlZ rfl rfl) ?_
              refine QW.val rfl rfl (fun _ => EX.move rfl) ?_
              refine QW.as 64 (.bool true) rfl (congrArg Value.bool (decide_eq_true (rfl))) ?_
              refine QW.val rfl rfl (fun _ => EX.move rfl) ?_
              refine QW.val rfl rfl (fun _ => by first | exact EX.neqN (b := 0) rfl rfl | exact EX.neqZ rfl rfl) ?_
              refine QW.val rfl rfl (fun _ => EX.move rfl) ?_
              refine QW.as 67 (.bool false) rfl (congrArg Value.bool (decide_eq_false ((fun h => h rfl)))) ?_
              refine QW.val rfl rfl (fun _ => EX.loadBk Tryd.underlying24 rfl ti24 rfl (hxb7.drewN _) rfl) ?_
              refine QW.val rfl rfl (fun _ => EX.move rfl) ?_
              refine QW.val rfl rfl (fun _ => EX.move rfl) ?_
              refine QW.val rfl rfl (fun _ => EX.indexAddrS Tryd.underlying31 ti24 rfl rfl (by omega)) ?_
              refine QW.val rfl rfl (fun _ => EX.loadA (w := w7.drewN _) (l := x.cells) Tryd.underlying24 rfl ti24 rfl rfl hcell7) ?_
              refine QW.val rfl rfl (fun _ => EX.neqG Tryd.underlying24 (by kernel_rfl) (by kernel_rfl) rfl rfl (.cons (by decide) Tryd.underlying9 rfl rfl rfl (eq_str Tryd.underlying9) (.cons (by decide) Tryd.underlying9 rfl rfl rfl (eq_str Tryd.underlying9) .nil)) rfl) ?_
              refine QW.val rfl rfl (fun _ => EX.pickF rfl rfl) ?_
              refine QW.val rfl rfl (fun _ => EX.move rfl) ?_
              refine QW.as 75 (.bool false) rfl ((congrArg Value.bool (en_ne x x)).trans (congrArg Value.bool (decide_eq_false (fun h => h rfl)))) ?_
              refine QW.val rfl rfl (fun _ => EX.move rfl) ?_
              refine QW.val rfl rfl (fun _ => EX.move rfl) ?_
              refine QW.val rfl rfl (fun _ => EX.lenS Tryd.underlying9 rfl) ?_
              refine QW.val rfl rfl (fun _ => by first | exact EX.neqN rfl rfl | exact EX.neqZ rfl rfl) ?_
              refine QW.val rfl rfl (fun _ => EX.pickF rfl rfl) ?_
              refine QW.val rfl rfl (fun _ => EX.move rfl) ?_
              refine QW.as 81 (.bool false) rfl (congrArg Value.bool (decide_eq_false ((fun h => h rfl)))) ?_
              refine QW.val rfl rfl (fun _ => EX.move rfl) ?_
              refine QW.val rfl rfl (fun _ => by first | exact EX.remN (b := 512) rfl rfl (by omega) | exact EX.remZ rfl rfl (by decide)) ?_
              refine QW.val rfl rfl (fun _ => by first | exact EX.neqN (b := 0) rfl rfl | exact EX.neqZ rfl rfl) ?_
              refine QW.val rfl rfl (fun _ => EX.pickF rfl rfl) ?_
              refine QW.val rfl rfl (fun _ => EX.pickT rfl rfl) ?_
              refine QW.nil (fun nq => ?_)
              refine KW.as 86 (.bool false) rfl (congrArg Value.bool (decide_eq_false ((fun h => h (by omega))))) ?_
              refine KW.condF rfl (KW.skip (KW.leave (KW.region ?_)))
              refine OW.val rfl rfl (EX.move rfl) ?_
              refine OW.val rfl rfl (by first | exact EX.addN (b := 1) (m := 9223372036854775807) rfl rfl rfl (by omega) | exact EX.addZ (m := 9223372036854775807) rfl rfl rfl rfl (by omega)) ?_
              refine OW.val rfl rfl (EX.assign rfl) ?_
              refine OW.nil ?_
              refine KW.back2 (i + 1) (w7.drewN nq) ⟨rfl, rfl, rfl, rfl, rfl, rfl, trivial⟩ rfl ?_ (by omega)
              exact ⟨by omega, x7.trans (Ext.drewN w7 nq)⟩
            · have c4 := fun t ht w => read_s (t ++ behind) ht w
              have hnil : (entE x).1 = [] := by
                unfold entE at he ⊢
                by_cases c1 : checkP x.path = 0
                · rw [if_neg (by omega), if_neg (by omega)] at he
                  exact absurd rfl he
                · rw [if_pos c1]
              have hnl : (entE x).1.length = 0 := by rw [hnil]; rfl
              refine OW.call rfl rfl rfl (c3) ?_
              rintro _ w4 ⟨rfl, hx4⟩
              refine OW.val rfl rfl (EX.move rfl) ?_
              refine OW.val rfl rfl (EX.extract rfl rfl) ?_
              refine OW.val rfl rfl (EX.extract rfl rfl) ?_
              refine OW.val rfl rfl (EX.assign rfl) ?_
              refine OW.val rfl rfl (EX.assign rfl) ?_
              refine OW.nil ?_
              refine KW.seq (KW.region ?_)
              refine OW.val rfl rfl (EX.move rfl) ?_
              refine OW.val rfl rfl (EX.move rfl) ?_
              refine OW.val rfl rfl (EX.addS rfl rfl (by first | omega | (simp only [List.length_append, List.length_cons, List.length_nil, List.length_take, List.length_drop, List.length_replicate]; omega))) ?_
              have x4 := xq.trans hx4
              have hcl4 : ((entE x).1 ++ behind).length ≤ 140737488355328 := by rw [hnil]; exact hbl
              refine OW.call rfl rfl rfl (c4 _ hcl4 w4 (hG.ext x4)) ?_
              rintro _ w5 ⟨rfl, hx5⟩
              refine OW.val rfl rfl (EX.move rfl) ?_
              refine OW.val rfl rfl (EX.extract rfl rfl) ?_
              refine OW.val rfl rfl (EX.extract rfl rfl) ?_
              refine OW.val rfl rfl (EX.extract rfl rfl) ?_
              have x5 := x4.trans hx5
              refine OW.allocB (l := [str [], str []]) rfl rfl ti24 rfl ?_
              rintro xb w6 hge6 hxb hx6
              refine OW.storeS rfl ti24 rfl rfl rfl (by first | rfl | (simp only [List.all_cons, List.all_nil, Bool.and_true, Bool.true_and, Bool.and_eq_true, Value.oneCell']; repeat (first | assumption | exact Own.one (by assumption) | constructor))) (hxb) (Nat.le_refl _) ?_
              rintro w7 hxb7 hm7
              refine OW.val rfl rfl (EX.assign rfl) ?_
              refine OW.val rfl rfl (EX.assign rfl) ?_
              refine OW.nil ?_
              refine KW.seq ?_
              have x7 : Ext w w7 := below_mo (x5.trans hx6) hm7 (x5.trans hx6).size (fun k hk => by simp at hk; have := x5.size; omega)
              refine KW.regionQ (by kernel_rfl) (by kernel_rfl) ?_
              refine QW.val rfl rfl (fun _ => EX.move rfl) ?_
              refine QW.val rfl rfl (fun _ => by first | exact EX.eqlN (b := 0) rfl rfl | exact EX.eqlZ rfl rfl) ?_
              refine QW.val rfl rfl (fun _ => EX.move rfl) ?_
              refine QW.as 64 (.bool false) rfl (congrArg Value.bool (decide_eq_false ((fun h => he (by omega))))) ?_
              refine QW.pass rfl rfl ?_
              refine QW.pass rfl rfl ?_
              refine QW.pass rfl rfl ?_
              refine QW.pass rfl rfl ?_
              refine QW.pass rfl rfl ?_
              refine QW.pass rfl rfl ?_
              refine QW.pass rfl rfl ?_
              refine QW.pass rfl rfl ?_
              refine QW.pass rfl rfl ?_
              refine QW.pass rfl rfl ?_
              refine QW.pass rfl rfl ?_
              refine QW.pass rfl rfl ?_
              refine QW.pass rfl rfl ?_
              refine QW.pass rfl rfl ?_
              refine QW.pass rfl rfl ?_
              refine QW.pass rfl rfl ?_
              refine QW.pass rfl rfl ?_
              refine QW.pass rfl rfl ?_
              refine QW.pass rfl rfl ?_
              refine QW.pass rfl rfl ?_
              refine QW.pass rfl rfl ?_
              refine QW.val rfl rfl (fun _ => EX.pickF rfl rfl) ?_
              refine QW.nil (fun nq => ?_)
              refine KW.condF rfl (KW.skip (KW.leave (KW.region ?_)))
              refine OW.val rfl rfl (EX.move rfl) ?_
              refine OW.val rfl rfl (by first | exact EX.addN (b := 1) (m := 9223372036854775807) rfl rfl rfl (by omega) | exact EX.addZ (m := 9223372036854775807) rfl rfl rfl rfl (by omega)) ?_
              refine OW.val rfl rfl (EX.assign rfl) ?_
              refine OW.nil ?_
              refine KW.back2 (i + 1) (w7.drewN nq) ⟨rfl, rfl, rfl, rfl, rfl, rfl, trivial⟩ rfl ?_ (by omega)
              exact ⟨by omega, x7.trans (Ext.drewN w7 nq)⟩
        · obtain rfl : i = l.length := by omega
          rw [List.take_length]
          refine KW.exit rfl (KW.seq (KW.seq (KW.region ?_)))
          refine OW.val rfl rfl (EX.move rfl) ?_
          refine OW.val rfl rfl (by first | exact EX.notD rfl | exact EX.notB rfl) ?_
          refine OW.nil ?_
          rcases hmay : okB l with _ | _
          · skip
            have hmay : ¬ ∀ x ∈ l, checkP x.path = 0 := fun h => by rw [okB_true.2 h] at hmay; cases hmay
            rw [packT_bad hlight hmay] at hp
            injection hp with hp1 hp2
            subst hp1 hp2
            refine KW.condT rfl (KW.seq ?_)
            refine KW.region ?_
            refine OW.val rfl rfl (EX.move rfl) ?_
            refine OW.val rfl rfl (EX.eqlS (r := []) rfl rfl) ?_
            refine OW.val rfl rfl (EX.move rfl) ?_
            refine OW.as 91 (.bool true) rfl (congrArg Value.bool (decide_eq_true (rfl))) ?_
            refine OW.val rfl rfl (EX.move rfl) ?_
            refine OW.val rfl rfl (by first | exact EX.eqlN (b := 140) rfl rfl | exact EX.eqlZ rfl rfl) ?_
            refine OW.val rfl rfl (EX.pickT rfl rfl) ?_
            refine OW.val rfl rfl (EX.move rfl) ?_
            refine OW.as 95 (.bool true) rfl (congrArg Value.bool (decide_eq_true (rfl))) ?_
            refine OW.call rfl rfl rfl (bye wr hx) ?_
            rintro _ w3 ⟨rfl, hx3⟩
            refine OW.val rfl rfl (EX.pickT rfl rfl) ?_
            refine OW.val rfl rfl (EX.assign rfl) ?_
            refine OW.nil ?_
            refine KW.ret (ret1 rfl rfl ?_)
            exact ⟨rfl, hx3⟩
          · rw [okB_true] at hmay
            have hok : okL l := fun x hx => ⟨hmay x hx, by have := (hld x hx).2; omega⟩
            rw [packT_good hok] at hp
            injection hp with hp1 hp2
            subst hp1 hp2
            have hcl := cat_le l hok
            have hcm := cat_mod l hok
            have hsl : (catT l ++ nul 1024 ++ behind).length = (catT l).length + 1024 + behind.length := by rw [List.length_append, List.length_append, nul_len]
            have c5 := unpack_s (catT l ++ nul 1024 ++ behind) (by omega) wr (hG.ext hx)
            rw [List.append_assoc, unpack_back hok (by decide) behind (by rw [← List.append_assoc, hsl]; omega), ← List.append_assoc] at c5
            have hpl : (catT l ++ nul 1024).length = (catT l).length + 1024 := by rw [List.length_append, nul_len]
            generalize catT l ++ nul 1024 = ps at c5 hpl
            refine KW.condF rfl (KW.skip (KW.seq (KW.region ?_)))
            refine OW.val rfl rfl (EX.move rfl) ?_
            refine OW.val rfl rfl (EX.move rfl) ?_
            refine OW.val rfl rfl (EX.addS rfl rfl (by first | omega | (simp only [List.length_append, List.length_cons, List.length_nil, List.length_take, List.length_drop, List.length_replicate]; omega))) ?_
            refine OW.call rfl rfl rfl (c5) ?_
            rintro _ w3 ⟨u, rfl, hown, hx3⟩
            refine OW.val rfl rfl (EX.move rfl) ?_
            refine OW.val rfl rfl (EX.extract rfl rfl) ?_
            refine OW.val rfl rfl (EX.extract rfl rfl) ?_
            refine OW.val rfl rfl (EX.assign rfl) ?_
            refine OW.val rfl rfl (EX.assign rfl) ?_
            refine OW.nil ?_
            refine KW.seq ?_
            have x3 := hx.trans hx3
            obtain ⟨A3, cc3, rfl, _, hsl3⟩ := hown.slice
            have c6 := sameE_s l l A3 A cc3 c w3 _ _ hsl3 (hs.ext x3) hl.2
            rw [decide_eq_true rfl] at c6
            refine KW.region ?_
            refine OW.val rfl rfl (EX.move rfl) ?_
            refine OW.val rfl rfl (by first | exact EX.eqlN (b := 0) rfl rfl | exact EX.eqlZ rfl rfl) ?_
            refine OW.val rfl rfl (EX.move rfl) ?_
            refine OW.as 107 (.bool true) rfl (congrArg Value.bool (decide_eq_true (rfl))) ?_
            refine OW.val rfl rfl (EX.move rfl) ?_
            refine OW.val rfl rfl (by first | exact EX.eqlN (b := 0) rfl rfl | exact EX.eqlZ rfl rfl) ?_
            refine OW.val rfl rfl (EX.pickT rfl rfl) ?_
            refine OW.val rfl rfl (EX.move rfl) ?_
            refine OW.as 111 (.bool true) rfl (congrArg Value.bool (decide_eq_true (rfl))) ?_
            refine OW.val rfl rfl (EX.move rfl) ?_
            refine OW.val rfl rfl (EX.move rfl) ?_
            refine OW.call rfl rfl rfl (c6) ?_
            rintro _ w4 ⟨rfl, hx4⟩
            refine OW.val rfl rfl (EX.pickT rfl rfl) ?_
            refine OW.val rfl rfl (EX.move rfl) ?_
            refine OW.val rfl rfl (EX.move rfl) ?_
            refine OW.val rfl rfl (EX.lenS Tryd.underlying9 rfl) ?_
            refine OW.val rfl rfl (by first | exact EX.remN (b := 512) rfl rfl (by omega) | exact EX.remZ rfl rfl (by decide)) ?_
            refine OW.val rfl rfl (by first | exact EX.eqlN (b := 0) rfl rfl | exact EX.eqlZ rfl rfl) ?_
            refine OW.val rfl rfl (EX.pickT rfl rfl) ?_
            refine OW.val rfl rfl (EX.move rfl) ?_
            refine OW.as 122 (.bool true) rfl (congrArg Value.bool (decide_eq_true ((by omega)))) ?_
            refine OW.call rfl rfl rfl (bye w4 (x3.trans hx4)) ?_
            rintro _ w5 ⟨rfl, hx5⟩
            refine OW.val rfl rfl (EX.pickT rfl rfl) ?_
            refine OW.val rfl rfl (EX.assign rfl) ?_
            refine OW.nil ?_
            refine KW.ret (ret1 rfl rfl ?_)
            exact ⟨rfl, hx5⟩
  · rw [decide_eq_false hlight] at c0
    refine KW.region ?_
    refine OW.val rfl rfl (EX.move rfl) ?_
    refine OW.call rfl rfl rfl (c0) ?_
    rintro _ w1 ⟨rfl, hx1⟩
    refine OW.val rfl rfl (by first | exact EX.notD rfl | exact EX.notB rfl) ?_
    refine OW.val rfl rfl (EX.move rfl) ?_
    refine OW.pass rfl rfl ?_
    refine OW.pass rfl rfl ?_
    refine OW.pass rfl rfl ?_
    refine OW.val rfl rfl (EX.pickT rfl rfl) ?_
    refine OW.nil ?_
    refine KW.condT rfl (KW.seq (KW.region ?_))
    refine OW.call rfl rfl rfl (bye w1 hx1) ?_
    rintro _ w2 ⟨rfl, hx2⟩
    refine OW.val rfl rfl (EX.assign rfl) ?_
    refine OW.nil ?_
    refine KW.ret (ret1 rfl rfl ?_)
    exact ⟨rfl, hx2⟩
end Go.Proofs.YtjgeoeeikfjmdaaDoor
/- tar: files that are cut off. -/
namespace Go.Proofs.YtjgeoeeikfjmdaaDoor
set_option linter.unnecessarySimpa false
open Go.ChangeShapes Go.WideShapes Go.ChangeAt Go.RowKit Go.Deep Fld Ust Pax Pth Tar
set_option linter.unusedVariables false
set_option linter.unusedSimpArgs false

theorem cut_len (l : List En) {n : Nat} (hn : n ≤ (catT l ++ nul 1024).length) : ((catT l ++ nul 1024).take n).length = n := by rw [List.length_take]; omega
theorem cut_late (l : List En) {n : Nat} (h1 : (catT l).length ≤ n) (hn : n ≤ (catT l ++ nul 1024).length) : (catT l ++ nul 1024).take n = catT l ++ (nul (n - (catT l).length) ++ []) := by
  rw [List.append_nil, List.take_append, List.take_of_length_le h1]
  congr 1
  unfold nul
  rw [List.take_replicate]
  congr 1
  rw [List.length_append] at hn
  have : (nul 1024).length = 1024 := nul_len _
  omega
set_option maxRecDepth 20000 in
theorem tarCuts_s (l : List En) (hl : (∀ x ∈ l, EnOk x) ∧ l.length ≤ 140737488355328) (A : Option Addr) (c : Nat) (at_ : Int) (a0 : -9223372036854775808 ≤ at_) (a1 : at_ ≤ 9223372036854775807) (w : World) (B : Nat) (hs : Sl w B A (ensV l)) (ht : Tab w) (hm : ∃ m : Int, w.cell? ⟨0, 0, none⟩ = some (.int .i64 m)) :
    Ret Tryd.prog 5 [.slice A l.length c, .int .i64 at_] w fun v w' => v = .bool true ∧ Ext w w' := by
  have hG : Env w := ⟨ht, hm⟩
  have c0 := light_s l hl.1 hl.2 A c B w hs
  have bye : ∀ w', Ext w w' → Ret Tryd.prog 6 [] w' fun v w'' => v = .bool true ∧ Ext w w'' := fun w' hx => (awake18_s w' (hG.ext hx)).mono fun _ _ h => ⟨h.1, hx.trans h.2⟩
  refine Ret.enter Tryd.func5 rfl Tryd.ntmps5 (by kernel_rfl) rfl ?_
  refine KW.seq (KW.region ?_)
  refine OW.val rfl rfl (EX.assign rfl) ?_
  refine OW.nil ?_
  refine KW.seq (KW.seq (KW.region ?_))
  refine OW.val rfl rfl (EX.move rfl) ?_
  rcases Decidable.em (hv l ≤ 40000) with hlight | hlight
  · rw [decide_eq_true hlight] at c0
    refine OW.call rfl rfl rfl (c0) ?_
    rintro _ w1 ⟨rfl, hx1⟩
    refine OW.val rfl rfl (by first | exact EX.notD rfl | exact EX.notB rfl) ?_
    refine OW.nil ?_
    refine KW.condF rfl (KW.skip (KW.seq (KW.region ?_)))
    refine OW.val rfl rfl (EX.move rfl) ?_
    have hld := light_data hlight
    have c2 := pack_s l hlight A c B w1 (hG.ext hx1) (hs.ext hx1)
    rcases Decidable.em (∀ x ∈ l, checkP x.path = 0) with hmay | hmay
    · have hok : okL l := fun x hx => ⟨hmay x hx, by have := (hld x hx).2; omega⟩
      rw [packT_good hok] at c2
      have hcl := cat_le l hok
      have hsl : (catT l ++ nul 1024).length = (catT l).length + 1024 := by rw [List.length_append, nul_len]
      have hcut := fun n hn => cut_late l (n := n) hn
      have hcutl := fun n => cut_len l (n := n)
      have hunp := fun n (h : (catT l).length + 512 ≤ n) (h2 : n ≤ (catT l).length + 1024) => unpack_back hok (n := n - (catT l).length) (by omega) [] (by rw [List.append_nil, List.length_append, nul_len]; omega)
      have hbad := fun n (h : n < (catT l).length + 512) => unpack_cut hok (a := n) h (by omega)
      generalize (catT l).length = cl at hcl hsl hcut hunp hbad
      simp only at c2
      generalize hps : catT l ++ nul 1024 = ps at *
      refine OW.call rfl rfl rfl (c2) ?_
      rintro _ w2 ⟨rfl, hx2⟩
      refine OW.val rfl rfl (EX.move rfl) ?_
      refine OW.val rfl rfl (EX.extract rfl rfl) ?_
      refine OW.val rfl rfl (EX.extract rfl rfl) ?_
      refine OW.val rfl rfl (EX.assign rfl) ?_
      refine OW.val rfl rfl (EX.assign rfl) ?_
      refine OW.nil ?_
      refine KW.seq (KW.seq (KW.region ?_))
      refine OW.val rfl rfl (EX.move rfl) ?_
      refine OW.val rfl rfl (by first | exact EX.neqN (b := 0) rfl rfl | exact EX.neqZ rfl rfl) ?_
      refine OW.nil ?_
      have x2 := hx1.trans hx2
      refine KW.condD rfl (fun he => ?_) (fun he => ?_)
      · exact absurd rfl he
      · refine KW.skip (KW.seq (KW.seq ?_))
        rcases Int.lt_or_le at_ 0 with hneg | hpos
        · refine KW.region ?_
          refine OW.val rfl rfl (EX.move rfl) ?_
          refine OW.val rfl rfl (by first | exact EX.lssN (b := 0) rfl rfl | exact EX.lssZ rfl rfl) ?_
          refine OW.val rfl rfl (EX.move rfl) ?_
          refine OW.as 23 (.bool true) rfl (congrArg Value.bool (decide_eq_true (hneg))) ?_
          refine OW.pass rfl rfl ?_
          refine OW.pass rfl rfl ?_
          refine OW.pass rfl rfl ?_
          refine OW.pass rfl rfl ?_
          refine OW.val rfl rfl (EX.pickT rfl rfl) ?_
          refine OW.val rfl rfl (EX.move rfl) ?_
          refine OW.pass rfl rfl ?_
          refine OW.pass rfl rfl ?_
          refine OW.pass rfl rfl ?_
          refine OW.val rfl rfl (EX.pickT rfl rfl) ?_
          refine OW.nil ?_
          refine KW.condT rfl (KW.seq ?_)
          refine KW.region ?_
          refine OW.val rfl rfl (EX.move rfl) ?_
          refine OW.val rfl rfl (EX.lenS Tryd.underlying9 rfl) ?_
          refine OW.val rfl rfl (by first | exact EX.geqN (b := 1024) rfl rfl | exact EX.geqZ rfl rfl) ?_
          refine OW.val rfl rfl (EX.move rfl) ?_
          refine OW.as 37 (.bool true) rfl (congrArg Value.bool (decide_eq_true ((by omega)))) ?_
          refine OW.call rfl rfl rfl (bye w2 x2) ?_
          rintro _ w3 ⟨rfl, hx3⟩
          refine OW.val rfl rfl (EX.pickT rfl rfl) ?_
          refine OW.val rfl rfl (EX.assign rfl) ?_
          refine OW.nil ?_
          refine KW.ret (ret1 rfl rfl ?_)
          exact ⟨rfl, hx3⟩
        · obtain ⟨n, rfl⟩ := Int.eq_ofNat_of_zero_le hpos
          refine KW.region ?_
          refine OW.val rfl rfl (EX.move rfl) ?_
          refine OW.val rfl rfl (by first | exact EX.lssN (b := 0) rfl rfl | exact EX.lssZ rfl rfl) ?_
          refine OW.val rfl rfl (EX.move rfl) ?_
          refine OW.as 23 (.bool false) rfl (congrArg Value.bool (decide_eq_false ((by omega)))) ?_
          refine OW.val rfl rfl (EX.move rfl) ?_
          refine OW.val rfl rfl (EX.move rfl) ?_
          refine OW.val rfl rfl (EX.lenS Tryd.underlying9 rfl) ?_
          refine OW.val rfl rfl (by first | exact EX.gtrN rfl rfl | exact EX.gtrZ rfl rfl) ?_
          refine OW.val rfl rfl (EX.pickF rfl rfl) ?_
          refine OW.val rfl rfl (EX.move rfl) ?_
          refine OW.splitD 29 rfl (fun hbig => ?_) (fun hbig => ?_)
          · refine OW.pass rfl rfl ?_
            refine OW.pass rfl rfl ?_
            refine OW.pass rfl rfl ?_
            refine OW.val rfl rfl (EX.pickT rfl rfl) ?_
            refine OW.nil ?_
            refine KW.condT rfl (KW.seq ?_)
            refine KW.region ?_
            refine OW.val rfl rfl (EX.move rfl) ?_
            refine OW.val rfl rfl (EX.lenS Tryd.underlying9 rfl) ?_
            refine OW.val rfl rfl (by first | exact EX.geqN (b := 1024) rfl rfl | exact EX.geqZ rfl rfl) ?_
            refine OW.val rfl rfl (EX.move rfl) ?_
            refine OW.as 37 (.bool true) rfl (congrArg Value.bool (decide_eq_true ((by omega)))) ?_
            refine OW.call rfl rfl rfl (bye w2 x2) ?_
            rintro _ w3 ⟨rfl, hx3⟩
            refine OW.val rfl rfl (EX.pickT rfl rfl) ?_
            refine OW.val rfl rfl (EX.assign rfl) ?_
            refine OW.nil ?_
            refine KW.ret (ret1 rfl rfl ?_)
            exact ⟨rfl, hx3⟩
          · refine OW.val rfl rfl (EX.move rfl) ?_
            refine OW.val rfl rfl (EX.lenS Tryd.underlying9 rfl) ?_
            refine OW.val rfl rfl (by first | exact EX.lssN (b := 1024) rfl rfl | exact EX.lssZ rfl rfl) ?_
            refine OW.val rfl rfl (EX.pickF rfl rfl) ?_
            refine OW.nil ?_
            refine KW.as 33 (.bool false) rfl (congrArg Value.bool (decide_eq_false ((by omega)))) ?_
            refine KW.condF rfl (KW.skip (KW.seq (KW.region ?_)))
            refine OW.val rfl rfl (EX.move rfl) ?_
            refine OW.val rfl rfl (EX.move rfl) ?_
            refine OW.val rfl rfl (EX.sliceFH Tryd.underlying9 rfl rfl (by omega)) ?_
            have hnl := hcutl n (by omega)
            have c5 := unpack_s (ps.take n) (by omega) w2 (hG.ext x2)
            refine OW.call rfl rfl rfl (c5) ?_
            rintro _ w3 ⟨u, rfl, hown, hx3⟩
            refine OW.val rfl rfl (EX.move rfl) ?_
            refine OW.val rfl rfl (EX.extract rfl rfl) ?_
            refine OW.val rfl rfl (EX.extract rfl rfl) ?_
            refine OW.val rfl rfl (EX.assign rfl) ?_
            refine OW.val rfl rfl (EX.assign rfl) ?_
            refine OW.nil ?_
            refine KW.seq (KW.seq (KW.region ?_))
            refine OW.val rfl rfl (EX.move rfl) ?_
            refine OW.val rfl rfl (EX.move rfl) ?_
            refine OW.val rfl rfl (EX.lenS Tryd.underlying9 rfl) ?_
            refine OW.val rfl rfl (by first | exact EX.subN (b := 512) (m := 9223372036854775807) rfl rfl rfl (by omega) | exact EX.subZ (m := 9223372036854775807) rfl rfl rfl rfl (by omega)) ?_
            refine OW.val rfl rfl (by first | exact EX.geqN rfl rfl | exact EX.geqZ rfl rfl) ?_
            refine OW.nil ?_
            have x3 := x2.trans hx3
            obtain ⟨A3, cc3, rfl, _, hsl3⟩ := hown.slice
            refine KW.condD rfl (fun hlate => ?_) (fun hlate => ?_)
            · have e : unpackT (ps.take n) = (l, 0) := by rw [hcut n (by omega) (by omega)]; exact hunp n (by omega) (by omega)
              rw [e] at hsl3
              have c6 := sameE_s l l A3 A cc3 c w3 _ _ hsl3 (hs.ext x3) hl.2
              rw [decide_eq_true rfl] at c6
              rw [e]
              refine KW.seq (KW.region ?_)
              refine OW.val rfl rfl (EX.move rfl) ?_
              refine OW.val rfl rfl (by first | exact EX.eqlN (b := 0) rfl rfl | exact EX.eqlZ rfl rfl) ?_
              refine OW.val rfl rfl (EX.move rfl) ?_
              refine OW.as 54 (.bool true) rfl (congrArg Value.bool (decide_eq_true (rfl))) ?_
              refine OW.val rfl rfl (EX.move rfl) ?_
              refine OW.val rfl rfl (EX.move rfl) ?_
              refine OW.call rfl rfl rfl (c6) ?_
              rintro _ w4 ⟨rfl, hx4⟩
              refine OW.val rfl rfl (EX.pickT rfl rfl) ?_
              refine OW.val rfl rfl (EX.move rfl) ?_
              refine OW.call rfl rfl rfl (bye w4 (x3.trans hx4)) ?_
              rintro _ w5 ⟨rfl, hx5⟩
              refine OW.val rfl rfl (EX.pickT rfl rfl) ?_
              refine OW.val rfl rfl (EX.assign rfl) ?_
              refine OW.nil ?_
              refine KW.ret (ret1 rfl rfl ?_)
              exact ⟨rfl, hx5⟩
            · have e : unpackT (ps.take n) = ([], 180) := hbad n (by omega)
              rw [e]
              refine KW.skip (KW.seq (KW.region ?_))
              refine OW.val rfl rfl (EX.move rfl) ?_
              refine OW.val rfl rfl (by first | exact EX.eqlN (b := 180) rfl rfl | exact EX.eqlZ rfl rfl) ?_
              refine OW.val rfl rfl (EX.move rfl) ?_
              refine OW.as 64 (.bool true) rfl (congrArg Value.bool (decide_eq_true (rfl))) ?_
              refine OW.val rfl rfl (EX.move rfl) ?_
              refine OW.val rfl rfl (EX.lenA Tryd.underlying31 rfl) ?_
              refine OW.val rfl rfl (by first | exact EX.eqlN (b := 0) rfl rfl | exact EX.eqlZ rfl rfl) ?_
              refine OW.val rfl rfl (EX.pickT rfl rfl) ?_
              refine OW.val rfl rfl (EX.move rfl) ?_
              refine OW.as 69 (.bool true) rfl (congrArg Value.bool (decide_eq_true (rfl))) ?_
              refine OW.call rfl rfl rfl (bye w3 x3) ?_
              rintro _ w4 ⟨rfl, hx4⟩
              refine OW.val rfl rfl (EX.pickT rfl rfl) ?_
              refine OW.val rfl rfl (EX.assign rfl) ?_
              refine OW.nil ?_
              refine KW.ret (ret1 rfl rfl ?_)
              exact ⟨rfl, hx4⟩
    · rw [packT_bad hlight hmay] at c2
      refine OW.call rfl rfl rfl (c2) ?_
      rintro _ w2 ⟨rfl, hx2⟩
      refine OW.val rfl rfl (EX.move rfl) ?_
      refine OW.val rfl rfl (EX.extract rfl rfl) ?_
      refine OW.val rfl rfl (EX.extract rfl rfl) ?_
      refine OW.val rfl rfl (EX.assign rfl) ?_
      refine OW.val rfl rfl (EX.assign rfl) ?_
      refine OW.nil ?_
      refine KW.seq (KW.seq (KW.region ?_))
      refine OW.val rfl rfl (EX.move rfl) ?_
      refine OW.val rfl rfl (by first | exact EX.neqN (b := 0) rfl rfl | exact EX.neqZ rfl rfl) ?_
      refine OW.nil ?_
      refine KW.as 19 (.bool true) rfl (congrArg Value.bool (decide_eq_true ((fun h => by cases h)))) ?_
      refine KW.condT rfl (KW.seq (KW.region ?_))
      refine OW.call rfl rfl rfl (bye w2 (hx1.trans hx2)) ?_
      rintro _ w3 ⟨rfl, hx3⟩
      refine OW.val rfl rfl (EX.assign rfl) ?_
      refine OW.nil ?_
      refine KW.ret (ret1 rfl rfl ?_)
      exact ⟨rfl, hx3⟩
  · rw [decide_eq_false hlight] at c0
    refine OW.call rfl rfl rfl (c0) ?_
    rintro _ w1 ⟨rfl, hx1⟩
    refine OW.val rfl rfl (by first | exact EX.notD rfl | exact EX.notB rfl) ?_
    refine OW.nil ?_
    refine KW.condT rfl (KW.seq (KW.region ?_))
    refine OW.call rfl rfl rfl (bye w1 hx1) ?_
    rintro _ w2 ⟨rfl, hx2⟩
    refine OW.val rfl rfl (EX.assign rfl) ?_
    refine OW.nil ?_
    refine KW.ret (ret1 rfl rfl ?_)
    exact ⟨rfl, hx2⟩
end Go.Proofs.YtjgeoeeikfjmdaaDoor
