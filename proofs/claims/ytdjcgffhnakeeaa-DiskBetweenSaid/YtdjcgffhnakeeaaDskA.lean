/-
  disk: slices' clones, and what the changes' closures compute.
-/
import Derived.Test.YtdjcgffhnakeeaaDskD
import Derived.Test.YtdjcgffhnakeeaaTi
namespace Go.Proofs.Ytdjcgffhnakeeaa
open Go.RowKit Dsk
set_option linter.unusedVariables false

/-! ### Clones -/
theorem cloneB_c (A : Option Addr) (c : Nat) (xs : List Value) (B : Nat) (w : World) (hs : Sl w B A xs) (hA : A = none → xs = []) (h1 : ∀ u ∈ xs, u.oneCell' = true) (hl : xs.length ≤ 140737488351232) :
    Ret Try.prog 34 [.slice A xs.length c] w fun v w' => Own w' w.heap.size 5 1 v xs.length xs ∧ Ext w w' := by
  refine Ret.enter Try.func34 rfl Try.ntmps34 (by kernel_rfl) rfl ?_
  rcases A with _ | a
  · obtain rfl := hA rfl
    refine KW.seq (KW.region ?_)
    refine OW.val rfl rfl (EX.assign rfl) ?_
    refine OW.nil ?_
    refine KW.seq (KW.seq (KW.region ?_))
    refine OW.val rfl rfl (EX.move rfl) ?_
    refine OW.val rfl rfl (by first | exact EX.eqlA1 Try.underlying51 rfl rfl | exact EX.eqlA0 Try.underlying51 rfl rfl) ?_
    refine OW.nil ?_
    refine KW.condT rfl (KW.seq (KW.region ?_))
    refine OW.val rfl rfl (EX.assign rfl) ?_
    refine OW.nil ?_
    refine KW.ret (ret1 rfl rfl ?_)
    exact ⟨Own.nil _ _ _ _, Ext.refl _⟩
  · refine KW.seq (KW.region ?_)
    refine OW.val rfl rfl (EX.assign rfl) ?_
    refine OW.nil ?_
    refine KW.seq (KW.seq (KW.region ?_))
    refine OW.val rfl rfl (EX.move rfl) ?_
    refine OW.val rfl rfl (by first | exact EX.eqlA1 Try.underlying51 rfl rfl | exact EX.eqlA0 Try.underlying51 rfl rfl) ?_
    refine OW.nil ?_
    refine KW.condF rfl (KW.skip (KW.seq (KW.region ?_)))
    refine OW.buildB 0 rfl rfl Try.underlying51 ti5 rfl rfl rfl rfl (by first | rfl | (simp only [List.all_cons, List.all_nil, Bool.and_true, Bool.and_eq_true]; assumption)) (by decide) ?_
    rintro b w1 hge hb hx
    refine OW.val rfl rfl (EX.move rfl) ?_
    refine OW.appendX rfl rfl Try.underlying51 ti5 rfl (by decide) rfl rfl (hx) (Own.of_bk (l := []) hb hge rfl (by decide)) (Src.of_sl Try.underlying51 (hs.ext hx) (by simp) h1 (by decide)) (by simp only [maxLen]; omega) (by omega) ?_
    rintro v' w' hown hx' _ _
    refine OW.val rfl rfl (EX.assign rfl) ?_
    refine OW.nil ?_
    refine KW.ret (ret1 rfl rfl ?_)
    rw [Nat.zero_add] at hown
    exact ⟨hown, hx'⟩
theorem cloneT_c (A : Option Addr) (c : Nat) (xs : List Value) (B : Nat) (w : World) (hs : Sl w B A xs) (hA : A = none → xs = []) (h1 : ∀ u ∈ xs, u.oneCell' = true) (hl : xs.length ≤ 140737488351232) :
    Ret Try.prog 31 [.slice A xs.length c] w fun v w' => Own w' w.heap.size 4 1 v xs.length xs ∧ Ext w w' := by
  refine Ret.enter Try.func31 rfl Try.ntmps31 (by kernel_rfl) rfl ?_
  rcases A with _ | a
  · obtain rfl := hA rfl
    refine KW.seq (KW.region ?_)
    refine OW.val rfl rfl (EX.assign rfl) ?_
    refine OW.nil ?_
    refine KW.seq (KW.seq (KW.region ?_))
    refine OW.val rfl rfl (EX.move rfl) ?_
    refine OW.val rfl rfl (by first | exact EX.eqlA1 Try.underlying34 rfl rfl | exact EX.eqlA0 Try.underlying34 rfl rfl) ?_
    refine OW.nil ?_
    refine KW.condT rfl (KW.seq (KW.region ?_))
    refine OW.val rfl rfl (EX.assign rfl) ?_
    refine OW.nil ?_
    refine KW.ret (ret1 rfl rfl ?_)
    exact ⟨Own.nil _ _ _ _, Ext.refl _⟩
  · refine KW.seq (KW.region ?_)
    refine OW.val rfl rfl (EX.assign rfl) ?_
    refine OW.nil ?_
    refine KW.seq (KW.seq (KW.region ?_))
    refine OW.val rfl rfl (EX.move rfl) ?_
    refine OW.val rfl rfl (by first | exact EX.eqlA1 Try.underlying34 rfl rfl | exact EX.eqlA0 Try.underlying34 rfl rfl) ?_
    refine OW.nil ?_
    refine KW.condF rfl (KW.skip (KW.seq (KW.region ?_)))
    refine OW.buildB 0 rfl rfl Try.underlying34 ti4 rfl rfl rfl rfl (by first | rfl | (simp only [List.all_cons, List.all_nil, Bool.and_true, Bool.and_eq_true]; assumption)) (by decide) ?_
    rintro b w1 hge hb hx
    refine OW.val rfl rfl (EX.move rfl) ?_
    refine OW.appendX rfl rfl Try.underlying34 ti4 rfl (by decide) rfl rfl (hx) (Own.of_bk (l := []) hb hge rfl (by decide)) (Src.of_sl Try.underlying34 (hs.ext hx) (by simp) h1 (by decide)) (by simp only [maxLen]; omega) (by omega) ?_
    rintro v' w' hown hx' _ _
    refine OW.val rfl rfl (EX.assign rfl) ?_
    refine OW.nil ?_
    refine KW.ret (ret1 rfl rfl ?_)
    rw [Nat.zero_add] at hown
    exact ⟨hown, hx'⟩
/-! ### Closures -/
/-- what a change's call leaves: the bytes in a block that the slice had, or in a new one; nothing else changed -/
def Chd (w w' : World) (v v' : Value) (all : List UInt8) : Prop :=
  Own w' 0 5 1 v' all.length (bytesV all) ∧ Mo w w' v.ownBlock.toList ∧ (v'.ownBlock = v.ownBlock ∨ ∃ g, v'.ownBlock = some g ∧ w.heap.size ≤ g)
theorem cut1_c (b n : Nat) (v : Value) (all : List UInt8) (w : World) (hb : Bk w b 3 [.int .i64 (n : Int)]) (hown : Own w 0 5 1 v all.length (bytesV all)) (hn : n ≤ 1000000) (hl : all.length ≤ 100000000) :
    Ret Try.prog 33 [v, .pointer (some ⟨b, 0, none⟩)] w fun v' w' => w = w' ∧ Chd w w' v v' ((Ch.cut n).ap all) := by
  obtain ⟨A, c, rfl, hlc, hsl⟩ := hown.slice
  refine Ret.enter Try.func33 rfl Try.ntmps33 (by kernel_rfl) rfl ?_
  refine KW.seq (KW.region ?_)
  refine OW.val rfl rfl (EX.assign rfl) ?_
  refine OW.nil ?_
  refine KW.seq (KW.region ?_)
  refine OW.val rfl rfl (EX.move rfl) ?_
  refine OW.val rfl rfl (EX.move rfl) ?_
  refine OW.val rfl rfl (EX.lenA Try.underlying51 rfl) ?_
  refine OW.val rfl rfl (EX.load Try.underlying3 rfl rfl (hb.cell_of rfl)) ?_
  refine OW.val rfl rfl (by first | exact EX.mulN (b := 512) (m := 9223372036854775807) rfl rfl rfl (by omega) | exact EX.mulZ (m := 9223372036854775807) rfl rfl rfl rfl (by omega)) ?_
  refine OW.val rfl rfl (by first | exact EX.minN rfl rfl | exact EX.minZ rfl rfl) ?_
  refine OW.ownFH rfl rfl Try.underlying51 ti5 rfl rfl (hown) (by omega) ?_
  rintro v' hown' hbl
  refine OW.val rfl rfl (EX.assign rfl) ?_
  refine OW.nil ?_
  refine KW.ret (ret1 rfl rfl ?_)
  refine ⟨rfl, ?_, Mo.refl _ _, .inl hbl⟩
  have e : (bytesV all).take (min all.length (n * 512)) = bytesV ((Ch.cut n).ap all) := by simp [bytesV, Ch.ap, List.map_take]
  have e2 : ((Ch.cut n).ap all).length = min all.length (n * 512) := by simp only [Ch.ap, List.length_take]; omega
  rw [e] at hown'
  rw [e2]
  exact hown'
theorem bytesV_zeros (n : Nat) : bytesV (zeros n) = List.replicate n (.int .u8 0) := by simp [bytesV, zeros]
theorem write1_c (bi bs i : Nat) (s : List UInt8) (v : Value) (all : List UInt8) (w : World) (hbi : Bk w bi 3 [.int .i64 (i : Int)]) (hbs : Bk w bs 9 [str s]) (hown : Own w 0 5 1 v all.length (bytesV all)) (hi : i ≤ 1000000) (hs : s.length = 512) (hl : all.length ≤ 1000000000) :
    Ret Try.prog 32 [v, .pointer (some ⟨bi, 0, none⟩), .pointer (some ⟨bs, 0, none⟩)] w fun v' w' => Chd w w' v v' ((Ch.write i s).ap all) := by
  obtain ⟨A, c, rfl, hlc, hsl⟩ := hown.slice
  refine Ret.enter Try.func32 rfl Try.ntmps32 (by kernel_rfl) rfl ?_
  refine KW.seq (KW.region ?_)
  refine OW.val rfl rfl (EX.assign rfl) ?_
  refine OW.nil ?_
  refine KW.seq (KW.seq (KW.region ?_))
  refine OW.val rfl rfl (EX.load Try.underlying3 rfl rfl (hbi.cell_of rfl)) ?_
  refine OW.val rfl rfl (by first | exact EX.addN (b := 1) (m := 9223372036854775807) rfl rfl rfl (by omega) | exact EX.addZ (m := 9223372036854775807) rfl rfl rfl rfl (by omega)) ?_
  refine OW.val rfl rfl (by first | exact EX.mulN (b := 512) (m := 9223372036854775807) rfl rfl rfl (by omega) | exact EX.mulZ (m := 9223372036854775807) rfl rfl rfl rfl (by omega)) ?_
  refine OW.val rfl rfl (EX.assign rfl) ?_
  refine OW.nil ?_
  refine KW.seq (KW.region ?_)
  refine OW.val rfl rfl (EX.move rfl) ?_
  refine OW.val rfl rfl (EX.lenA Try.underlying51 rfl) ?_
  refine OW.val rfl rfl (EX.move rfl) ?_
  refine OW.val rfl rfl (by first | exact EX.lssN rfl rfl | exact EX.lssZ rfl rfl) ?_
  refine OW.nil ?_
  refine KW.cut2 (fun (v1 : Value) (w1 : World) => Own w1 0 5 1 v1 (all ++ zeros ((i + 1) * 512 - all.length)).length (bytesV (all ++ zeros ((i + 1) * 512 - all.length))) ∧ Mo w w1 (Value.slice A all.length c).ownBlock.toList ∧ (v1.ownBlock = (Value.slice A all.length c).ownBlock ∨ ∃ g, v1.ownBlock = some g ∧ w.heap.size ≤ g)) (fun (v1 : Value) (w1 : World) => [(0, v1), (1, .pointer (some ⟨bi, 0, none⟩)), (2, .pointer (some ⟨bs, 0, none⟩))]) (fun (v1 : Value) (w1 : World) => w1) ?_ ?_
  · skip
    refine KW.condD rfl (fun h => ?_) (fun h => ?_)
    · refine KW.region ?_
      refine OW.val rfl rfl (EX.move rfl) ?_
      refine OW.val rfl rfl (EX.move rfl) ?_
      refine OW.val rfl rfl (EX.move rfl) ?_
      refine OW.val rfl rfl (EX.lenA Try.underlying51 rfl) ?_
      refine OW.val rfl rfl (by first | exact EX.subN (m := 9223372036854775807) rfl rfl rfl (by omega) | exact EX.subZ (m := 9223372036854775807) rfl rfl rfl rfl (by omega)) ?_
      refine OW.appendZB rfl rfl Try.underlying51 Try.underlying3 ti5 rfl rfl rfl (hown) (by omega) (by simp only [maxLen]; omega) (by omega) ?_
      rintro v1 w1 hown1 hg1 hb1
      refine OW.val rfl rfl (EX.assign rfl) ?_
      refine OW.nil ?_
      refine KW.meet2 (v1) (w1) ⟨rfl, rfl, rfl, trivial⟩ rfl ?_
      refine ⟨?_, Mo.grown hg1 (fun k e => by rw [e]; simp), ?_⟩
      · rw [List.length_append, zeros_length, bytesV_append, bytesV_zeros]
        exact hown1
      · rcases hb1 with e | e
        · exact .inl e
        · exact .inr ⟨_, e, Nat.le_refl _⟩
    · refine KW.skip ?_
      refine KW.meet2 (_) (w) ⟨rfl, rfl, rfl, trivial⟩ rfl ?_
      have e0 : all ++ zeros ((i + 1) * 512 - all.length) = all := by rw [show (i + 1) * 512 - all.length = 0 by omega]; simp [zeros]
      rw [e0]
      exact ⟨hown, Mo.refl _ _, .inl rfl⟩
  · rintro v1 w1 ⟨hown1, hm, hv⟩
    have hbi1 := hbi.mo hm (fun k => hown.ne hbi (by decide) _ (Option.mem_toList.1 k) rfl)
    have hbs1 := hbs.mo hm (fun k => hown.ne hbs (by decide) _ (Option.mem_toList.1 k) rfl)
    have hL : (all ++ zeros ((i + 1) * 512 - all.length)).length = max all.length ((i + 1) * 512) := by rw [List.length_append, zeros_length]; omega
    generalize hall : all ++ zeros ((i + 1) * 512 - all.length) = al at hown1 hL
    have hbl : (bytesV al).length = al.length := bytesV_length al
    obtain ⟨g, cap, rest, rfl, _, hg, hc, hn, hm63⟩ := hown1.blk (by omega)
    refine KW.seq (KW.regionH 5 (by kernel_rfl) (by kernel_rfl) ?_)
    refine HW.val rfl rfl (EX.move rfl) ?_
    refine HW.val rfl rfl (EX.load Try.underlying3 rfl rfl (hbi1.cell_of rfl)) ?_
    refine HW.val rfl rfl (by first | exact EX.mulN (b := 512) (m := 9223372036854775807) rfl rfl rfl (by omega) | exact EX.mulZ (m := 9223372036854775807) rfl rfl rfl rfl (by omega)) ?_
    refine HW.val rfl rfl (EX.ownLE Try.underlying51 ti5 rfl rfl (by omega)) ?_
    refine HW.val rfl rfl (EX.load Try.underlying9 rfl rfl (hbs1.cell_of rfl)) ?_
    refine HW.tail ?_
    refine OW.copyS rfl rfl Try.underlying51 Try.underlying9 ti5 rfl rfl (by omega) (hg) (by simp [bytesV]; omega) ?_
    rintro w2 hg2 hm2
    refine OW.nil ?_
    refine KW.seq (KW.region ?_)
    refine OW.val rfl rfl (EX.move rfl) ?_
    refine OW.val rfl rfl (EX.assign rfl) ?_
    refine OW.nil ?_
    refine KW.ret (ret1 rfl rfl ?_)
    have e : (Ch.write i s).ap all = al.take (i * 512) ++ s ++ al.drop (i * 512 + s.length) := by simp only [Ch.ap, hall]
    have e2 : ((Ch.write i s).ap all).length = al.length := by rw [e]; simp only [List.length_append, List.length_take, List.length_drop]; omega
    refine ⟨?_, ?_, hv⟩
    · rw [e2]
      refine ⟨by rw [bytesV_length, e2]; simp, .inr ⟨g, cap, rest, rfl, Nat.zero_le _, ?_, by rw [bytesV_length, e2, ← hbl]; exact hc, hn, hm63⟩⟩
      have e3 : (bytesV al ++ rest).take (i * 512) ++ bytesV s ++ (bytesV al ++ rest).drop (i * 512 + s.length) = bytesV ((Ch.write i s).ap all) ++ rest := by
        rw [e, List.take_append_of_le_length (by omega), List.drop_append_of_le_length (by omega)]
        simp [bytesV, List.map_take, List.map_drop]
      rw [← e3]
      exact hg2
    · have hm2' : Mo w1 w2 [g] := (Mo.of_ext (Ext.drew w1) _).trans hm2
      refine ((hm.mono (fun k hk => List.mem_cons_of_mem g hk)).trans (hm2'.mono (by simp))).fresh ?_
      intro k hk hlt
      rcases List.mem_cons.1 hk with rfl | hk
      · rcases hv with e | ⟨g', e, hge⟩
        · rw [← e]; simp [Value.ownBlock]
        · simp [Value.ownBlock] at e; omega
      · exact hk
end Go.Proofs.Ytdjcgffhnakeeaa
