/-
  crc: what the program's functions compute.
-/
import Derived.Test.YtfjaiokhpbddlaaTi
import Derived.Test.YtfjaiokhpbddlaaKp
import Derived.Test.YtfjaiokhpbddlaaCrcD
namespace Go.Proofs.Ytfjaiokhpbddlaa
open Go.RowKit
set_option linter.unusedVariables false

theorem turned_s (v n : Nat) (hv : v < 4294967296) (hn : n ≤ 64) (w : World) :
    Ret Try.prog 38 [.int .u32 v, .int .i64 n] w fun r w' => r = .int .u32 (trn n v 0 : Nat) ∧ w = w' := by
  refine Ret.enter Try.func38 rfl Try.ntmps38 (by kernel_rfl) rfl ?_
  refine KW.seq (KW.region ?_)
  refine OW.val rfl rfl (EX.assign rfl) ?_
  refine OW.nil ?_
  refine KW.seq (KW.region ?_)
  refine OW.val rfl rfl (EX.assign rfl) ?_
  refine OW.nil ?_
  refine KW.seq (KW.seq (KW.region ?_))
  refine OW.val rfl rfl (EX.move rfl) ?_
  refine OW.val rfl rfl (EX.move rfl) ?_
  refine OW.nil ?_
  refine KW.block ?_
  refine KW.loop3 (fun (k : Nat) (x : Nat) (o : Nat) => k ≤ n ∧ x < 4294967296 ∧ o < 4294967296 ∧ trn (n - k) x o = trn n v 0) (fun (k : Nat) (x : Nat) (o : Nat) => [(0, .int .u32 ((x : Nat) : Int)), (5, .int .u32 ((o : Nat) : Int)), (6, .int .i64 ((n : Nat) : Int)), (7, .int .i64 ((k : Nat) : Int))]) (fun (k : Nat) (x : Nat) (o : Nat) => w) (fun (k : Nat) (x : Nat) (o : Nat) => n - k) (0) (v) (0) ⟨rfl, rfl, rfl, rfl, trivial⟩ rfl ?_ ?_
  · exact ⟨by omega, hv, by omega, rfl⟩
  · rintro k x o ⟨hk, hx, ho, hr⟩
    refine KW.seq (KW.region ?_)
    refine OW.val rfl rfl (by first | exact EX.lssN rfl rfl | exact EX.lssZ rfl rfl) ?_
    refine OW.nil ?_
    refine KW.seq ?_
    refine KW.condD rfl (fun h => ?_) (fun h => ?_)
    · refine KW.skip (KW.seq (KW.block (KW.seq (KW.region ?_))))
      refine OW.val rfl rfl (EX.move rfl) ?_
      refine OW.val rfl rfl (by first | exact EX.shlN (s := 1) (p := 2) (m := 4294967295) rfl rfl (by decide) (by decide) rfl (by omega) | exact EX.shlW (s := 1) (p := 2) (m := 4294967296) rfl rfl (by decide) (by decide) rfl (by decide)) ?_
      refine OW.val rfl rfl (EX.move rfl) ?_
      refine OW.val rfl rfl (EX.maskN (b := 1) (j := 1) (p := 2) (m := 4294967295) rfl rfl (by decide) (by decide) rfl (by omega)) ?_
      refine OW.val rfl rfl (EX.orN (m := 4294967295) rfl rfl rfl (by omega)) ?_
      refine OW.val rfl rfl (EX.assign rfl) ?_
      refine OW.nil ?_
      refine KW.region ?_
      refine OW.val rfl rfl (EX.move rfl) ?_
      refine OW.val rfl rfl (EX.shrN (s := 1) (p := 2) rfl rfl (by decide) (by decide)) ?_
      refine OW.val rfl rfl (EX.assign rfl) ?_
      refine OW.nil ?_
      refine KW.leave (KW.region ?_)
      refine OW.val rfl rfl (by first | exact EX.addN (b := 1) (m := 9223372036854775807) rfl rfl rfl (by omega) | exact EX.addZ (m := 9223372036854775807) rfl rfl rfl rfl (by omega)) ?_
      refine OW.val rfl rfl (EX.move rfl) ?_
      refine OW.nil ?_
      refine KW.back3 (k + 1) (x / 2) (o * 2 % 4294967296 ||| x % 2) ⟨rfl, rfl, rfl, rfl, trivial⟩ rfl ?_ (by omega)
      exact ⟨by omega, by omega, Nat.or_lt_two_pow (n := 32) (by omega) (by omega), by
        rw [show n - k = (n - (k + 1)) + 1 by omega] at hr
        exact hr⟩
    · refine KW.exit rfl (KW.seq (KW.region ?_))
      refine OW.val rfl rfl (EX.move rfl) ?_
      refine OW.val rfl rfl (EX.assign rfl) ?_
      refine OW.nil ?_
      refine KW.ret (ret1 rfl rfl ?_)
      obtain rfl : k = n := by omega
      rw [Nat.sub_self] at hr
      exact ⟨by rw [← hr]; rfl, rfl⟩

def zt256 : List Value := List.replicate 256 (.int .u32 0)
theorem ti_tab : TI Try.prog 82 (.agg zt256.toArray) 256 1024 := by unfold TI zt256; kernel_rfl
def tabV : List Value := (List.range 256).map fun i => Value.int .u32 (ctab i : Nat)
theorem tabV_get (i : Nat) (h : i < 256) : tabV[i]? = some (.int .u32 (ctab i : Nat)) := by simp [tabV, h]
theorem tabV_length : tabV.length = 256 := by simp [tabV]

theorem table_s (w : World) : Ret Try.prog 37 [] w fun r w' => r = .agg tabV.toArray ∧ Ext w w' := by
  refine Ret.enter Try.func37 rfl Try.ntmps37 (by kernel_rfl) rfl ?_
  refine KW.seq (KW.region ?_)
  refine OW.val rfl rfl (EX.alloc (l := zt256) ti_tab rfl) ?_
  refine OW.nil ?_
  refine KW.seq (KW.region ?_)
  refine OW.val rfl rfl (EX.alloc (l := zt256) ti_tab rfl) ?_
  refine OW.nil ?_
  refine KW.seq (KW.seq (KW.region ?_))
  refine OW.val rfl rfl (EX.move rfl) ?_
  refine OW.nil ?_
  refine KW.block ?_
  refine KW.as 1 (.pointer (some ⟨w.heap.size + 1, 0, none⟩)) rfl (by simp) ?_
  refine KW.loop3 (fun (k : Nat) (l : List Value) (wr : World) => k ≤ 256 ∧ l.length = 256 ∧ (∀ j, j < k → l[j]? = some (.int .u32 (ctab j : Nat))) ∧ Bk wr (w.heap.size + 1) 82 l ∧ Bk wr w.heap.size 82 zt256 ∧ Ext w wr) (fun (k : Nat) (l : List Value) (wr : World) => [(0, .pointer (some ⟨w.heap.size, 0, none⟩)), (1, .pointer (some ⟨w.heap.size + 1, 0, none⟩)), (4, .int .i64 ((k : Nat) : Int))]) (fun (k : Nat) (l : List Value) (wr : World) => wr) (fun (k : Nat) (l : List Value) (wr : World) => 256 - k) (0) (zt256) (_) ⟨rfl, rfl, rfl, trivial⟩ rfl ?_ ?_
  · refine ⟨by omega, List.length_replicate, fun j h => absurd h (by omega), ?_, (Bk.new w _ _).alloc _, (Ext.alloc _ _).trans (Ext.alloc _ _)⟩
    have := Bk.new (w.alloc (.cells zt256.toArray 82)) 82 zt256
    simpa using this
  · rintro k l wr ⟨hk, hl, hj, hb1, hb0, hx⟩
    refine KW.seq (KW.region ?_)
    refine OW.val rfl rfl (by first | exact EX.lssN (b := 256) rfl rfl | exact EX.lssZ rfl rfl) ?_
    refine OW.nil ?_
    refine KW.seq ?_
    refine KW.condD rfl (fun h => ?_) (fun h => ?_)
    · refine KW.skip (KW.seq (KW.block (KW.seq (KW.region ?_))))
      refine OW.val rfl rfl (EX.move rfl) ?_
      refine OW.val rfl rfl (EX.assign rfl) ?_
      refine OW.nil ?_
      refine KW.seq (KW.region ?_)
      refine OW.val rfl rfl (EX.move rfl) ?_
      refine OW.val rfl rfl (by first | exact EX.convN (m := 4294967295) Try.underlying3 Try.underlying38 rfl rfl (by omega) | exact EX.convW (m := 4294967296) Try.underlying3 Try.underlying38 rfl rfl (by decide) | exact EX.convZ Try.underlying3 Try.underlying38 rfl) ?_
      refine OW.val rfl rfl (by first | exact EX.shlN (s := 24) (p := 16777216) (m := 4294967295) rfl rfl (by decide) (by decide) rfl (by omega) | exact EX.shlW (s := 24) (p := 16777216) (m := 4294967296) rfl rfl (by decide) (by decide) rfl (by decide)) ?_
      refine OW.val rfl rfl (EX.assign rfl) ?_
      refine OW.nil ?_
      refine KW.seq (KW.seq (KW.region ?_))
      refine OW.val rfl rfl (EX.move rfl) ?_
      refine OW.nil ?_
      refine KW.block ?_
      refine KW.loop2 (fun (m : Nat) (r : Nat) => m ≤ 8 ∧ r < 4294967296 ∧ r = citer m (k * 16777216)) (fun (m : Nat) (r : Nat) => [(0, .pointer (some ⟨w.heap.size, 0, none⟩)), (1, .pointer (some ⟨w.heap.size + 1, 0, none⟩)), (2, .int .i64 ((k : Nat) : Int)), (3, .int .u32 ((r : Nat) : Int)), (4, .int .i64 ((k : Nat) : Int)), (10, .int .i64 ((m : Nat) : Int))]) (fun (m : Nat) (r : Nat) => wr) (fun (m : Nat) (r : Nat) => 8 - m) (0) (k * 16777216) ⟨rfl, rfl, rfl, rfl, rfl, rfl, trivial⟩ rfl ?_ ?_
      · exact ⟨by omega, by omega, rfl⟩
      · rintro m r ⟨hm, hr, hrc⟩
        refine KW.seq (KW.region ?_)
        refine OW.val rfl rfl (by first | exact EX.lssN (b := 8) rfl rfl | exact EX.lssZ rfl rfl) ?_
        refine OW.nil ?_
        refine KW.seq ?_
        refine KW.condD rfl (fun h8 => ?_) (fun h8 => ?_)
        · refine KW.skip (KW.seq (KW.block (KW.seq (KW.region ?_))))
          refine OW.val rfl rfl (EX.move rfl) ?_
          refine OW.val rfl rfl (EX.andN (b := 2147483648) (m := 4294967295) rfl rfl rfl (by omega)) ?_
          refine OW.val rfl rfl (by first | exact EX.neqN (b := 0) rfl rfl | exact EX.neqZ rfl rfl) ?_
          refine OW.nil ?_
          refine KW.condD rfl (fun hb => ?_) (fun hb => ?_)
          · refine KW.region ?_
            refine OW.val rfl rfl (EX.move rfl) ?_
            refine OW.val rfl rfl (by first | exact EX.shlN (s := 1) (p := 2) (m := 4294967295) rfl rfl (by decide) (by decide) rfl (by omega) | exact EX.shlW (s := 1) (p := 2) (m := 4294967296) rfl rfl (by decide) (by decide) rfl (by decide)) ?_
            refine OW.val rfl rfl (EX.xorN (b := 79764919) (m := 4294967295) rfl rfl rfl (by omega)) ?_
            refine OW.val rfl rfl (EX.assign rfl) ?_
            refine OW.nil ?_
            refine KW.leave (KW.region ?_)
            refine OW.val rfl rfl (by first | exact EX.addN (b := 1) (m := 9223372036854775807) rfl rfl rfl (by omega) | exact EX.addZ (m := 9223372036854775807) rfl rfl rfl rfl (by omega)) ?_
            refine OW.val rfl rfl (EX.move rfl) ?_
            refine OW.nil ?_
            refine KW.back2 (m + 1) ((r * 2 % 4294967296) ^^^ 79764919) ⟨rfl, rfl, rfl, rfl, rfl, rfl, trivial⟩ rfl ?_ (by omega)
            refine ⟨by omega, Nat.xor_lt_two_pow (n := 32) (by omega) (by omega), ?_⟩
            rw [citer_succ, ← hrc, cstep, if_pos hb]
          · refine KW.region ?_
            refine OW.val rfl rfl (EX.move rfl) ?_
            refine OW.val rfl rfl (by first | exact EX.shlN (s := 1) (p := 2) (m := 4294967295) rfl rfl (by decide) (by decide) rfl (by omega) | exact EX.shlW (s := 1) (p := 2) (m := 4294967296) rfl rfl (by decide) (by decide) rfl (by decide)) ?_
            refine OW.val rfl rfl (EX.assign rfl) ?_
            refine OW.nil ?_
            refine KW.leave (KW.region ?_)
            refine OW.val rfl rfl (by first | exact EX.addN (b := 1) (m := 9223372036854775807) rfl rfl rfl (by omega) | exact EX.addZ (m := 9223372036854775807) rfl rfl rfl rfl (by omega)) ?_
            refine OW.val rfl rfl (EX.move rfl) ?_
            refine OW.nil ?_
            refine KW.back2 (m + 1) (r * 2 % 4294967296) ⟨rfl, rfl, rfl, rfl, rfl, rfl, trivial⟩ rfl ?_ (by omega)
            refine ⟨by omega, by omega, ?_⟩
            rw [citer_succ, ← hrc, cstep, if_neg hb]
        · refine KW.exit rfl (KW.region ?_)
          refine OW.val rfl rfl (EX.move rfl) ?_
          refine OW.val rfl rfl (EX.move rfl) ?_
          refine OW.val rfl rfl (by first | exact EX.indexAddrA0 Try.underlying82 ti38 rfl rfl (by omega) | exact EX.indexAddrA1 Try.underlying82 ti38 rfl rfl (by omega)) ?_
          refine OW.eff rfl (EU.storeBk ti38 rfl rfl rfl (hb1) (by omega)) ?_
          refine OW.nil ?_
          refine KW.leave (KW.region ?_)
          refine OW.val rfl rfl (by first | exact EX.addN (b := 1) (m := 9223372036854775807) rfl rfl rfl (by omega) | exact EX.addZ (m := 9223372036854775807) rfl rfl rfl rfl (by omega)) ?_
          refine OW.val rfl rfl (EX.move rfl) ?_
          refine OW.nil ?_
          obtain rfl : m = 8 := by omega
          refine KW.back3 (k + 1) (l.set k (.int .u32 r)) (_) ⟨rfl, rfl, rfl, trivial⟩ rfl ?_ (by omega)
          refine ⟨by omega, by simpa using hl, fun j hjk => ?_, hb1.set k _, hb0.far (by simp) _, Below.setCell hx (by simp) _⟩
          rcases Nat.lt_or_ge j k with h1 | h1
          · rw [List.getElem?_set_ne (by omega)]; exact hj j h1
          · obtain rfl : j = k := by omega
            rw [List.getElem?_set_self (by omega), hrc]; rfl
    · refine KW.exit rfl (KW.seq (KW.region ?_))
      obtain rfl : k = 256 := by omega
      have hlt : l = tabV := by
        apply List.ext_getElem?
        intro j
        rcases Nat.lt_or_ge j 256 with h1 | h1
        · rw [hj j h1, tabV_get j h1]
        · rw [List.getElem?_eq_none (by omega), List.getElem?_eq_none (by rw [tabV_length]; exact h1)]
      subst hlt
      refine OW.val rfl rfl (EX.loadBk Try.underlying82 rfl ti_tab rfl hb1 tabV_length) ?_
      refine OW.storeW rfl ti_tab rfl rfl tabV_length (List.all_eq_true.2 fun v hv => by obtain ⟨_, _, rfl⟩ := List.mem_map.1 hv; rfl) hb0 List.length_replicate ?_
      intro w' hb' hg
      refine OW.nil ?_
      refine KW.ret (retA rfl rfl Try.underlying82 rfl ti_tab hb' tabV_length ?_)
      exact ⟨rfl, hx.grown hg (fun g hg => by cases hg; omega)⟩

end Go.Proofs.Ytfjaiokhpbddlaa
