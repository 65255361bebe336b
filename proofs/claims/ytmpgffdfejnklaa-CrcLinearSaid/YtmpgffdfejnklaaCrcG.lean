/-
  crc: each statement's own function returns true.
-/
import Derived.Test.YtmpgffdfejnklaaCrcF
import Derived.Test.YtmpgffdfejnklaaCrcM
import Derived.Test.YtmpgffdfejnklaaOpen
namespace Go.Proofs.Ytmpgffdfejnklaa
open Go.RowKit
set_option linter.unusedVariables false

theorem bzips_law (s : List UInt8) (hs : s.length ≤ 9223372036854775807) (w : World) :
    Ret Try.prog 3 [str s] w fun v w' => v = .bool true ∧ Ext w w' := by
  refine Ret.enter Try.func3 rfl Try.ntmps3 (by kernel_rfl) rfl ?_
  refine KW.seq (KW.region ?_)
  refine OW.val rfl rfl (EX.assign rfl) ?_
  refine OW.nil ?_
  refine KW.seq ?_
  refine KW.region ?_
  refine OW.val rfl rfl (EX.move rfl) ?_
  refine OW.val rfl rfl (EX.lenS Try.underlying9 rfl) ?_
  refine OW.val rfl rfl (by first | exact EX.gtrN (b := 2000) rfl rfl | exact EX.gtrZ rfl rfl) ?_
  refine OW.val rfl rfl (EX.move rfl) ?_
  refine OW.splitD 6 rfl (fun h => ?_) (fun h => ?_)
  · refine OW.pass rfl rfl ?_
    refine OW.pass rfl rfl ?_
    refine OW.pass rfl rfl ?_
    refine OW.pass rfl rfl ?_
    refine OW.pass rfl rfl ?_
    refine OW.val rfl rfl (EX.pickT rfl rfl) ?_
    refine OW.val rfl rfl (EX.move rfl) ?_
    refine OW.call rfl rfl rfl (awake_s w) ?_
    rintro _ w1 ⟨rfl, hx⟩
    refine OW.val rfl rfl (EX.pickT rfl rfl) ?_
    refine OW.val rfl rfl (EX.assign rfl) ?_
    refine OW.nil ?_
    refine KW.ret (ret1 rfl rfl ?_)
    exact ⟨rfl, hx⟩
  · refine OW.val rfl rfl (EX.move rfl) ?_
    refine OW.call rfl rfl rfl (bzip_s s hs w) ?_
    rintro _ w1 ⟨rfl, hx1⟩
    refine OW.val rfl rfl (EX.move rfl) ?_
    refine OW.call rfl rfl rfl (rbzip_s s (by omega) w1) ?_
    rintro _ w2 ⟨rfl, hx2⟩
    refine OW.val rfl rfl (by first | exact EX.eqlN rfl rfl | exact EX.eqlZ rfl rfl) ?_
    refine OW.val rfl rfl (EX.pickF rfl rfl) ?_
    refine OW.val rfl rfl (EX.move rfl) ?_
    refine OW.as 13 (.bool true) rfl (congrArg Value.bool (decide_eq_true (by rw [more_eq _ (by decide), cbzip]))) ?_
    refine OW.call rfl rfl rfl (awake_s w2) ?_
    rintro _ w3 ⟨rfl, hx3⟩
    refine OW.val rfl rfl (EX.pickT rfl rfl) ?_
    refine OW.val rfl rfl (EX.assign rfl) ?_
    refine OW.nil ?_
    refine KW.ret (ret1 rfl rfl ?_)
    exact ⟨rfl, (hx1.trans hx2).trans hx3⟩

theorem mores_law (r : Nat) (hr : r < 4294967296) (s : List UInt8) (hs : s.length ≤ 9223372036854775807) (w : World) :
    Ret Try.prog 4 [.int .u32 r, str s] w fun v w' => v = .bool true ∧ Ext w w' := by
  refine Ret.enter Try.func4 rfl Try.ntmps4 (by kernel_rfl) rfl ?_
  refine KW.seq (KW.region ?_)
  refine OW.val rfl rfl (EX.assign rfl) ?_
  refine OW.nil ?_
  refine KW.seq ?_
  refine KW.region ?_
  refine OW.val rfl rfl (EX.move rfl) ?_
  refine OW.val rfl rfl (EX.lenS Try.underlying9 rfl) ?_
  refine OW.val rfl rfl (by first | exact EX.gtrN (b := 2000) rfl rfl | exact EX.gtrZ rfl rfl) ?_
  refine OW.val rfl rfl (EX.move rfl) ?_
  refine OW.splitD 8 rfl (fun h => ?_) (fun h => ?_)
  · refine OW.pass rfl rfl ?_
    refine OW.pass rfl rfl ?_
    refine OW.pass rfl rfl ?_
    refine OW.pass rfl rfl ?_
    refine OW.pass rfl rfl ?_
    refine OW.pass rfl rfl ?_
    refine OW.pass rfl rfl ?_
    refine OW.val rfl rfl (EX.pickT rfl rfl) ?_
    refine OW.val rfl rfl (EX.move rfl) ?_
    refine OW.call rfl rfl rfl (awake_s w) ?_
    rintro _ w1 ⟨rfl, hx⟩
    refine OW.val rfl rfl (EX.pickT rfl rfl) ?_
    refine OW.val rfl rfl (EX.assign rfl) ?_
    refine OW.nil ?_
    refine KW.ret (ret1 rfl rfl ?_)
    exact ⟨rfl, hx⟩
  · refine OW.val rfl rfl (EX.move rfl) ?_
    refine OW.val rfl rfl (EX.move rfl) ?_
    refine OW.call rfl rfl rfl (more_s r hr s hs w) ?_
    rintro _ w1 ⟨rfl, hx1⟩
    refine OW.val rfl rfl (EX.move rfl) ?_
    refine OW.val rfl rfl (EX.move rfl) ?_
    refine OW.call rfl rfl rfl (rmore_s r hr s (by omega) w1) ?_
    rintro _ w2 ⟨rfl, hx2⟩
    refine OW.val rfl rfl (by first | exact EX.eqlN rfl rfl | exact EX.eqlZ rfl rfl) ?_
    refine OW.val rfl rfl (EX.pickF rfl rfl) ?_
    refine OW.val rfl rfl (EX.move rfl) ?_
    refine OW.as 17 (.bool true) rfl (congrArg Value.bool (decide_eq_true (by rw [more_eq _ hr]))) ?_
    refine OW.call rfl rfl rfl (awake_s w2) ?_
    rintro _ w3 ⟨rfl, hx3⟩
    refine OW.val rfl rfl (EX.pickT rfl rfl) ?_
    refine OW.val rfl rfl (EX.assign rfl) ?_
    refine OW.nil ?_
    refine KW.ret (ret1 rfl rfl ?_)
    exact ⟨rfl, (hx1.trans hx2).trans hx3⟩

theorem ieees_law (s : List UInt8) (hs : s.length ≤ 9223372036854775807) (w : World) :
    Ret Try.prog 5 [str s] w fun v w' => v = .bool true ∧ Ext w w' := by
  refine Ret.enter Try.func5 rfl Try.ntmps5 (by kernel_rfl) rfl ?_
  refine KW.seq (KW.region ?_)
  refine OW.val rfl rfl (EX.assign rfl) ?_
  refine OW.nil ?_
  refine KW.seq ?_
  refine KW.region ?_
  refine OW.val rfl rfl (EX.move rfl) ?_
  refine OW.val rfl rfl (EX.lenS Try.underlying9 rfl) ?_
  refine OW.val rfl rfl (by first | exact EX.gtrN (b := 2000) rfl rfl | exact EX.gtrZ rfl rfl) ?_
  refine OW.val rfl rfl (EX.move rfl) ?_
  refine OW.splitD 6 rfl (fun h => ?_) (fun h => ?_)
  · refine OW.pass rfl rfl ?_
    refine OW.pass rfl rfl ?_
    refine OW.pass rfl rfl ?_
    refine OW.pass rfl rfl ?_
    refine OW.pass rfl rfl ?_
    refine OW.val rfl rfl (EX.pickT rfl rfl) ?_
    refine OW.val rfl rfl (EX.move rfl) ?_
    refine OW.call rfl rfl rfl (awake_s w) ?_
    rintro _ w1 ⟨rfl, hx⟩
    refine OW.val rfl rfl (EX.pickT rfl rfl) ?_
    refine OW.val rfl rfl (EX.assign rfl) ?_
    refine OW.nil ?_
    refine KW.ret (ret1 rfl rfl ?_)
    exact ⟨rfl, hx⟩
  · refine OW.val rfl rfl (EX.move rfl) ?_
    refine OW.call rfl rfl rfl (ieee_s s hs w) ?_
    rintro _ w1 ⟨rfl, hx1⟩
    refine OW.val rfl rfl (EX.move rfl) ?_
    refine OW.call rfl rfl rfl (rieee_s s (by omega) w1) ?_
    rintro _ w2 ⟨rfl, hx2⟩
    refine OW.val rfl rfl (by first | exact EX.eqlN rfl rfl | exact EX.eqlZ rfl rfl) ?_
    refine OW.val rfl rfl (EX.pickF rfl rfl) ?_
    refine OW.val rfl rfl (EX.move rfl) ?_
    refine OW.as 13 (.bool true) rfl (congrArg Value.bool (decide_eq_true (by rw [ieee_eq]))) ?_
    refine OW.call rfl rfl rfl (awake_s w2) ?_
    rintro _ w3 ⟨rfl, hx3⟩
    refine OW.val rfl rfl (EX.pickT rfl rfl) ?_
    refine OW.val rfl rfl (EX.assign rfl) ?_
    refine OW.nil ?_
    refine KW.ret (ret1 rfl rfl ?_)
    exact ⟨rfl, (hx1.trans hx2).trans hx3⟩

theorem streams_law (l : List Nat) (A : Option Addr) (c : Nat) (hl : ∀ x ∈ l, x < 4294967296) (hn : l.length ≤ 9223372036854775807) (w : World) (B : Nat) (hs : Sl w B A (ints .u32 l)) :
    Ret Try.prog 6 [.slice A l.length c] w fun v w' => v = .bool true ∧ Ext w w' := by
  refine Ret.enter Try.func6 rfl Try.ntmps6 (by kernel_rfl) rfl ?_
  refine KW.seq (KW.region ?_)
  refine OW.val rfl rfl (EX.assign rfl) ?_
  refine OW.nil ?_
  refine KW.seq ?_
  refine KW.region ?_
  refine OW.val rfl rfl (EX.move rfl) ?_
  refine OW.call rfl rfl rfl (stream_s l A c hl hn w B hs) ?_
  rintro _ _ ⟨rfl, rfl⟩
  refine OW.val rfl rfl (EX.move rfl) ?_
  refine OW.call rfl rfl rfl (rstream_s l A c hl hn w B hs) ?_
  rintro _ _ ⟨rfl, rfl⟩
  refine OW.val rfl rfl (by first | exact EX.eqlN rfl rfl | exact EX.eqlZ rfl rfl) ?_
  refine OW.val rfl rfl (EX.move rfl) ?_
  refine OW.as 8 (.bool true) rfl (congrArg Value.bool (decide_eq_true (rfl))) ?_
  refine OW.call rfl rfl rfl (awake_s w) ?_
  rintro _ w3 ⟨rfl, hx3⟩
  refine OW.val rfl rfl (EX.pickT rfl rfl) ?_
  refine OW.val rfl rfl (EX.assign rfl) ?_
  refine OW.nil ?_
  refine KW.ret (ret1 rfl rfl ?_)
  exact ⟨rfl, hx3⟩


theorem parts_law (l : List (List UInt8)) (A : Option Addr) (c : Nat) (hl : ∀ s ∈ l, s.length ≤ 140737488355328) (hn : l.length ≤ 9223372036854775807) (w : World) (B : Nat) (hs : Sl w B A (strsV l)) :
    Ret Try.prog 7 [.slice A l.length c] w fun v w' => v = .bool true ∧ Ext w w' := by
  refine Ret.enter Try.func7 rfl Try.ntmps7 (by kernel_rfl) rfl ?_
  refine KW.seq (KW.region ?_)
  refine OW.val rfl rfl (EX.assign rfl) ?_
  refine OW.nil ?_
  refine KW.seq (KW.region ?_)
  refine OW.val rfl rfl (EX.assign rfl) ?_
  refine OW.val rfl rfl (EX.assign rfl) ?_
  refine OW.nil ?_
  refine KW.seq (KW.seq (KW.region ?_))
  refine OW.val rfl rfl (EX.assign rfl) ?_
  refine OW.nil ?_
  refine KW.block ?_
  refine KW.loop4 (fun (i : Nat) (x : Nat) (all : List UInt8) (wr : World) => i ≤ l.length ∧ x < 4294967296 ∧ x = cmore 4294967295 all ∧ all.length ≤ 100000 ∧ Ext w wr) (fun (i : Nat) (x : Nat) (all : List UInt8) (wr : World) => [(0, .slice A l.length c), (3, .int .u32 ((x : Nat) : Int)), (4, str (all)), (5, .int .i64 ((i : Nat) : Int))]) (fun (i : Nat) (x : Nat) (all : List UInt8) (wr : World) => wr) (fun (i : Nat) (x : Nat) (all : List UInt8) (wr : World) => l.length - i) (0) (4294967295) ([]) (w) ⟨rfl, rfl, rfl, rfl, trivial⟩ rfl ?_ ?_
  · exact ⟨by omega, by omega, rfl, by simp, Ext.refl _⟩
  · rintro i x all wr ⟨hi, hx, hxe, hal, hext⟩
    refine KW.seq (KW.seq (KW.region ?_))
    refine OW.val rfl rfl (EX.move rfl) ?_
    refine OW.val rfl rfl (EX.move rfl) ?_
    refine OW.val rfl rfl (EX.lenA Try.underlying32 rfl) ?_
    refine OW.val rfl rfl (by first | exact EX.lssN rfl rfl | exact EX.lssZ rfl rfl) ?_
    refine OW.nil ?_
    refine KW.condD rfl (fun h => ?_) (fun h => ?_)
    · obtain ⟨b, o, rfl, _, hc⟩ := (hs.ext hext).at_ (by simp [strsV]; omega)
      have hli := hl l[i] (by simp)
      refine KW.skip (KW.seq (KW.block (KW.seq (KW.seq (KW.region ?_)))))
      refine OW.val rfl rfl (EX.move rfl) ?_
      refine OW.val rfl rfl (EX.lenS Try.underlying9 rfl) ?_
      refine OW.val rfl rfl (EX.move rfl) ?_
      refine OW.val rfl rfl (EX.move rfl) ?_
      refine OW.val rfl rfl (by first | exact EX.indexAddrS0 Try.underlying32 ti9 rfl rfl (by omega) | exact EX.indexAddrS1 Try.underlying32 ti9 rfl rfl (by omega)) ?_
      refine OW.val rfl rfl (EX.load Try.underlying9 rfl rfl (hc i _ (strsV_get h))) ?_
      refine OW.val rfl rfl (EX.lenS Try.underlying9 rfl) ?_
      refine OW.val rfl rfl (by first | exact EX.addN (m := 9223372036854775807) rfl rfl rfl (by omega) | exact EX.addZ (m := 9223372036854775807) rfl rfl rfl rfl (by omega)) ?_
      refine OW.val rfl rfl (by first | exact EX.gtrN (b := 100000) rfl rfl | exact EX.gtrZ rfl rfl) ?_
      refine OW.nil ?_
      refine KW.condD rfl (fun h2 => ?_) (fun h2 => ?_)
      · refine KW.seq (KW.region ?_)
        refine OW.call rfl rfl rfl (awake_s wr) ?_
        rintro _ w1 ⟨rfl, hx1⟩
        refine OW.val rfl rfl (EX.assign rfl) ?_
        refine OW.nil ?_
        refine KW.ret (ret1 rfl rfl ?_)
        exact ⟨rfl, hext.trans hx1⟩
      · refine KW.skip (KW.seq (KW.region ?_))
        refine OW.val rfl rfl (EX.move rfl) ?_
        refine OW.val rfl rfl (EX.move rfl) ?_
        refine OW.val rfl rfl (EX.move rfl) ?_
        refine OW.val rfl rfl (by first | exact EX.indexAddrS0 Try.underlying32 ti9 rfl rfl (by omega) | exact EX.indexAddrS1 Try.underlying32 ti9 rfl rfl (by omega)) ?_
        refine OW.val rfl rfl (EX.load Try.underlying9 rfl rfl (hc i _ (strsV_get h))) ?_
        refine OW.call rfl rfl rfl (more_s x hx l[i] (by omega) wr) ?_
        rintro _ w1 ⟨rfl, hx1⟩
        refine OW.val rfl rfl (EX.assign rfl) ?_
        refine OW.nil ?_
        refine KW.region ?_
        refine OW.val rfl rfl (EX.move rfl) ?_
        refine OW.val rfl rfl (EX.move rfl) ?_
        refine OW.val rfl rfl (EX.move rfl) ?_
        refine OW.val rfl rfl (by first | exact EX.indexAddrS0 Try.underlying32 ti9 rfl rfl (by omega) | exact EX.indexAddrS1 Try.underlying32 ti9 rfl rfl (by omega)) ?_
        obtain ⟨b', o', he, _, hc'⟩ := (hs.ext (hext.trans hx1)).at_ (by simp [strsV]; omega)
        obtain ⟨rfl, rfl⟩ : b = b' ∧ o = o' := by injection he with he; injection he with h1 h2; exact ⟨h1, h2⟩
        refine OW.val rfl rfl (EX.load Try.underlying9 rfl rfl (hc' i _ (strsV_get h))) ?_
        refine OW.val rfl rfl (EX.addS rfl rfl (by first | omega | (simp only [List.length_append, List.length_cons, List.length_nil, List.length_take, List.length_drop, List.length_replicate]; omega))) ?_
        refine OW.val rfl rfl (EX.assign rfl) ?_
        refine OW.nil ?_
        refine KW.leave (KW.region ?_)
        refine OW.val rfl rfl (EX.move rfl) ?_
        refine OW.val rfl rfl (by first | exact EX.addN (b := 1) (m := 9223372036854775807) rfl rfl rfl (by omega) | exact EX.addZ (m := 9223372036854775807) rfl rfl rfl rfl (by omega)) ?_
        refine OW.val rfl rfl (EX.assign rfl) ?_
        refine OW.nil ?_
        refine KW.back4 (i + 1) (cmore x l[i]) (all ++ l[i]) (w1) ⟨rfl, rfl, rfl, rfl, trivial⟩ rfl ?_ (by omega)
        refine ⟨by omega, cmore_lt _ _ hx, by rw [cmore_append, hxe], by rw [List.length_append]; omega, hext.trans hx1⟩
    · have hlt := cmore_lt 4294967295 all (by decide)
      refine KW.exit rfl (KW.seq ?_)
      refine KW.region ?_
      refine OW.val rfl rfl (EX.move rfl) ?_
      refine OW.val rfl rfl (EX.notN (m := 4294967295) rfl rfl rfl (by omega)) ?_
      refine OW.val rfl rfl (EX.move rfl) ?_
      refine OW.call rfl rfl rfl (bzip_s all (by omega) wr) ?_
      rintro _ w1 ⟨rfl, hx1⟩
      refine OW.val rfl rfl (by first | exact EX.eqlN rfl rfl | exact EX.eqlZ rfl rfl) ?_
      refine OW.val rfl rfl (EX.move rfl) ?_
      refine OW.as 39 (.bool true) rfl (congrArg Value.bool (decide_eq_true (by rw [hxe, cbzip]))) ?_
      refine OW.call rfl rfl rfl (awake_s w1) ?_
      rintro _ w2 ⟨rfl, hx2⟩
      refine OW.val rfl rfl (EX.pickT rfl rfl) ?_
      refine OW.val rfl rfl (EX.assign rfl) ?_
      refine OW.nil ?_
      refine KW.ret (ret1 rfl rfl ?_)
      exact ⟨rfl, (hext.trans hx1).trans hx2⟩

theorem linear_law (a : List UInt8) (ha : a.length ≤ 9223372036854775807) (b : List UInt8) (hb : b.length ≤ 9223372036854775807) (c : List UInt8) (hc : c.length ≤ 9223372036854775807) (w : World) :
    Ret Try.prog 8 [str a, str b, str c] w fun v w' => v = .bool true ∧ Ext w w' := by
  obtain ⟨n, hn⟩ : ∃ n, n = min (min a.length b.length) c.length := ⟨_, rfl⟩
  have h1 : (a.take n).length = n := by rw [List.length_take]; omega
  have h2 : (b.take n).length = n := by rw [List.length_take]; omega
  have h3 : (c.take n).length = n := by rw [List.length_take]; omega
  have hm := mix_len (a.take n) (b.take n) (by omega)
  have hm2 := mix_len (mix (a.take n) (b.take n)) (c.take n) (by omega)
  have hbz := bzip_lin (a.take n) (b.take n) (c.take n) (by omega) (by omega)
  have hie := ieee_lin (a.take n) (b.take n) (c.take n) (by omega) (by omega)
  have hlb : ∀ s, cbzip s < 4294967296 := fun s => by unfold cbzip; omega
  have hli : ∀ s, cieee s < 4294967296 := fun s => trn_lt _ _ _ (by decide)
  have hb1 := hlb (a.take n)
  have hb2 := hlb (b.take n)
  have hb3 := hlb (c.take n)
  have hb4 : cbzip (a.take n) ^^^ cbzip (b.take n) < 4294967296 := Nat.xor_lt_two_pow (n := 32) hb1 hb2
  have hi1 := hli (a.take n)
  have hi2 := hli (b.take n)
  have hi3 := hli (c.take n)
  have hi4 : cieee (a.take n) ^^^ cieee (b.take n) < 4294967296 := Nat.xor_lt_two_pow (n := 32) hi1 hi2
  refine Ret.enter Try.func8 rfl Try.ntmps8 (by kernel_rfl) rfl ?_
  refine KW.seq (KW.region ?_)
  refine OW.val rfl rfl (EX.assign rfl) ?_
  refine OW.nil ?_
  refine KW.seq (KW.region ?_)
  refine OW.val rfl rfl (EX.move rfl) ?_
  refine OW.val rfl rfl (EX.lenS Try.underlying9 rfl) ?_
  refine OW.val rfl rfl (EX.move rfl) ?_
  refine OW.val rfl rfl (EX.lenS Try.underlying9 rfl) ?_
  refine OW.val rfl rfl (EX.move rfl) ?_
  refine OW.val rfl rfl (EX.lenS Try.underlying9 rfl) ?_
  refine OW.val rfl rfl (EX.min3N rfl rfl rfl) ?_
  refine OW.val rfl rfl (EX.assign rfl) ?_
  refine OW.nil ?_
  refine KW.seq ?_
  refine KW.as 7 (.int .i64 ((n : Nat) : Int)) rfl (by rw [hn]) ?_
  refine KW.regionQ (by kernel_rfl) (by kernel_rfl) ?_
  refine QW.val rfl rfl (fun _ => EX.move rfl) ?_
  refine QW.val rfl rfl (fun _ => EX.move rfl) ?_
  refine QW.val rfl rfl (fun _ => EX.sliceFH Try.underlying9 rfl rfl (by omega)) ?_
  refine QW.val rfl rfl (fun _ => EX.move rfl) ?_
  refine QW.val rfl rfl (fun _ => EX.move rfl) ?_
  refine QW.val rfl rfl (fun _ => EX.sliceFH Try.underlying9 rfl rfl (by omega)) ?_
  refine QW.val rfl rfl (fun _ => EX.move rfl) ?_
  refine QW.val rfl rfl (fun _ => EX.move rfl) ?_
  refine QW.val rfl rfl (fun _ => EX.sliceFH Try.underlying9 rfl rfl (by omega)) ?_
  refine QW.val rfl rfl (fun _ => EX.assign rfl) ?_
  refine QW.val rfl rfl (fun _ => EX.assign rfl) ?_
  refine QW.val rfl rfl (fun _ => EX.assign rfl) ?_
  refine QW.nil (fun nq => ?_)
  refine KW.seq (KW.region ?_)
  refine OW.val rfl rfl (EX.move rfl) ?_
  refine OW.val rfl rfl (EX.move rfl) ?_
  refine OW.call rfl rfl rfl (mixed_s (a.take n) (b.take n) (by omega) (by omega) _) ?_
  rintro _ w1 ⟨rfl, hx1⟩
  refine OW.val rfl rfl (EX.move rfl) ?_
  refine OW.call rfl rfl rfl (mixed_s (mix (a.take n) (b.take n)) (c.take n) (by omega) (by omega) w1) ?_
  rintro _ w2 ⟨rfl, hx2⟩
  refine OW.val rfl rfl (EX.assign rfl) ?_
  refine OW.nil ?_
  refine KW.seq ?_
  refine KW.region ?_
  refine OW.val rfl rfl (EX.move rfl) ?_
  refine OW.call rfl rfl rfl (bzip_s (mix (mix (a.take n) (b.take n)) (c.take n)) (by omega) w2) ?_
  rintro _ w3 ⟨rfl, hx3⟩
  refine OW.val rfl rfl (EX.move rfl) ?_
  refine OW.call rfl rfl rfl (bzip_s (a.take n) (by omega) w3) ?_
  rintro _ w4 ⟨rfl, hx4⟩
  refine OW.val rfl rfl (EX.move rfl) ?_
  refine OW.call rfl rfl rfl (bzip_s (b.take n) (by omega) w4) ?_
  rintro _ w5 ⟨rfl, hx5⟩
  refine OW.val rfl rfl (EX.xorN (m := 4294967295) rfl rfl rfl (by omega)) ?_
  refine OW.val rfl rfl (EX.move rfl) ?_
  refine OW.call rfl rfl rfl (bzip_s (c.take n) (by omega) w5) ?_
  rintro _ w6 ⟨rfl, hx6⟩
  refine OW.val rfl rfl (EX.xorN (m := 4294967295) rfl rfl rfl (by omega)) ?_
  refine OW.val rfl rfl (by first | exact EX.eqlN rfl rfl | exact EX.eqlZ rfl rfl) ?_
  refine OW.val rfl rfl (EX.move rfl) ?_
  refine OW.as 41 (.bool true) rfl (congrArg Value.bool (decide_eq_true (hbz))) ?_
  refine OW.val rfl rfl (EX.move rfl) ?_
  refine OW.call rfl rfl rfl (ieee_s (mix (mix (a.take n) (b.take n)) (c.take n)) (by omega) w6) ?_
  rintro _ w7 ⟨rfl, hx7⟩
  refine OW.val rfl rfl (EX.move rfl) ?_
  refine OW.call rfl rfl rfl (ieee_s (a.take n) (by omega) w7) ?_
  rintro _ w8 ⟨rfl, hx8⟩
  refine OW.val rfl rfl (EX.move rfl) ?_
  refine OW.call rfl rfl rfl (ieee_s (b.take n) (by omega) w8) ?_
  rintro _ w9 ⟨rfl, hx9⟩
  refine OW.val rfl rfl (EX.xorN (m := 4294967295) rfl rfl rfl (by omega)) ?_
  refine OW.val rfl rfl (EX.move rfl) ?_
  refine OW.call rfl rfl rfl (ieee_s (c.take n) (by omega) w9) ?_
  rintro _ w10 ⟨rfl, hx10⟩
  refine OW.val rfl rfl (EX.xorN (m := 4294967295) rfl rfl rfl (by omega)) ?_
  refine OW.val rfl rfl (by first | exact EX.eqlN rfl rfl | exact EX.eqlZ rfl rfl) ?_
  refine OW.val rfl rfl (EX.pickT rfl rfl) ?_
  refine OW.val rfl rfl (EX.move rfl) ?_
  refine OW.as 54 (.bool true) rfl (congrArg Value.bool (decide_eq_true (hie))) ?_
  refine OW.call rfl rfl rfl (awake_s w10) ?_
  rintro _ w11 ⟨rfl, hx11⟩
  refine OW.val rfl rfl (EX.pickT rfl rfl) ?_
  refine OW.val rfl rfl (EX.assign rfl) ?_
  refine OW.nil ?_
  refine KW.ret (ret1 rfl rfl ?_)
  exact ⟨rfl, (((((((((((Ext.drewN w nq).trans hx1).trans hx2).trans hx3).trans hx4).trans hx5).trans hx6).trans hx7).trans hx8).trans hx9).trans hx10).trans hx11⟩

end Go.Proofs.Ytmpgffdfejnklaa
