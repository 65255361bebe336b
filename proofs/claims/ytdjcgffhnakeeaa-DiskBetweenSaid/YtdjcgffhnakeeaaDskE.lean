/-
  disk: devices are made; what the document fixes.
-/
import Derived.Test.YtdjcgffhnakeeaaDskC
namespace Go.Proofs.Ytdjcgffhnakeeaa
open Go.RowKit Dsk
set_option linter.unusedVariables false

def _root_.Go.Proofs.Ytdjcgffhnakeeaa.Dsk.fresh (cap : Nat) (s : List UInt8) : Dv := { cap := cap, kept := s, now := s, pend := [], at_ := 0, keep := [], dead := false, calls := 0 }
theorem fresh_ok {cap : Nat} {s : List UInt8} (h : 1 ≤ cap ∧ cap ≤ 4096) (h1 : s.length % 512 = 0) (h2 : s.length / 512 ≤ cap) : (fresh cap s).Ok :=
  ⟨h, by show s.length ≤ 512 * cap; omega, by show s.length ≤ 512 * cap; omega, h1, h1, fun c hc => by simp [fresh] at hc⟩
theorem fresh_small (cap : Nat) (s : List UInt8) : Small (fresh cap s) := ⟨by simp [fresh], by simp [fresh], by simp [fresh], by simp [fresh]⟩
/-- may a device with these sectors be? -/
def _root_.Go.Proofs.Ytdjcgffhnakeeaa.Dsk.may (c : Int) (s : List UInt8) : Prop := 1 ≤ c ∧ c ≤ 4096 ∧ s.length % 512 = 0 ∧ ((s.length / 512 : Nat) : Int) ≤ c
theorem Own.ofBytes {w : World} {B g cap : Nat} {s : List UInt8} {rs : List Value} (hb : Bk w g 5 (bytesV s ++ rs)) (hB : B ≤ g) (hc : s.length ≤ cap) (hm : cap ≤ maxLen) (hl : s.length + rs.length = cap) : Own w B 5 1 (.slice (some ⟨g, 0, none⟩) s.length cap) s.length (bytesV s) :=
  ⟨by simp [bytesV], .inr ⟨g, cap, rs, rfl, hB, hb, by rw [bytesV_length]; omega, hc, hm⟩⟩
theorem load_s (c : Int) (c0 : -9223372036854775808 ≤ c) (c1 : c ≤ 9223372036854775807) (s : List UInt8) (hs : s.length ≤ 140737488355328) (w : World) :
    Ret Try.prog 9 [.int .i64 c, str s] w fun v w' => ∃ (p : Value) (e : Nat), v = .tuple #[p, .int .i64 (e : Int)] ∧ Ext w w' ∧ ((¬ may c s ∧ p = .pointer none ∧ e = 2) ∨ (may c s ∧ ∃ b, p = .pointer (some ⟨b, 0, none⟩) ∧ e = 0 ∧ DevAt w' w.heap.size b (fresh c.toNat s))) := by
  refine Ret.enter Try.func9 rfl Try.ntmps9 (by kernel_rfl) rfl ?_
  refine KW.seq (KW.region ?_)
  refine OW.val rfl rfl (EX.assign rfl) ?_
  refine OW.val rfl rfl (EX.assign rfl) ?_
  refine OW.nil ?_
  refine KW.seq (KW.seq ?_)
  refine KW.cut1 (fun (_u : Unit) => True) (fun (_u : Unit) => [(0, .int .i64 (c : Int)), (1, str (s)), (24, .bool (decide (¬ (1 ≤ c ∧ c ≤ 4096 ∧ s.length % 512 = 0 ∧ ((s.length / 512 : Nat) : Int) ≤ c))))]) (fun (_u : Unit) => w) ?_ ?_
  · refine KW.region ?_
    refine OW.val rfl rfl (EX.move rfl) ?_
    refine OW.val rfl rfl (by first | exact EX.lssN (b := 1) rfl rfl | exact EX.lssZ rfl rfl) ?_
    refine OW.val rfl rfl (EX.move rfl) ?_
    refine OW.splitD 8 rfl (fun a1 => ?_) (fun a1 => ?_)
    · refine OW.pass rfl rfl ?_
      refine OW.pass rfl rfl ?_
      refine OW.val rfl rfl (EX.pickT rfl rfl) ?_
      refine OW.val rfl rfl (EX.move rfl) ?_
      refine OW.pass rfl rfl ?_
      refine OW.pass rfl rfl ?_
      refine OW.pass rfl rfl ?_
      refine OW.pass rfl rfl ?_
      refine OW.val rfl rfl (EX.pickT rfl rfl) ?_
      refine OW.val rfl rfl (EX.move rfl) ?_
      refine OW.pass rfl rfl ?_
      refine OW.pass rfl rfl ?_
      refine OW.pass rfl rfl ?_
      refine OW.pass rfl rfl ?_
      refine OW.pass rfl rfl ?_
      refine OW.val rfl rfl (EX.pickT rfl rfl) ?_
      refine OW.nil ?_
      refine KW.as 24 (.bool (decide (¬ (1 ≤ c ∧ c ≤ 4096 ∧ s.length % 512 = 0 ∧ ((s.length / 512 : Nat) : Int) ≤ c)))) rfl (by rw [decide_eq_true]; omega) ?_
      refine KW.meet1 (()) ⟨rfl, rfl, rfl, trivial⟩ rfl ?_
      trivial
    · refine OW.val rfl rfl (EX.move rfl) ?_
      refine OW.val rfl rfl (by first | exact EX.gtrN (b := 4096) rfl rfl | exact EX.gtrZ rfl rfl) ?_
      refine OW.val rfl rfl (EX.pickF rfl rfl) ?_
      refine OW.val rfl rfl (EX.move rfl) ?_
      refine OW.splitD 12 rfl (fun a2 => ?_) (fun a2 => ?_)
      · refine OW.pass rfl rfl ?_
        refine OW.pass rfl rfl ?_
        refine OW.pass rfl rfl ?_
        refine OW.pass rfl rfl ?_
        refine OW.val rfl rfl (EX.pickT rfl rfl) ?_
        refine OW.val rfl rfl (EX.move rfl) ?_
        refine OW.pass rfl rfl ?_
        refine OW.pass rfl rfl ?_
        refine OW.pass rfl rfl ?_
        refine OW.pass rfl rfl ?_
        refine OW.pass rfl rfl ?_
        refine OW.val rfl rfl (EX.pickT rfl rfl) ?_
        refine OW.nil ?_
        refine KW.as 24 (.bool (decide (¬ (1 ≤ c ∧ c ≤ 4096 ∧ s.length % 512 = 0 ∧ ((s.length / 512 : Nat) : Int) ≤ c)))) rfl (by rw [decide_eq_true]; omega) ?_
        refine KW.meet1 (()) ⟨rfl, rfl, rfl, trivial⟩ rfl ?_
        trivial
      · refine OW.val rfl rfl (EX.move rfl) ?_
        refine OW.val rfl rfl (EX.lenS Try.underlying9 rfl) ?_
        refine OW.val rfl rfl (EX.remN (b := 512) rfl rfl (by omega)) ?_
        refine OW.val rfl rfl (by first | exact EX.neqN (b := 0) rfl rfl | exact EX.neqZ rfl rfl) ?_
        refine OW.val rfl rfl (EX.pickF rfl rfl) ?_
        refine OW.val rfl rfl (EX.move rfl) ?_
        refine OW.splitD 18 rfl (fun a3 => ?_) (fun a3 => ?_)
        · refine OW.pass rfl rfl ?_
          refine OW.pass rfl rfl ?_
          refine OW.pass rfl rfl ?_
          refine OW.pass rfl rfl ?_
          refine OW.pass rfl rfl ?_
          refine OW.val rfl rfl (EX.pickT rfl rfl) ?_
          refine OW.nil ?_
          refine KW.as 24 (.bool (decide (¬ (1 ≤ c ∧ c ≤ 4096 ∧ s.length % 512 = 0 ∧ ((s.length / 512 : Nat) : Int) ≤ c)))) rfl (by rw [decide_eq_true]; omega) ?_
          refine KW.meet1 (()) ⟨rfl, rfl, rfl, trivial⟩ rfl ?_
          trivial
        · refine OW.val rfl rfl (EX.move rfl) ?_
          refine OW.val rfl rfl (EX.lenS Try.underlying9 rfl) ?_
          refine OW.val rfl rfl (EX.quoN (b := 512) (m := 9223372036854775807) rfl rfl rfl (by omega)) ?_
          refine OW.val rfl rfl (EX.move rfl) ?_
          refine OW.val rfl rfl (by first | exact EX.gtrN rfl rfl | exact EX.gtrZ rfl rfl) ?_
          refine OW.val rfl rfl (EX.pickF rfl rfl) ?_
          refine OW.nil ?_
          refine KW.as 24 (.bool (decide (¬ (1 ≤ c ∧ c ≤ 4096 ∧ s.length % 512 = 0 ∧ ((s.length / 512 : Nat) : Int) ≤ c)))) rfl (congrArg Value.bool (decide_eq_decide.2 (by omega))) ?_
          refine KW.meet1 (()) ⟨rfl, rfl, rfl, trivial⟩ rfl ?_
          trivial
  · rintro _ _
    refine KW.condD rfl (fun hm => ?_) (fun hm => ?_)
    · refine KW.seq (KW.region ?_)
      refine OW.val rfl rfl (EX.assign rfl) ?_
      refine OW.val rfl rfl (EX.assign rfl) ?_
      refine OW.nil ?_
      refine KW.ret (ret2 rfl rfl rfl ?_)
      exact ⟨_, 2, rfl, Ext.refl _, .inl ⟨hm, rfl, rfl⟩⟩
    · have hmay : may c s := Classical.not_not.1 hm
      obtain ⟨m1, m2, m3, m4⟩ := id hmay
      obtain ⟨j, rfl⟩ := Int.eq_ofNat_of_zero_le (show 0 ≤ c by omega)
      refine KW.skip (KW.seq (KW.region ?_))
      refine OW.val rfl rfl (EX.move rfl) ?_
      refine OW.val rfl rfl (EX.move rfl) ?_
      refine OW.bytesOf rfl rfl Try.underlying9 Try.underlying51 Try.underlying5 rfl (by omega) ?_
      rintro cp rs w1 hb1 hc1 hm1 hl1 hx1
      refine OW.val rfl rfl (EX.move rfl) ?_
      refine OW.bytesOf rfl rfl Try.underlying9 Try.underlying51 Try.underlying5 rfl (by omega) ?_
      rintro cp2 rs2 w2 hb2 hc2 hm2 hl2 hx2
      refine OW.val rfl rfl (EX.buildS (pl := [(0, 1), (1, 1), (2, 1), (3, 1), (4, 2), (6, 1), (7, 1)]) (ks := [0, 1, 2]) (is := [0, 1, 2]) (zs := [.int .i64 0, .slice none 0 0, .slice none 0 0, .slice none 0 0, .int .i64 0, .slice none 0 0, .bool false, .int .i64 0]) Try.underlying54 ti54 (by kernel_rfl) rfl rfl rfl (by first | rfl | (simp only [List.all_cons, List.all_nil, Bool.and_true, Bool.true_and, Bool.and_eq_true, Value.oneCell']; repeat (first | assumption | exact Own.one (by assumption) | constructor))) (by simp only [setAll, List.set_cons_zero, List.set_cons_succ]; rfl)) ?_
      refine OW.boxS rfl rfl rfl ?_
      rintro b w3 hge hb3 hx3
      refine OW.val rfl rfl (EX.assign rfl) ?_
      refine OW.val rfl rfl (EX.assign rfl) ?_
      refine OW.nil ?_
      refine KW.ret (ret2 rfl rfl rfl ?_)
      have e1 := Own.ofBytes hb1 (Nat.le_refl _) hc1 hm1 hl1
      have z1 := hx1.size
      have z2 := hx2.size
      have e2 : Own w2 w.heap.size 5 1 _ _ _ := Own.ofBytes hb2 z1 hc2 hm2 hl2
      have l1 := hb1.lt
      refine ⟨_, 0, rfl, (hx1.trans hx2).trans hx3, .inr ⟨hmay, b, rfl, rfl, _, _, _, _, [], ⟨by omega, hb3, (e1.ext hx2).ext hx3, e2.ext hx3, ?_, Own.nil _ _ _ _, trivial, Own.nil _ _ _ _⟩⟩⟩
      intro k hk hk'
      simp [Value.ownBlock] at hk hk'
      omega
theorem new_s (c : Int) (c0 : -9223372036854775808 ≤ c) (c1 : c ≤ 9223372036854775807) (w : World) :
    Ret Try.prog 22 [.int .i64 c] w fun v w' => ∃ (p : Value) (e : Nat), v = .tuple #[p, .int .i64 (e : Int)] ∧ Ext w w' ∧ ((¬ may c [] ∧ p = .pointer none ∧ e = 2) ∨ (may c [] ∧ ∃ b, p = .pointer (some ⟨b, 0, none⟩) ∧ e = 0 ∧ DevAt w' w.heap.size b (fresh c.toNat []))) := by
  refine Ret.enter Try.func22 rfl Try.ntmps22 (by kernel_rfl) rfl ?_
  refine KW.seq (KW.region ?_)
  refine OW.val rfl rfl (EX.assign rfl) ?_
  refine OW.val rfl rfl (EX.assign rfl) ?_
  refine OW.nil ?_
  refine KW.seq (KW.region ?_)
  refine OW.val rfl rfl (EX.move rfl) ?_
  refine OW.call rfl rfl rfl (load_s c c0 c1 [] (by simp) w) ?_
  rintro _ w1 ⟨p, e, rfl, hx, hor⟩
  refine OW.val rfl rfl (EX.extract rfl rfl) ?_
  refine OW.val rfl rfl (EX.extract rfl rfl) ?_
  refine OW.val rfl rfl (EX.assign rfl) ?_
  refine OW.val rfl rfl (EX.assign rfl) ?_
  refine OW.nil ?_
  refine KW.ret (ret2 rfl rfl rfl ?_)
  exact ⟨p, e, rfl, hx, hor⟩
theorem rep_set (i n b : Nat) (h : i < n) : (List.replicate i (Value.int .u8 (b : Int)) ++ List.replicate (n - i) (Value.int .u8 0)).set i (.int .u8 (b : Int)) = List.replicate (i + 1) (Value.int .u8 (b : Int)) ++ List.replicate (n - (i + 1)) (Value.int .u8 0) := by
  rw [List.set_append_right _ _ (by simp), List.length_replicate, Nat.sub_self, show n - i = (n - (i + 1)) + 1 by omega, List.replicate_succ, List.set_cons_zero, List.replicate_succ']
  simp
theorem sector_s (b : Nat) (hb : b ≤ 255) (odd : Bool) (w : World) : Ret Try.prog 24 [.int .u8 b, .bool odd] w fun v w' => v = str (sector b odd) ∧ Ext w w' := by
  refine Ret.enter Try.func24 rfl Try.ntmps24 (by kernel_rfl) rfl ?_
  refine KW.seq (KW.region ?_)
  refine OW.val rfl rfl (EX.assign rfl) ?_
  refine OW.nil ?_
  refine KW.seq (KW.region ?_)
  refine OW.val rfl rfl (EX.assign rfl) ?_
  refine OW.nil ?_
  refine KW.seq (KW.seq (KW.region ?_))
  refine OW.val rfl rfl (EX.move rfl) ?_
  refine OW.nil ?_
  refine KW.cut1 (fun (_u : Unit) => True) (fun (_u : Unit) => [(0, .int .u8 ((b : Nat) : Int)), (5, .int .i64 (((if odd then 511 else 512) : Nat) : Int))]) (fun (_u : Unit) => w) ?_ ?_
  · refine KW.cond rfl (fun ho => ?_) (fun ho => ?_)
    · refine KW.region ?_
      refine OW.val rfl rfl (EX.assign rfl) ?_
      refine OW.nil ?_
      rw [ho]
      refine KW.meet1 (()) ⟨rfl, rfl, trivial⟩ rfl ?_
      trivial
    · refine KW.skip ?_
      rw [ho]
      refine KW.meet1 (()) ⟨rfl, rfl, trivial⟩ rfl ?_
      trivial
  · rintro _ _
    generalize hn : (if odd then 511 else 512) = n
    have hn2 : n ≤ 512 := by rw [← hn]; split <;> omega
    refine KW.seq (KW.region ?_)
    refine OW.val rfl rfl (EX.move rfl) ?_
    refine OW.makeB rfl rfl Try.underlying51 ti5 rfl rfl rfl (by omega) (by omega) ?_
    rintro g w1 hge hg hx
    refine OW.val rfl rfl (EX.assign rfl) ?_
    refine OW.nil ?_
    refine KW.seq (KW.seq (KW.region ?_))
    refine OW.val rfl rfl (EX.assign rfl) ?_
    refine OW.nil ?_
    refine KW.block ?_
    refine KW.loop2 (fun (i : Nat) (wr : World) => i ≤ n ∧ Bk wr g 5 (List.replicate i (.int .u8 (b : Int)) ++ List.replicate (n - i) (.int .u8 0)) ∧ Ext w wr) (fun (i : Nat) (wr : World) => [(0, .int .u8 ((b : Nat) : Int)), (5, .int .i64 ((n : Nat) : Int)), (6, .slice (some ⟨g, 0, none⟩) n n), (7, .int .i64 ((i : Nat) : Int))]) (fun (i : Nat) (wr : World) => wr) (fun (i : Nat) (wr : World) => n - i) (0) (w1) ⟨rfl, rfl, rfl, rfl, trivial⟩ rfl ?_ ?_
    · exact ⟨by omega, by simpa using hg, hx⟩
    · rintro i wr ⟨hi, hgr, hxr⟩
      refine KW.seq (KW.seq (KW.region ?_))
      refine OW.val rfl rfl (EX.move rfl) ?_
      refine OW.val rfl rfl (EX.move rfl) ?_
      refine OW.val rfl rfl (by first | exact EX.lssN rfl rfl | exact EX.lssZ rfl rfl) ?_
      refine OW.nil ?_
      refine KW.condD rfl (fun h => ?_) (fun h => ?_)
      · refine KW.skip (KW.seq (KW.block (KW.region ?_)))
        refine OW.val rfl rfl (EX.move rfl) ?_
        refine OW.val rfl rfl (EX.move rfl) ?_
        refine OW.val rfl rfl (EX.move rfl) ?_
        refine OW.val rfl rfl (by first | exact EX.indexAddrS0 Try.underlying51 ti5 rfl rfl (by omega) | exact EX.indexAddrS1 Try.underlying51 ti5 rfl rfl (by omega)) ?_
        refine OW.storeB rfl ti5 rfl rfl (by first | rfl | assumption | exact Own.one (by assumption)) (hgr) (by simp; omega) ?_
        rintro w2 hg2 hm2
        refine OW.nil ?_
        refine KW.leave (KW.region ?_)
        refine OW.val rfl rfl (EX.move rfl) ?_
        refine OW.val rfl rfl (by first | exact EX.addN (b := 1) (m := 9223372036854775807) rfl rfl rfl (by omega) | exact EX.addZ (m := 9223372036854775807) rfl rfl rfl rfl (by omega)) ?_
        refine OW.val rfl rfl (EX.assign rfl) ?_
        refine OW.nil ?_
        refine KW.back2 (i + 1) (w2) ⟨rfl, rfl, rfl, rfl, trivial⟩ rfl ?_ (by omega)
        rw [rep_set _ _ _ h] at hg2
        exact ⟨by omega, hg2, below_mo hxr hm2 hxr.size (by simp; omega)⟩
      · obtain rfl : i = n := by omega
        have e : List.replicate i (Value.int .u8 (b : Int)) ++ List.replicate (i - i) (.int .u8 0) = bytesV (sector b odd) := by
          simp [bytesV, sector, hn]
          omega
        rw [e] at hgr
        refine KW.exit rfl (KW.seq (KW.region ?_))
        refine OW.val rfl rfl (EX.move rfl) ?_
        refine OW.val rfl rfl (EX.strOf Try.underlying51 Try.underlying5 Try.underlying9 rfl (hgr.sl) (by simp [sector, hn])) ?_
        refine OW.val rfl rfl (EX.assign rfl) ?_
        refine OW.nil ?_
        refine KW.ret (ret1 rfl rfl ?_)
        exact ⟨rfl, hxr⟩

/-! ### Every method leaves a device whole -/
section
variable {D : Dv}
theorem write_ok (h : D.Ok) (i : Int) (s : List UInt8) : (D.write i s).1.Ok := by
  unfold Dv.write
  split
  · exact h
  · split
    · exact h
    · split
      · exact h
      · rename_i h1 h2
        refine does_ok h fun d hd => ?_
        cases hd
        exact ⟨by omega, by simpa using h2⟩
theorem cut_ok (h : D.Ok) (i : Int) : (D.cut i).1.Ok := by
  have hn := h.now
  unfold Dv.cut
  split
  · exact h
  · split
    · exact h
    · rename_i h1
      refine does_ok h fun d hd => ?_
      cases hd
      show i.toNat ≤ D.cap
      omega
theorem sync_ok (h : D.Ok) : D.sync.1.Ok := by
  unfold Dv.sync
  split
  · exact h
  · exact does_ok h fun d hd => by cases hd
theorem plan_ok (h : D.Ok) (a : Int) (k : List Bool) : (D.plan a k).1.Ok := by
  unfold Dv.plan
  split
  · exact h
  · split
    · exact h
    · exact ⟨h.cap, h.kept, h.now, h.keptM, h.nowM, h.pend⟩
theorem up_ok (h : D.Ok) : ({ D with dead := false } : Dv).Ok := ⟨h.cap, h.kept, h.now, h.keptM, h.nowM, h.pend⟩
end
/-! ### What the document fixes -/
def A0 : Dv := fresh 4 []
def A1 : Dv := (A0.write 2 (sector 120 false)).1
def A2 : Dv := A1.sync.1
def A3 : Dv := (A2.write 4 (sector 120 false)).1
def A4 : Dv := (A3.plan 2 [false, true]).1
def A5 : Dv := (A4.write 2 (sector 121 false)).1
def A6 : Dv := (A5.write 0 (sector 121 false)).1
def A7 : Dv := { A6 with dead := false }
theorem sector_length (q : Nat) : (sector q false).length = 512 := by unfold sector; rw [List.length_replicate]; rfl
theorem e1 : (A0.write 2 (sector 120 false)).1 = A1 := rfl
theorem e2 : A1.sync.1 = A2 := rfl
theorem e3 : (A2.write 4 (sector 120 false)).1 = A3 := rfl
theorem e4 : (A3.plan 2 [false, true]).1 = A4 := rfl
theorem e5 : (A4.write 2 (sector 121 false)).1 = A5 := rfl
theorem e6 : (A5.write 0 (sector 121 false)).1 = A6 := rfl
theorem e7 : ({ A6 with dead := false } : Dv) = A7 := rfl
theorem a_res : (A0.write 2 (sector 120 false)).2 = 0 ∧ A1.sync.2 = 0 ∧ (A2.write 4 (sector 120 false)).2 = 191 ∧ (A3.plan 2 [false, true]).2 = 0 ∧ (A4.write 2 (sector 121 false)).2 = 0 ∧ (A5.write 0 (sector 121 false)).2 = 190 ∧ A6.dead = true ∧ (A5.write 0 (sector 121 false)).1.dead = true := by decide +kernel
theorem a_end : A7.now = sector 121 false ++ sector 0 false ++ sector 120 false := by decide +kernel
theorem a_len : A7.now.length / 512 = 3 := by decide +kernel
theorem a_small : (A0.calls ≤ 1000000 ∧ A0.pend.length ≤ 1000000 ∧ A0.at_ ≤ 9223372036854775807 ∧ A0.keep.length ≤ 140737488355328) ∧ (A1.calls ≤ 1000000 ∧ A1.pend.length ≤ 1000000 ∧ A1.at_ ≤ 9223372036854775807 ∧ A1.keep.length ≤ 140737488355328) ∧ (A2.calls ≤ 1000000 ∧ A2.pend.length ≤ 1000000 ∧ A2.at_ ≤ 9223372036854775807 ∧ A2.keep.length ≤ 140737488355328) ∧ (A4.calls ≤ 1000000 ∧ A4.pend.length ≤ 1000000 ∧ A4.at_ ≤ 9223372036854775807 ∧ A4.keep.length ≤ 140737488355328) ∧ (A5.calls ≤ 1000000 ∧ A5.pend.length ≤ 1000000 ∧ A5.at_ ≤ 9223372036854775807 ∧ A5.keep.length ≤ 140737488355328) := by decide +kernel
theorem may4 : may 4 [] := by refine ⟨?_, ?_, ?_, ?_⟩ <;> decide
theorem a_ok : A0.Ok ∧ A1.Ok ∧ A2.Ok ∧ A3.Ok ∧ A4.Ok ∧ A5.Ok ∧ A6.Ok ∧ A7.Ok := by
  have h0 : A0.Ok := fresh_ok (by decide) (by decide) (by decide)
  have h1 : A1.Ok := write_ok h0 _ _
  have h2 : A2.Ok := sync_ok h1
  have h3 : A3.Ok := write_ok h2 _ _
  have h4 : A4.Ok := plan_ok h3 _ _
  have h5 : A5.Ok := write_ok h4 _ _
  have h6 : A6.Ok := write_ok h5 _ _
  exact ⟨h0, h1, h2, h3, h4, h5, h6, up_ok h6⟩
theorem smallOf {D : Dv} (h : D.calls ≤ 1000000 ∧ D.pend.length ≤ 1000000 ∧ D.at_ ≤ 9223372036854775807 ∧ D.keep.length ≤ 140737488355328) : Small D := ⟨h.1, h.2.1, h.2.2.1, h.2.2.2⟩
theorem a6_write : (A6.write 0 (sector 121 false)) = (A6, 190) := by unfold Dv.write; rw [if_pos a_res.2.2.2.2.2.2.1]
theorem awake_s (w : World) : Ret Try.prog 8 [] w fun v w' => v = .bool true ∧ Ext w w' := by
  obtain ⟨k0, k1, k2, k3, k4, k5, k6, k7⟩ := a_ok
  obtain ⟨s0, s1, s2, s4, s5⟩ := a_small
  obtain ⟨r0, r1, r2, r3, r4, r5, r6, r7⟩ := a_res
  have hsl : ∀ q : Nat, (sector q false).length ≤ 140737488355328 := fun q => by rw [sector_length]; decide
  refine Ret.enter Try.func8 rfl Try.ntmps8 (by kernel_rfl) rfl ?_
  refine KW.seq (KW.region ?_)
  refine OW.val rfl rfl (EX.assign rfl) ?_
  refine OW.nil ?_
  refine KW.seq (KW.region ?_)
  refine OW.call rfl rfl rfl (new_s 4 (by decide) (by decide) w) ?_
  rintro _ w1 ⟨p, e, rfl, hx1, hor⟩
  refine OW.val rfl rfl (EX.move rfl) ?_
  refine OW.val rfl rfl (EX.extract rfl rfl) ?_
  refine OW.val rfl rfl (EX.extract rfl rfl) ?_
  refine OW.val rfl rfl (EX.assign rfl) ?_
  refine OW.val rfl rfl (EX.assign rfl) ?_
  refine OW.nil ?_
  refine KW.seq (KW.region ?_)
  obtain ⟨b, rfl, rfl, hd1⟩ : ∃ b, p = .pointer (some ⟨b, 0, none⟩) ∧ e = 0 ∧ DevAt w1 w.heap.size b A0 := by
    rcases hor with ⟨h, _⟩ | ⟨_, h⟩
    · exact absurd may4 h
    · exact h
  refine OW.call rfl rfl rfl (sector_s 120 (by decide) false w1) ?_
  rintro _ w2 ⟨rfl, hx2⟩
  refine OW.call rfl rfl rfl (sector_s 121 (by decide) false w2) ?_
  rintro _ w3 ⟨rfl, hx3⟩
  refine OW.val rfl rfl (EX.assign rfl) ?_
  refine OW.val rfl rfl (EX.assign rfl) ?_
  refine OW.nil ?_
  refine KW.seq (KW.seq ?_)
  have hd3 := (hd1.ext hx2).ext hx3
  have x3 : Ext w w3 := (hx1.trans hx2).trans hx3
  refine KW.region ?_
  refine OW.val rfl rfl (EX.move rfl) ?_
  refine OW.val rfl rfl (by first | exact EX.neqN (b := 0) rfl rfl | exact EX.neqZ rfl rfl) ?_
  refine OW.val rfl rfl (EX.move rfl) ?_
  refine OW.as 13 (.bool false) rfl (congrArg Value.bool (decide_eq_false (by decide))) ?_
  refine OW.val rfl rfl (EX.move rfl) ?_
  refine OW.val rfl rfl (by first | exact EX.eqlP1 Try.underlying23 rfl rfl | exact EX.eqlP0 Try.underlying23 rfl rfl) ?_
  refine OW.val rfl rfl (EX.pickF rfl rfl) ?_
  refine OW.val rfl rfl (EX.move rfl) ?_
  refine OW.val rfl rfl (EX.move rfl) ?_
  refine OW.val rfl rfl (EX.move rfl) ?_
  refine OW.call rfl rfl rfl (write_d hd3 k0 (smallOf s0) 2 (by decide) (by decide) (sector 120 false) (hsl _)) ?_
  rintro _ w4 ⟨rfl, hd4, t4⟩
  refine OW.val rfl rfl (by first | exact EX.neqN (b := 0) rfl rfl | exact EX.neqZ rfl rfl) ?_
  refine OW.val rfl rfl (EX.pickF rfl rfl) ?_
  refine OW.val rfl rfl (EX.move rfl) ?_
  have x4 : Ext w w4 := t4.below x3 x3.size (Nat.le_refl _)
  rw [e1] at hd4
  rw [r0]
  refine OW.as 23 (.bool false) rfl (congrArg Value.bool (decide_eq_false (by decide))) ?_
  refine OW.val rfl rfl (EX.move rfl) ?_
  refine OW.call rfl rfl rfl (sync_d hd4 k1 (smallOf s1)) ?_
  rintro _ w5 ⟨rfl, hd5, t5⟩
  refine OW.val rfl rfl (by first | exact EX.neqN (b := 0) rfl rfl | exact EX.neqZ rfl rfl) ?_
  refine OW.val rfl rfl (EX.pickF rfl rfl) ?_
  refine OW.val rfl rfl (EX.move rfl) ?_
  have x5 : Ext w w5 := t5.below x4 x4.size (Nat.le_refl _)
  rw [e2] at hd5
  rw [r1]
  refine OW.as 28 (.bool false) rfl (congrArg Value.bool (decide_eq_false (by decide))) ?_
  refine OW.val rfl rfl (EX.move rfl) ?_
  refine OW.val rfl rfl (EX.move rfl) ?_
  refine OW.call rfl rfl rfl (write_d hd5 k2 (smallOf s2) 4 (by decide) (by decide) (sector 120 false) (hsl _)) ?_
  rintro _ w6 ⟨rfl, hd6, t6⟩
  refine OW.val rfl rfl (by first | exact EX.neqN (b := 191) rfl rfl | exact EX.neqZ rfl rfl) ?_
  refine OW.val rfl rfl (EX.pickF rfl rfl) ?_
  refine OW.val rfl rfl (EX.move rfl) ?_
  have x6 : Ext w w6 := t6.below x5 x5.size (Nat.le_refl _)
  rw [e3] at hd6
  rw [r2]
  refine OW.as 34 (.bool false) rfl (congrArg Value.bool (decide_eq_false (by decide))) ?_
  refine OW.val rfl rfl (EX.move rfl) ?_
  refine OW.buildB 2 rfl rfl Try.underlying34 ti4 rfl rfl rfl rfl (by first | rfl | (simp only [List.all_cons, List.all_nil, Bool.and_true, Bool.and_eq_true]; assumption)) (by decide) ?_
  rintro g w7 hge7 hg7 hx7
  refine OW.val rfl rfl (EX.buildS (pl := [(0, 1), (1, 1)]) (ks := [0, 1]) (is := [0, 1]) (zs := [.int .i64 0, .slice none 0 0]) Try.underlying39 ti39 (by kernel_rfl) rfl rfl rfl (by first | rfl | (simp only [List.all_cons, List.all_nil, Bool.and_true, Bool.true_and, Bool.and_eq_true, Value.oneCell']; repeat (first | assumption | exact Own.one (by assumption) | constructor))) (by simp only [setAll, List.set_cons_zero, List.set_cons_succ]; rfl)) ?_
  have hd7 := hd6.ext hx7
  have x7 := x6.trans hx7
  refine OW.call rfl rfl rfl (plan_d hd7 k3 2 (by decide) (by decide) _ 2 _ [false, true] hg7.sl (fun q => by cases q) (by decide)) ?_
  rintro _ w8 ⟨rfl, hd8, t8⟩
  refine OW.val rfl rfl (by first | exact EX.neqN (b := 0) rfl rfl | exact EX.neqZ rfl rfl) ?_
  refine OW.val rfl rfl (EX.pickF rfl rfl) ?_
  refine OW.nil ?_
  have x8 : Ext w w8 := t8.below x7 x7.size (Nat.le_refl _)
  rw [e4] at hd8
  rw [r3]
  refine KW.as 40 (.bool false) rfl (congrArg Value.bool (decide_eq_false (by decide))) ?_
  refine KW.condF rfl (KW.skip (KW.seq ?_))
  refine KW.region ?_
  refine OW.val rfl rfl (EX.move rfl) ?_
  refine OW.val rfl rfl (EX.move rfl) ?_
  refine OW.call rfl rfl rfl (write_d hd8 k4 (smallOf s4) 2 (by decide) (by decide) (sector 121 false) (hsl _)) ?_
  rintro _ w9 ⟨rfl, hd9, t9⟩
  refine OW.val rfl rfl (by first | exact EX.eqlN (b := 0) rfl rfl | exact EX.eqlZ rfl rfl) ?_
  refine OW.val rfl rfl (EX.move rfl) ?_
  have x9 : Ext w w9 := t9.below x8 x8.size (Nat.le_refl _)
  rw [e5] at hd9
  rw [r4]
  refine OW.as 45 (.bool true) rfl (congrArg Value.bool (decide_eq_true (by decide))) ?_
  refine OW.val rfl rfl (EX.move rfl) ?_
  refine OW.val rfl rfl (EX.move rfl) ?_
  refine OW.call rfl rfl rfl (write_d hd9 k5 (smallOf s5) 0 (by decide) (by decide) (sector 121 false) (hsl _)) ?_
  rintro _ w10 ⟨rfl, hd10, t10⟩
  refine OW.val rfl rfl (by first | exact EX.eqlN (b := 190) rfl rfl | exact EX.eqlZ rfl rfl) ?_
  refine OW.val rfl rfl (EX.pickT rfl rfl) ?_
  refine OW.val rfl rfl (EX.move rfl) ?_
  have x10 : Ext w w10 := t10.below x9 x9.size (Nat.le_refl _)
  rw [e6] at hd10
  rw [r5]
  refine OW.as 51 (.bool true) rfl (congrArg Value.bool (decide_eq_true (by decide))) ?_
  refine OW.val rfl rfl (EX.move rfl) ?_
  refine OW.call rfl rfl rfl (dead_d hd10 k6) ?_
  rintro _ _ ⟨rfl, rfl⟩
  refine OW.val rfl rfl (EX.pickT rfl rfl) ?_
  refine OW.val rfl rfl (EX.move rfl) ?_
  rw [r6]
  refine OW.val rfl rfl (EX.move rfl) ?_
  refine OW.call rfl rfl rfl (up_d hd10 k6) ?_
  rintro _ w11 ⟨rfl, hd11, t11⟩
  refine OW.val rfl rfl (by first | exact EX.eqlN (b := 0) rfl rfl | exact EX.eqlZ rfl rfl) ?_
  refine OW.val rfl rfl (EX.pickT rfl rfl) ?_
  refine OW.val rfl rfl (EX.move rfl) ?_
  have x11 : Ext w w11 := t11.below x10 x10.size (Nat.le_refl _)
  rw [e7] at hd11
  refine OW.as 60 (.bool true) rfl (congrArg Value.bool (decide_eq_true (by decide))) ?_
  refine OW.val rfl rfl (EX.move rfl) ?_
  refine OW.call rfl rfl rfl (len_d hd11 k7) ?_
  rintro _ _ ⟨rfl, rfl⟩
  refine OW.val rfl rfl (by first | exact EX.eqlN (b := 3) rfl rfl | exact EX.eqlZ rfl rfl) ?_
  refine OW.val rfl rfl (EX.pickT rfl rfl) ?_
  refine OW.val rfl rfl (EX.move rfl) ?_
  rw [a_len]
  refine OW.as 65 (.bool true) rfl (congrArg Value.bool (decide_eq_true (by decide))) ?_
  refine OW.val rfl rfl (EX.move rfl) ?_
  refine OW.call rfl rfl rfl (image_d hd11 k7) ?_
  rintro _ _ ⟨rfl, rfl⟩
  refine OW.val rfl rfl (EX.move rfl) ?_
  rw [a_end]
  have q1 := sector_length 121
  have q2 := sector_length 120
  have q3 := sector_length 0
  refine OW.call rfl rfl rfl (sector_s 0 (by decide) false w11) ?_
  rintro _ w12 ⟨rfl, hx12⟩
  refine OW.val rfl rfl (EX.addS rfl rfl (by first | omega | (simp only [List.length_append, List.length_cons, List.length_nil, List.length_take, List.length_drop, List.length_replicate]; omega))) ?_
  refine OW.val rfl rfl (EX.move rfl) ?_
  refine OW.val rfl rfl (EX.addS rfl rfl (by first | omega | (simp only [List.length_append, List.length_cons, List.length_nil, List.length_take, List.length_drop, List.length_replicate]; omega))) ?_
  refine OW.val rfl rfl (EX.eqlS rfl rfl) ?_
  refine OW.val rfl rfl (EX.pickT rfl rfl) ?_
  refine OW.val rfl rfl (EX.assign rfl) ?_
  refine OW.nil ?_
  refine KW.as 0 (.bool true) rfl (congrArg Value.bool (decide_eq_true (rfl))) ?_
  refine KW.ret (ret1 rfl rfl ?_)
  exact ⟨rfl, x11.trans hx12⟩
end Go.Proofs.Ytdjcgffhnakeeaa
