/-
  What the statements rest on, part 5 of 5: many small texts, one behind the other.
-/
import Derived.Test.YtlpnoogcdnfllaaMrgD
import Derived.ProofKit
import Derived.OpenShut
import Derived.ShutString
import Derived.SizedLaws
import Derived.SliceStrings
import Derived.Deep.Slices
import Derived.Deep.Grids
/- wal: transactions are found. -/
namespace Go.Proofs.Ytlpnoogcdnfllaa
set_option linter.unnecessarySimpa false
open Go.RowKit Rec Pth Dsk Wal
set_option linter.unusedVariables false
set_option linter.unusedSimpArgs false

abbrev Txl := List (List Nt)
/-- transactions that a call made, each in a block of its own -/
def TxO (w : World) (B : Nat) : List Value → List (List Nt) → Prop
  | [], [] => True
  | v :: vs, l :: ls => Own w B 69 6 v l.length (ntsV l) ∧ TxO w B vs ls
  | _, _ => False
theorem TxO.len {w : World} {B : Nat} : ∀ {vs : List Value} {ls : List (List Nt)}, TxO w B vs ls → vs.length = ls.length
  | [], [], _ => rfl
  | v :: vs, l :: ls, ⟨_, h2⟩ => by simp [TxO.len h2]
  | [], _ :: _, h => h.elim
  | _ :: _, [], h => h.elim
theorem TxO.snoc {w : World} {B : Nat} : ∀ {vs : List Value} {ls : List (List Nt)} {v : Value} {l : List Nt}, TxO w B vs ls → Own w B 69 6 v l.length (ntsV l) → TxO w B (vs ++ [v]) (ls ++ [l])
  | [], [], _, _, _, h => ⟨h, trivial⟩
  | c :: cs, v :: vs, _, _, ⟨h1, h2⟩, h => ⟨h1, TxO.snoc h2 h⟩
  | [], _ :: _, _, _, h, _ => h.elim
  | _ :: _, [], _, _, h, _ => h.elim
theorem TxO.mo {w w' : World} {B : Nat} {S : List Nat} (hm : Mo w w' S) : ∀ {vs : List Value} {ls : List (List Nt)}, (∀ v ∈ vs, ∀ k, v.ownBlock = some k → k ∉ S) → TxO w B vs ls → TxO w' B vs ls
  | [], [], _, h => h
  | v :: vs, l :: ls, hS, ⟨h1, h2⟩ => ⟨h1.mo hm (hS v (by simp)), TxO.mo hm (fun x hx => hS x (by simp [hx])) h2⟩
  | [], _ :: _, _, h => h.elim
  | _ :: _, [], _, h => h.elim
theorem TxO.ext {w w' : World} {B : Nat} (hx : Ext w w') : ∀ {vs : List Value} {ls : List (List Nt)}, TxO w B vs ls → TxO w' B vs ls
  | [], [], h => h
  | v :: vs, l :: ls, ⟨h1, h2⟩ => ⟨h1.ext hx, TxO.ext hx h2⟩
  | [], _ :: _, h => h.elim
  | _ :: _, [], h => h.elim
theorem TxO.tm {w w' : World} {B C : Nat} {p : TypeId → Bool} (h : Tm w w' C p) (hp : p 69 = false) : ∀ {vs : List Value} {ls : List (List Nt)}, TxO w B vs ls → TxO w' B vs ls
  | [], [], h => h
  | v :: vs, l :: ls, ⟨h1, h2⟩ => ⟨h.own h1 hp, TxO.tm h hp h2⟩
  | [], _ :: _, h => h.elim
  | _ :: _, [], h => h.elim
theorem TxO.lt {w : World} {B : Nat} : ∀ {vs : List Value} {ls : List (List Nt)}, TxO w B vs ls → ∀ v ∈ vs, ∀ k, v.ownBlock = some k → B ≤ k ∧ k < w.heap.size ∧ ∃ l, Bk w k 69 l
  | v :: vs, l :: ls, ⟨h1, h2⟩, u, hu, k, hk => by
    rcases List.mem_cons.1 hu with rfl | hu
    · exact ⟨(h1.lt k hk).1, (h1.lt k hk).2, (h1.blkT k hk).2⟩
    · exact TxO.lt h2 u hu k hk
  | [], _ :: _, h, _, _, _, _ => h.elim
  | _ :: _, [], h, _, _, _, _ => h.elim
  | [], [], _, u, hu, _, _ => by simp at hu
theorem TxO.one {w : World} {B : Nat} : ∀ {vs : List Value} {ls : List (List Nt)}, TxO w B vs ls → ∀ v ∈ vs, v.oneCell' = true
  | v :: vs, l :: ls, ⟨h1, h2⟩, u, hu => by
    rcases List.mem_cons.1 hu with rfl | hu
    · exact h1.one
    · exact TxO.one h2 u hu
  | [], _ :: _, h, _, _ => h.elim
  | _ :: _, [], h, _, _ => h.elim
  | [], [], _, u, hu => by simp at hu
theorem DevAt.tm {w w' : World} {B b C : Nat} {D : Dv} {p : TypeId → Bool} (h : DevAt w B b D) (t : Tm w w' C p) (p1 : p 85 = false) (p2 : p 5 = false) (p3 : p 143 = false) (p4 : p 4 = false) (p5 : p 3 = false) (p6 : p 9 = false) : DevAt w' B b D := by
  obtain ⟨vk, vn, vp, vq, vs, h1, h2, h3, h4, h5, h6, h7, h8⟩ := h
  exact ⟨vk, vn, vp, vq, vs, h1, t.bk h2 p1, t.own h3 p2, t.own h4 p2, h5, t.own h6 p3, h7.tm t p5 p6, t.own h8 p4⟩
theorem dec_bounds (s : List UInt8) (hs : s.length ≤ 512) : (decodeR s).1.kind ≤ 255 ∧ (decodeR s).1.data.length ≤ 512 := by
  unfold decodeR
  split
  · refine ⟨?_, ?_⟩
    · have := (s.getD 4 0).toNat_lt
      show (s.getD 4 0).toNat ≤ 255
      omega
    · show ((s.drop 19).take _).length ≤ 512
      rw [List.length_take, List.length_drop]
      omega
  · exact ⟨by decide, by decide⟩
theorem sec_le (s : List UInt8) (i : Nat) : (sec s i).length ≤ 512 := by unfold sec; rw [List.length_take]; omega
theorem logN_lt (s : List UInt8) (i : Nat) : i < logN s ↔ i < 20 ∧ 10 + i < s.length / 512 := by unfold logN; omega
/-- what is told of transactions that were found -/
def Found (w : World) (B : Nat) (r : List (List Nt) × Nat) (e : Nat) (v : Value) : Prop :=
  ∃ vt vs, v = .tuple #[vt, .int .i64 (r.2 : Int), .int .i64 (e : Int)] ∧ Own w B 48 1 vt r.1.length vs ∧ TxO w B vs r.1
theorem found_nil (w : World) (B e : Nat) : Found w B ([], 0) e (.tuple #[.slice none 0 0, .int .i64 0, .int .i64 (e : Int)]) := ⟨_, [], rfl, Own.nil _ _ _ _, trivial⟩
set_option maxRecDepth 20000 in
theorem replay_s {D : Dv} (hD : D.Ok) {k : Nat} (hsm : Sm D k) (hk : k ≤ 900000) (B b : Nat) (gen : Int) (w : World) (h : DevAt w B b D) :
    Ret Try.prog 10 [.pointer (some ⟨b, 0, none⟩), .int .i64 gen] w fun v w' => Found w' w.heap.size (replayD D gen).1 (replayD D gen).2 v ∧ DevAt w' B b (replayed D gen) ∧ Tm w w' B dty := by
  have hcap := hD.cap
  have hno : readsD D gen = 0 → replayed D gen = D := fun e => by unfold replayed; rw [e]; rfl
  refine Ret.enter Try.func10 rfl Try.ntmps10 (by kernel_rfl) rfl ?_
  refine KW.seq (KW.region ?_)
  refine OW.val rfl rfl (EX.assign rfl) ?_
  refine OW.val rfl rfl (EX.assign rfl) ?_
  refine OW.val rfl rfl (EX.assign rfl) ?_
  refine OW.nil ?_
  refine KW.scope (KW.seq (KW.seq (KW.region ?_)))
  refine OW.val rfl rfl (EX.move rfl) ?_
  refine OW.call rfl rfl rfl (capacity_d h hD) ?_
  rintro _ _ ⟨rfl, rfl⟩
  refine OW.val rfl rfl (by first | exact EX.eqlN (b := 0) rfl rfl | exact EX.eqlZ rfl rfl) ?_
  refine OW.nil ?_
  refine KW.condD rfl (fun h0 => ?_) (fun h0 => ?_)
  · omega
  · refine KW.skip (KW.seq (KW.seq (KW.region ?_)))
    refine OW.val rfl rfl (EX.move rfl) ?_
    refine OW.call rfl rfl rfl (right_s gen w) ?_
    rintro _ _ ⟨rfl, rfl⟩
    refine OW.val rfl rfl (by first | exact EX.notD rfl | exact EX.notB rfl) ?_
    refine OW.nil ?_
    refine KW.condD rfl (fun hg => ?_) (fun hg => ?_)
    · have hb : badG gen := Classical.not_not.1 hg
      have e1 : replayD D gen = (([], 0), 210) := by unfold replayD; rw [if_pos hb]
      have e2 : readsD D gen = 0 := by unfold readsD; rw [if_pos hb]
      refine KW.seq (KW.region ?_)
      refine OW.val rfl rfl (EX.assign rfl) ?_
      refine OW.val rfl rfl (EX.assign rfl) ?_
      refine OW.val rfl rfl (EX.assign rfl) ?_
      refine OW.nil ?_
      refine KW.ret (ret3 rfl rfl rfl rfl ?_)
      rw [e1, hno e2]
      exact ⟨found_nil _ _ 210, h, Tm.refl _ _ _⟩
    · have hb : ¬ badG gen := fun q => hg (not_not_intro q)
      refine KW.skip (KW.seq (KW.seq (KW.region ?_)))
      refine OW.val rfl rfl (EX.move rfl) ?_
      refine OW.call rfl rfl rfl (dead_d h hD) ?_
      rintro _ _ ⟨rfl, rfl⟩
      refine OW.nil ?_
      refine KW.cond rfl (fun hd => ?_) (fun hd => ?_)
      · have e1 : replayD D gen = (([], 0), 190) := by unfold replayD; rw [if_neg hb, hd]; rfl
        have e2 : readsD D gen = 0 := by unfold readsD; rw [if_neg hb, hd]; rfl
        refine KW.seq (KW.region ?_)
        refine OW.val rfl rfl (EX.assign rfl) ?_
        refine OW.val rfl rfl (EX.assign rfl) ?_
        refine OW.val rfl rfl (EX.assign rfl) ?_
        refine OW.nil ?_
        refine KW.ret (ret3 rfl rfl rfl rfl ?_)
        rw [e1, hno e2]
        exact ⟨found_nil _ _ 190, h, Tm.refl _ _ _⟩
      · have e1 : replayD D gen = (rep gen (fun i => sec D.now (10 + i)) (logN D.now) 21 0 [] [] 0, 0) := by unfold replayD; rw [if_neg hb, hd]; rfl
        have e2 : readsD D gen = repN gen (fun i => sec D.now (10 + i)) (logN D.now) 21 0 [] := by unfold readsD; rw [if_neg hb, hd]; rfl
        generalize hM : logN D.now = m at e1 e2
        have hM2 := fun i => logN_lt D.now i
        rw [hM] at hM2
        have hm20 : m ≤ 20 := by rw [← hM]; unfold logN; omega
        generalize hR : (fun i => sec D.now (10 + i)) = rd at e1 e2
        have hrd : ∀ i, sec D.now (10 + i) = rd i := fun i => by rw [← hR]
        have fin : ∀ (wr : World) (out : List (List Nt)) (bh j : Nat) (vt : Value) (vs : List Value), rep gen rd m 21 0 [] [] 0 = (out, bh) → repN gen rd m 21 0 [] = j → DevAt wr B b { D with calls := D.calls + j } → Own wr w.heap.size 48 1 vt out.length vs → TxO wr w.heap.size vs out → Tm w wr B dty → (Found wr w.heap.size (replayD D gen).1 (replayD D gen).2 (.tuple #[vt, .int .i64 (bh : Int), .int .i64 0]) ∧ DevAt wr B b (replayed D gen) ∧ Tm w wr B dty) := by
          intro wr out bh j vt vs h1 h2 h3 h4 h5 h6
          rw [e1, h1]
          refine ⟨⟨vt, vs, rfl, h4, h5⟩, ?_, h6⟩
          have e : replayed D gen = { D with calls := D.calls + j } := by unfold replayed; rw [e2, h2]
          rw [e]
          exact h3
        refine KW.skip (KW.seq (KW.region ?_))
        refine OW.val rfl rfl (EX.assign rfl) ?_
        refine OW.nil ?_
        refine KW.seq (KW.region ?_)
        refine OW.val rfl rfl (EX.assign rfl) ?_
        refine OW.nil ?_
        refine KW.seq (KW.region ?_)
        refine OW.val rfl rfl (EX.assign rfl) ?_
        refine OW.nil ?_
        refine KW.seq (KW.label (KW.seq (KW.seq (KW.region ?_))))
        refine OW.val rfl rfl (EX.assign rfl) ?_
        refine OW.nil ?_
        refine KW.block ?_
        refine KW.loop7 (fun (i : Nat) (op : (List Nt)) (out : Txl) (bh : Nat) (vo : Value) (vt : Value) (wr : World) => i ≤ 20 ∧ bh ≤ 20 ∧ op.length ≤ i ∧ out.length ≤ i ∧ rep gen rd m 21 0 [] [] 0 = rep gen rd m (21 - i) i op out bh ∧ repN gen rd m 21 0 [] = repN gen rd m (21 - i) i op + i ∧ DevAt wr B b { D with calls := D.calls + i } ∧ Own wr w.heap.size 69 6 vo op.length (ntsV op) ∧ Tm w wr B dty ∧ ∃ vs, Own wr w.heap.size 48 1 vt out.length vs ∧ TxO wr w.heap.size vs out ∧ (∀ k, vo.ownBlock = some k → ∀ v ∈ vs, v.ownBlock ≠ some k)) (fun (i : Nat) (op : (List Nt)) (out : Txl) (bh : Nat) (vo : Value) (vt : Value) (wr : World) => [(0, .pointer (some ⟨b, 0, none⟩)), (1, .int .i64 (gen : Int)), (7, vt), (8, vo), (9, .int .i64 ((bh : Nat) : Int)), (10, .int .i64 ((i : Nat) : Int))]) (fun (i : Nat) (op : (List Nt)) (out : Txl) (bh : Nat) (vo : Value) (vt : Value) (wr : World) => wr) (fun (i : Nat) (op : (List Nt)) (out : Txl) (bh : Nat) (vo : Value) (vt : Value) (wr : World) => 21 - i) (0) ([]) ([]) (0) (.slice none 0 0) (.slice none 0 0) (w) ⟨rfl, rfl, rfl, rfl, rfl, rfl, trivial⟩ rfl ?_ ?_
        · exact ⟨by omega, by omega, by simp, by simp, rfl, rfl, h, Own.nil _ _ _ _, Tm.refl _ _ _, [], Own.nil _ _ _ _, trivial, fun k hk => by simp [Value.ownBlock] at hk⟩
        · rintro i op out bh vo vt wr ⟨hi, hbh, hol, hul, hrp, hrn, hdev, hown, htm, vs, hout, htx, hap⟩
          have hE : Dv.Ok { D with calls := D.calls + i } := ⟨hD.cap, hD.kept, hD.now, hD.keptM, hD.nowM, hD.pend⟩
          have hsE : Sm { D with calls := D.calls + i } (k + 20) := ⟨by have := hsm.calls; show D.calls + i ≤ _; omega, by have := hsm.pend; show D.pend.length ≤ _; omega, hsm.at_, hsm.keep⟩
          obtain ⟨f, hf⟩ : ∃ f, 21 - i = f + 1 := ⟨20 - i, by omega⟩
          have hf2 : f = 21 - (i + 1) := by omega
          rw [hf] at hrp hrn
          have over : ¬ i < m → (rep gen rd m 21 0 [] [] 0 = (out, bh) ∧ repN gen rd m 21 0 [] = i) := fun q => by
            obtain ⟨q1, q2⟩ := rep_0 (gen := gen) (rd := rd) (f := f) (op := op) (out := out) (b := bh) q
            rw [hrp, hrn, q1, q2]
            exact ⟨rfl, by omega⟩
          refine KW.seq (KW.seq ?_)
          refine KW.region ?_
          refine OW.val rfl rfl (EX.move rfl) ?_
          refine OW.val rfl rfl (by first | exact EX.lssN (b := 20) rfl rfl | exact EX.lssZ rfl rfl) ?_
          refine OW.val rfl rfl (EX.move rfl) ?_
          refine OW.splitD 26 rfl (fun c1 => ?_) (fun c1 => ?_)
          · refine OW.val rfl rfl (EX.move rfl) ?_
            refine OW.val rfl rfl (by first | exact EX.addN (a := 10) (m := 9223372036854775807) rfl rfl rfl (by omega) | exact EX.addZ (m := 9223372036854775807) rfl rfl rfl rfl (by omega)) ?_
            refine OW.val rfl rfl (EX.move rfl) ?_
            refine OW.call rfl rfl rfl (len_d hdev hE) ?_
            rintro _ _ ⟨rfl, rfl⟩
            refine OW.val rfl rfl (by first | exact EX.lssN rfl rfl | exact EX.lssZ rfl rfl) ?_
            refine OW.val rfl rfl (EX.pickT rfl rfl) ?_
            refine OW.nil ?_
            refine KW.condD rfl (fun c2 => ?_) (fun c2 => ?_)
            · have him : i < m := (hM2 i).2 ⟨by omega, c2⟩
              have er : Dv.read { D with calls := D.calls + i } ((10 + i : Nat) : Int) = ({ D with calls := D.calls + (i + 1) }, rd i, 0) := by
                unfold Dv.read
                rw [if_neg (by rw [hd]; decide), if_neg (by show ¬ (_ ∨ ((D.now.length / 512 : Nat) : Int) ≤ _); have : 10 + i < D.now.length / 512 := c2; omega), ← hrd]
                rfl
              have cr := read_d hdev hE (hsE.small (by omega)) ((10 + i : Nat) : Int) (by omega) (by omega)
              rw [er] at cr
              have hrl : (rd i).length ≤ 512 := by rw [← hrd]; exact sec_le _ _
              refine KW.skip (KW.seq (KW.block (KW.seq (KW.region ?_))))
              refine OW.val rfl rfl (EX.move rfl) ?_
              refine OW.val rfl rfl (EX.move rfl) ?_
              refine OW.val rfl rfl (by first | exact EX.addN (a := 10) (m := 9223372036854775807) rfl rfl rfl (by omega) | exact EX.addZ (m := 9223372036854775807) rfl rfl rfl rfl (by omega)) ?_
              refine OW.call rfl rfl rfl (cr) ?_
              rintro _ w5 ⟨rfl, hdev5, htm5⟩
              refine OW.val rfl rfl (EX.move rfl) ?_
              refine OW.val rfl rfl (EX.extract rfl rfl) ?_
              refine OW.val rfl rfl (EX.extract rfl rfl) ?_
              refine OW.val rfl rfl (EX.assign rfl) ?_
              refine OW.val rfl rfl (EX.assign rfl) ?_
              refine OW.nil ?_
              refine KW.seq (KW.seq (KW.region ?_))
              refine OW.val rfl rfl (EX.move rfl) ?_
              refine OW.val rfl rfl (by first | exact EX.neqN (b := 0) rfl rfl | exact EX.neqZ rfl rfl) ?_
              refine OW.nil ?_
              have hown5 := htm5.own hown rfl
              have hout5 := htm5.own hout rfl
              have htx5 := htx.tm htm5 rfl
              have tm5 := htm.trans htm5
              have z5 := tm5.size
              have cd := decode_s (rd i) w5
              have hdb := dec_bounds (rd i) hrl
              rcases hde : decodeR (rd i) with ⟨x, ee⟩
              rw [hde] at cd hdb
              have stop : (ee ≠ 0 ∨ x.gen ≠ gen ∨ x.index ≠ i) → (rep gen rd m 21 0 [] [] 0 = (out, bh) ∧ repN gen rd m 21 0 [] = i + 1) := fun q => by
                obtain ⟨q1, q2⟩ := rep_1 (f := f) (op := op) (out := out) (b := bh) him hde q
                rw [hrp, hrn, q1, q2]
                exact ⟨rfl, by omega⟩
              refine KW.as 43 (.bool false) rfl (congrArg Value.bool (decide_eq_false (by simp))) ?_
              refine KW.condF rfl (KW.skip (KW.seq (KW.region ?_)))
              refine OW.val rfl rfl (EX.move rfl) ?_
              refine OW.call rfl rfl rfl (cd) ?_
              rintro _ w6 ⟨rfl, hx6⟩
              refine OW.val rfl rfl (EX.move rfl) ?_
              refine OW.val rfl rfl (EX.extract rfl rfl) ?_
              refine OW.val rfl rfl (EX.extract rfl rfl) ?_
              have hb1 : x.kind ≤ 255 := hdb.1
              have hb2 : x.data.length ≤ 512 := hdb.2
              refine OW.allocB (l := [.int .u8 0, .int .i64 0, .int .i64 0, str []]) rfl rfl ti77 rfl ?_
              rintro xb w7 hge7 hx7b hx7
              refine OW.storeS rfl ti77 rfl rfl rfl (by first | rfl | (simp only [List.all_cons, List.all_nil, Bool.and_true, Bool.true_and, Bool.and_eq_true, Value.oneCell']; repeat (first | assumption | exact Own.one (by assumption) | constructor))) (hx7b) (Nat.le_refl _) ?_
              rintro w8 hb8 hm8
              refine OW.val rfl rfl (EX.assign rfl) ?_
              refine OW.nil ?_
              refine KW.seq (KW.seq ?_)
              replace hb8 : Bk w8 xb 77 x.cells := hb8
              have x8 : Ext w5 w8 := below_mo (hx6.trans hx7) hm8 (hx6.trans hx7).size (fun k hk => by simp at hk; have := hx6.size; omega)
              have hown8 := hown5.ext x8
              have hout8 := hout5.ext x8
              have htx8 := htx5.ext x8
              have hdev8 := hdev5.ext x8
              have tm8 := tm5.trans (Tm.of_ext x8 B dty)
              have z8 := tm8.size
              refine KW.region ?_
              refine OW.val rfl rfl (EX.move rfl) ?_
              refine OW.val rfl rfl (by first | exact EX.neqN (b := 0) rfl rfl | exact EX.neqZ rfl rfl) ?_
              refine OW.val rfl rfl (EX.move rfl) ?_
              refine OW.splitD 52 rfl (fun s1 => ?_) (fun s1 => ?_)
              · refine OW.pass rfl rfl ?_
                refine OW.pass rfl rfl ?_
                refine OW.pass rfl rfl ?_
                refine OW.pass rfl rfl ?_
                refine OW.val rfl rfl (EX.pickT rfl rfl) ?_
                refine OW.val rfl rfl (EX.move rfl) ?_
                refine OW.pass rfl rfl ?_
                refine OW.pass rfl rfl ?_
                refine OW.pass rfl rfl ?_
                refine OW.pass rfl rfl ?_
                refine OW.val rfl rfl (EX.pickT rfl rfl) ?_
                refine OW.nil ?_
                refine KW.condT rfl (KW.exit rfl (KW.seq (KW.region ?_)))
                refine OW.val rfl rfl (EX.move rfl) ?_
                refine OW.val rfl rfl (EX.move rfl) ?_
                refine OW.val rfl rfl (EX.assign rfl) ?_
                refine OW.val rfl rfl (EX.assign rfl) ?_
                refine OW.val rfl rfl (EX.assign rfl) ?_
                refine OW.nil ?_
                refine KW.ret (ret3 rfl rfl rfl rfl ?_)
                obtain ⟨q1, q2⟩ := stop (.inl (by omega))
                exact fin w8 out bh (i + 1) vt vs q1 q2 hdev8 hout8 htx8 tm8
              · refine OW.val rfl rfl (EX.fieldAddr (off := 1) Try.underlying77 rfl rfl ti3 rfl rfl) ?_
                refine OW.val rfl rfl (EX.load Try.underlying3 rfl rfl (hb8.cell_of rfl)) ?_
                refine OW.val rfl rfl (EX.move rfl) ?_
                refine OW.val rfl rfl (by first | exact EX.neqN rfl rfl | exact EX.neqZ rfl rfl) ?_
                refine OW.val rfl rfl (EX.pickF rfl rfl) ?_
                refine OW.val rfl rfl (EX.move rfl) ?_
                refine OW.splitD 58 rfl (fun s2 => ?_) (fun s2 => ?_)
                · refine OW.pass rfl rfl ?_
                  refine OW.pass rfl rfl ?_
                  refine OW.pass rfl rfl ?_
                  refine OW.pass rfl rfl ?_
                  refine OW.val rfl rfl (EX.pickT rfl rfl) ?_
                  refine OW.nil ?_
                  refine KW.condT rfl (KW.exit rfl (KW.seq (KW.region ?_)))
                  refine OW.val rfl rfl (EX.move rfl) ?_
                  refine OW.val rfl rfl (EX.move rfl) ?_
                  refine OW.val rfl rfl (EX.assign rfl) ?_
                  refine OW.val rfl rfl (EX.assign rfl) ?_
                  refine OW.val rfl rfl (EX.assign rfl) ?_
                  refine OW.nil ?_
                  refine KW.ret (ret3 rfl rfl rfl rfl ?_)
                  obtain ⟨q1, q2⟩ := stop (.inr (.inl s2))
                  exact fin w8 out bh (i + 1) vt vs q1 q2 hdev8 hout8 htx8 tm8
                · refine OW.val rfl rfl (EX.fieldAddr (off := 2) Try.underlying77 rfl rfl ti3 rfl rfl) ?_
                  refine OW.val rfl rfl (EX.load Try.underlying3 rfl rfl (hb8.cell_of rfl)) ?_
                  refine OW.val rfl rfl (EX.move rfl) ?_
                  refine OW.val rfl rfl (by first | exact EX.neqN rfl rfl | exact EX.neqZ rfl rfl) ?_
                  refine OW.val rfl rfl (EX.pickF rfl rfl) ?_
                  refine OW.nil ?_
                  refine KW.condD rfl (fun s3 => ?_) (fun s3 => ?_)
                  · refine KW.exit rfl (KW.seq (KW.region ?_))
                    refine OW.val rfl rfl (EX.move rfl) ?_
                    refine OW.val rfl rfl (EX.move rfl) ?_
                    refine OW.val rfl rfl (EX.assign rfl) ?_
                    refine OW.val rfl rfl (EX.assign rfl) ?_
                    refine OW.val rfl rfl (EX.assign rfl) ?_
                    refine OW.nil ?_
                    refine KW.ret (ret3 rfl rfl rfl rfl ?_)
                    obtain ⟨q1, q2⟩ := stop (.inr (.inr s3))
                    exact fin w8 out bh (i + 1) vt vs q1 q2 hdev8 hout8 htx8 tm8
                  · have go_ : ¬ (ee ≠ 0 ∨ x.gen ≠ gen ∨ x.index ≠ i) := by omega
                    refine KW.skip (KW.seq (KW.seq (KW.region ?_)))
                    refine OW.val rfl rfl (EX.fieldAddr (off := 0) Try.underlying77 rfl rfl ti5 rfl rfl) ?_
                    refine OW.val rfl rfl (EX.load Try.underlying5 rfl rfl (hb8.cell_of rfl)) ?_
                    refine OW.val rfl rfl (by first | exact EX.convN (m := 9223372036854775807) Try.underlying5 Try.underlying3 rfl rfl (by omega) | exact EX.convZ Try.underlying5 Try.underlying3 rfl) ?_
                    refine OW.val rfl rfl (by first | exact EX.eqlN (b := 3) rfl rfl | exact EX.eqlZ rfl rfl) ?_
                    refine OW.nil ?_
                    refine KW.condD rfl (fun k3 => ?_) (fun k3 => ?_)
                    · have k3' : x.kind = 3 := by omega
                      have stop2 : (op = [] ∨ x.data ≠ [UInt8.ofNat op.length]) → (rep gen rd m 21 0 [] [] 0 = (out, bh) ∧ repN gen rd m 21 0 [] = i + 1) := fun q => by
                        obtain ⟨q1, q2⟩ := rep_2 (f := f) (op := op) (out := out) (b := bh) him hde go_ k3' q
                        rw [hrp, hrn, q1, q2]
                        exact ⟨rfl, by omega⟩
                      obtain ⟨Ao, co, rfl, _, _⟩ := hown8.slice
                      refine KW.seq (KW.seq ?_)
                      refine KW.region ?_
                      refine OW.val rfl rfl (EX.move rfl) ?_
                      refine OW.val rfl rfl (EX.lenA Try.underlying48 rfl) ?_
                      refine OW.val rfl rfl (by first | exact EX.eqlN (b := 0) rfl rfl | exact EX.eqlZ rfl rfl) ?_
                      refine OW.val rfl rfl (EX.move rfl) ?_
                      refine OW.splitD 71 rfl (fun t1 => ?_) (fun t1 => ?_)
                      · refine OW.pass rfl rfl ?_
                        refine OW.pass rfl rfl ?_
                        refine OW.pass rfl rfl ?_
                        refine OW.pass rfl rfl ?_
                        refine OW.pass rfl rfl ?_
                        refine OW.pass rfl rfl ?_
                        refine OW.pass rfl rfl ?_
                        refine OW.pass rfl rfl ?_
                        refine OW.val rfl rfl (EX.pickT rfl rfl) ?_
                        refine OW.nil ?_
                        refine KW.condT rfl (KW.exit rfl (KW.seq (KW.region ?_)))
                        refine OW.val rfl rfl (EX.move rfl) ?_
                        refine OW.val rfl rfl (EX.move rfl) ?_
                        refine OW.val rfl rfl (EX.assign rfl) ?_
                        refine OW.val rfl rfl (EX.assign rfl) ?_
                        refine OW.val rfl rfl (EX.assign rfl) ?_
                        refine OW.nil ?_
                        refine KW.ret (ret3 rfl rfl rfl rfl ?_)
                        obtain ⟨q1, q2⟩ := stop2 (.inl (List.eq_nil_of_length_eq_zero (by omega)))
                        exact fin w8 out bh (i + 1) vt vs q1 q2 hdev8 hout8 htx8 tm8
                      · refine OW.val rfl rfl (EX.fieldAddr (off := 3) Try.underlying77 rfl rfl ti9 rfl rfl) ?_
                        refine OW.val rfl rfl (EX.load Try.underlying9 rfl rfl (hb8.cell_of rfl)) ?_
                        refine OW.val rfl rfl (EX.move rfl) ?_
                        refine OW.val rfl rfl (EX.lenA Try.underlying48 rfl) ?_
                        refine OW.val rfl rfl (by first | exact EX.convN (m := 255) Try.underlying3 Try.underlying5 rfl rfl (by omega) | exact EX.convW (m := 256) Try.underlying3 Try.underlying5 rfl rfl (by decide) | exact EX.convZ Try.underlying3 Try.underlying5 rfl) ?_
                        refine OW.buildB 1 rfl rfl Try.underlying80 ti5 rfl rfl rfl rfl (by first | rfl | (simp only [List.all_cons, List.all_nil, Bool.and_true, Bool.and_eq_true]; assumption)) (by decide) ?_
                        rintro sb w9 hge9 hsb9 hx9
                        have hown9 := hown8.ext hx9
                        have hout9 := hout8.ext hx9
                        have htx9 := htx8.ext hx9
                        have hdev9 := hdev8.ext hx9
                        have tm9 := tm8.trans (Tm.of_ext hx9 B dty)
                        have z9 := tm9.size
                        refine OW.val rfl rfl (EX.strOf Try.underlying80 Try.underlying5 Try.underlying9 rfl (oneB hsb9 (by omega)) (rfl)) ?_
                        refine OW.val rfl rfl (EX.neqS rfl rfl) ?_
                        refine OW.val rfl rfl (EX.pickF rfl rfl) ?_
                        refine OW.nil ?_
                        refine KW.condD rfl (fun t2 => ?_) (fun t2 => ?_)
                        · refine KW.exit rfl (KW.seq (KW.region ?_))
                          refine OW.val rfl rfl (EX.move rfl) ?_
                          refine OW.val rfl rfl (EX.move rfl) ?_
                          refine OW.val rfl rfl (EX.assign rfl) ?_
                          refine OW.val rfl rfl (EX.assign rfl) ?_
                          refine OW.val rfl rfl (EX.assign rfl) ?_
                          refine OW.nil ?_
                          refine KW.ret (ret3 rfl rfl rfl rfl ?_)
                          obtain ⟨q1, q2⟩ := stop2 (.inr t2)
                          exact fin w9 out bh (i + 1) vt vs q1 q2 hdev9 hout9 htx9 tm9
                        · have hno : ¬ (op = [] ∨ x.data ≠ [UInt8.ofNat op.length]) := by
                            rintro (q | q)
                            · rw [q] at t1; exact t1 rfl
                            · exact t2 q
                          obtain ⟨r1, r2⟩ := rep_3 (f := f) (op := op) (out := out) (b := bh) him hde go_ k3' hno
                          refine KW.skip (KW.seq (KW.region ?_))
                          refine OW.val rfl rfl (EX.move rfl) ?_
                          refine OW.val rfl rfl (EX.move rfl) ?_
                          refine OW.pushB (w.heap.size) rfl rfl (fun _ => rfl) rfl Try.underlying22 ti48 rfl rfl (fun _ => rfl) (by first | rfl | assumption | exact Own.one (by assumption)) (z9) (hout9) (by simp only [maxLen]; omega) (by omega) ?_
                          rintro _ v10 w10 hout10 hm10 hbl10
                          refine OW.val rfl rfl (EX.move rfl) ?_
                          refine OW.val rfl rfl (by first | exact EX.addN (b := 1) (m := 9223372036854775807) rfl rfl rfl (by omega) | exact EX.addZ (m := 9223372036854775807) rfl rfl rfl rfl (by omega)) ?_
                          refine OW.val rfl rfl (EX.assign rfl) ?_
                          refine OW.val rfl rfl (EX.assign rfl) ?_
                          refine OW.val rfl rfl (EX.assign rfl) ?_
                          refine OW.nil ?_
                          refine KW.exit rfl (KW.region ?_)
                          refine OW.val rfl rfl (EX.move rfl) ?_
                          refine OW.val rfl rfl (by first | exact EX.addN (b := 1) (m := 9223372036854775807) rfl rfl rfl (by omega) | exact EX.addZ (m := 9223372036854775807) rfl rfl rfl rfl (by omega)) ?_
                          refine OW.val rfl rfl (EX.assign rfl) ?_
                          refine OW.nil ?_
                          have t10 := Tm.ownMo hout9 hm10
                          have hown10 := t10.own hown9 (by decide)
                          have htx10 := htx9.tm t10 (by decide)
                          have hdev10 := hdev9.tm t10 (by decide) (by decide) (by decide) (by decide) (by decide) (by decide)
                          have tm10 := tm9.fresh hm10 (fun k hk => (hout9.lt k (Option.mem_toList.1 hk)).1)
                          refine KW.back7 (i + 1) ([]) (out ++ [op]) (i + 1) (.slice none 0 0) (v10) (w10) ⟨rfl, rfl, rfl, rfl, rfl, rfl, trivial⟩ rfl ?_ (by omega)
                          refine ⟨by omega, by omega, by simp, by simp; omega, ?_, ?_, hdev10, Own.nil _ _ _ _, tm10, vs ++ [_], ?_, htx10.snoc hown10, fun k hk => by simp [Value.ownBlock] at hk⟩
                          · rw [hrp, r1, hf2]
                          · rw [hrn, r2, hf2]; omega
                          · rw [List.length_append, List.length_singleton]; exact hout10
                    · have k3' : ¬ x.kind = 3 := by omega
                      refine KW.skip (KW.seq (KW.region ?_))
                      refine OW.val rfl rfl (EX.loadBk Try.underlying77 rfl ti77 rfl (hb8) (rfl)) ?_
                      refine OW.call rfl rfl rfl (note_s x hb1 (by omega) w8) ?_
                      rintro _ w9 ⟨⟨n, rfl, hn⟩, hx9⟩
                      refine OW.val rfl rfl (EX.move rfl) ?_
                      refine OW.val rfl rfl (EX.extract rfl rfl) ?_
                      refine OW.val rfl rfl (EX.extract rfl rfl) ?_
                      refine OW.allocB (l := [.int .i64 0, str [], .int .i64 0, .int .i64 0, .int .i64 0, .int .u32 0]) rfl rfl ti69 rfl ?_
                      rintro nb w10 hge10 hn10 hx10
                      refine OW.storeS rfl ti69 rfl rfl rfl (by first | rfl | (simp only [List.all_cons, List.all_nil, Bool.and_true, Bool.true_and, Bool.and_eq_true, Value.oneCell']; repeat (first | assumption | exact Own.one (by assumption) | constructor))) (hn10) (Nat.le_refl _) ?_
                      rintro w11 hn11 hm11
                      refine OW.val rfl rfl (EX.assign rfl) ?_
                      refine OW.nil ?_
                      refine KW.seq (KW.seq (KW.region ?_))
                      refine OW.val rfl rfl (EX.move rfl) ?_
                      refine OW.val rfl rfl (by first | exact EX.notD rfl | exact EX.notB rfl) ?_
                      refine OW.nil ?_
                      replace hn11 : Bk w11 nb 69 n.cells := hn11
                      have x11 : Ext w8 w11 := below_mo (hx9.trans hx10) hm11 (hx9.trans hx10).size (fun k hk => by simp at hk; have := hx9.size; omega)
                      have hown11 := hown8.ext x11
                      have hout11 := hout8.ext x11
                      have htx11 := htx8.ext x11
                      have hdev11 := hdev8.ext x11
                      have tm11 := tm8.trans (Tm.of_ext x11 B dty)
                      have z11 := tm11.size
                      rcases hno : noteOf x with _ | n'
                      · obtain ⟨r1, r2⟩ := rep_4 (f := f) (op := op) (out := out) (b := bh) him hde go_ k3' hno
                        refine KW.condT rfl (KW.exit rfl (KW.seq (KW.region ?_)))
                        refine OW.val rfl rfl (EX.move rfl) ?_
                        refine OW.val rfl rfl (EX.move rfl) ?_
                        refine OW.val rfl rfl (EX.assign rfl) ?_
                        refine OW.val rfl rfl (EX.assign rfl) ?_
                        refine OW.val rfl rfl (EX.assign rfl) ?_
                        refine OW.nil ?_
                        refine KW.ret (ret3 rfl rfl rfl rfl ?_)
                        exact fin w11 out bh (i + 1) vt vs (by rw [hrp, r1]) (by rw [hrn, r2]; omega) hdev11 hout11 htx11 tm11
                      · obtain ⟨r1, r2⟩ := rep_5 (f := f) (op := op) (out := out) (b := bh) him hde go_ k3' hno
                        obtain rfl := hn n' hno
                        refine KW.condF rfl (KW.skip (KW.region ?_))
                        refine OW.val rfl rfl (EX.move rfl) ?_
                        refine OW.val rfl rfl (EX.loadBk Try.underlying69 rfl ti69 rfl (hn11) (rfl)) ?_
                        refine OW.pushSB (w.heap.size) rfl rfl (fun _ => rfl) rfl Try.underlying48 ti69 rfl (by decide) (by decide) rfl rfl (fun _ => rfl) (by first | rfl | assumption | (simp only [List.all_cons, List.all_nil, Bool.and_true, Bool.true_and, Bool.and_eq_true, Value.oneCell']; repeat (first | assumption | constructor))) (z11) (hown11) (by simp only [maxLen]; omega) (by omega) ?_
                        rintro _ v12 w12 hown12 hm12 hbl12
                        refine OW.val rfl rfl (EX.assign rfl) ?_
                        refine OW.nil ?_
                        refine KW.leave (KW.region ?_)
                        refine OW.val rfl rfl (EX.move rfl) ?_
                        refine OW.val rfl rfl (by first | exact EX.addN (b := 1) (m := 9223372036854775807) rfl rfl rfl (by omega) | exact EX.addZ (m := 9223372036854775807) rfl rfl rfl rfl (by omega)) ?_
                        refine OW.val rfl rfl (EX.assign rfl) ?_
                        refine OW.nil ?_
                        have t12 := Tm.ownMo hown11 hm12
                        have hout12 := t12.own hout11 (by decide)
                        have htx12 := htx11.mo hm12 (fun v hv k hk q => hap k (Option.mem_toList.1 q) v hv hk)
                        have hdev12 := hdev11.tm t12 (by decide) (by decide) (by decide) (by decide) (by decide) (by decide)
                        have tm12 := tm11.fresh hm12 (fun k hk => (hown11.lt k (Option.mem_toList.1 hk)).1)
                        have en : ntsV (op ++ [n']) = ntsV op ++ n'.cells := by simp
                        refine KW.back7 (i + 1) (op ++ [n']) (out) (bh) (v12) (vt) (w12) ⟨rfl, rfl, rfl, rfl, rfl, rfl, trivial⟩ rfl ?_ (by omega)
                        refine ⟨by omega, by omega, by simp; omega, by omega, ?_, ?_, hdev12, ?_, tm12, vs, hout12, htx12, ?_⟩
                        · rw [hrp, r1, hf2]
                        · rw [hrn, r2, hf2]; omega
                        · rw [List.length_append, List.length_singleton, en]; exact hown12
                        · intro k hk v hv q
                          rcases hbl12 with e | ⟨g, e, hg⟩
                          · rw [e] at hk
                            exact hap k hk v hv q
                          · rw [e] at hk
                            cases hk
                            have := (htx11.lt v hv _ q).2.1
                            omega
            · refine KW.exit rfl (KW.seq (KW.region ?_))
              refine OW.val rfl rfl (EX.move rfl) ?_
              refine OW.val rfl rfl (EX.move rfl) ?_
              refine OW.val rfl rfl (EX.assign rfl) ?_
              refine OW.val rfl rfl (EX.assign rfl) ?_
              refine OW.val rfl rfl (EX.assign rfl) ?_
              refine OW.nil ?_
              refine KW.ret (ret3 rfl rfl rfl rfl ?_)
              obtain ⟨q1, q2⟩ := over (fun q => c2 ((hM2 i).1 q).2)
              exact fin wr out bh i vt vs q1 q2 hdev hout htx htm
          · refine OW.pass rfl rfl ?_
            refine OW.pass rfl rfl ?_
            refine OW.pass rfl rfl ?_
            refine OW.pass rfl rfl ?_
            refine OW.pass rfl rfl ?_
            refine OW.val rfl rfl (EX.pickF rfl rfl) ?_
            refine OW.nil ?_
            refine KW.condF rfl (KW.exit rfl (KW.seq (KW.region ?_)))
            refine OW.val rfl rfl (EX.move rfl) ?_
            refine OW.val rfl rfl (EX.move rfl) ?_
            refine OW.val rfl rfl (EX.assign rfl) ?_
            refine OW.val rfl rfl (EX.assign rfl) ?_
            refine OW.val rfl rfl (EX.assign rfl) ?_
            refine OW.nil ?_
            refine KW.ret (ret3 rfl rfl rfl rfl ?_)
            obtain ⟨q1, q2⟩ := over (fun q => c1 (by have := ((hM2 i).1 q).1; omega))
            exact fin wr out bh i vt vs q1 q2 hdev hout htx htm
end Go.Proofs.Ytlpnoogcdnfllaa
/- wal: lists of transactions are compared; those that may be. -/
namespace Go.Proofs.Ytlpnoogcdnfllaa
set_option linter.unnecessarySimpa false
open Go.RowKit Rec Pth Dsk Wal
set_option linter.unusedVariables false
set_option linter.unusedSimpArgs false

/-- transactions, wherever they lie below C -/
def TxS (w : World) (C : Nat) : List Value → List (List Nt) → Prop
  | [], [] => True
  | v :: vs, l :: ls => (∃ A c, v = .slice A l.length c ∧ Sl w C A (ntsV l)) ∧ TxS w C vs ls
  | _, _ => False
theorem TxS.len {w : World} {B : Nat} : ∀ {vs : List Value} {ls : List (List Nt)}, TxS w B vs ls → vs.length = ls.length
  | [], [], _ => rfl
  | v :: vs, l :: ls, ⟨_, h2⟩ => by simp [TxS.len h2]
  | [], _ :: _, h => h.elim
  | _ :: _, [], h => h.elim
theorem TxS.at_ {w : World} {B : Nat} : ∀ {vs : List Value} {ls : List (List Nt)}, TxS w B vs ls → ∀ (i : Nat) (hi : i < ls.length), ∃ A c, vs[i]? = some (.slice A (ls[i]).length c) ∧ Sl w B A (ntsV ls[i])
  | [], [], _, i, hi => by simp at hi
  | v :: vs, l :: ls, ⟨⟨A, c, e, h1⟩, h2⟩, 0, hi => ⟨A, c, by simp [e], h1⟩
  | v :: vs, l :: ls, ⟨h1, h2⟩, i + 1, hi => by
    obtain ⟨A, c, h3, h4⟩ := TxS.at_ h2 i (by simpa using hi)
    exact ⟨A, c, by simpa using h3, by simpa using h4⟩
  | [], _ :: _, h, _, _ => h.elim
  | _ :: _, [], h, _, _ => h.elim
theorem TxS.snoc {w : World} {B : Nat} : ∀ {vs : List Value} {ls : List (List Nt)} {A : Option Addr} {c : Nat} {l : List Nt}, TxS w B vs ls → Sl w B A (ntsV l) → TxS w B (vs ++ [.slice A l.length c]) (ls ++ [l])
  | [], [], _, _, _, _, h => ⟨⟨_, _, rfl, h⟩, trivial⟩
  | v :: vs, l :: ls, _, _, _, ⟨h1, h2⟩, h => ⟨h1, TxS.snoc h2 h⟩
  | [], _ :: _, _, _, _, h, _ => h.elim
  | _ :: _, [], _, _, _, h, _ => h.elim
theorem TxS.below {w w' : World} {B C : Nat} (hx : Below C w w') (hB : B ≤ C) : ∀ {vs : List Value} {ls : List (List Nt)}, TxS w B vs ls → TxS w' B vs ls
  | [], [], h => h
  | v :: vs, l :: ls, ⟨⟨A, c, e, h1⟩, h2⟩ => ⟨⟨A, c, e, h1.keep fun p hp => hx.cell (Nat.lt_of_lt_of_le hp hB)⟩, TxS.below hx hB h2⟩
  | [], _ :: _, h => h.elim
  | _ :: _, [], h => h.elim
theorem TxS.ext {w w' : World} {B : Nat} (hx : Ext w w') : ∀ {vs : List Value} {ls : List (List Nt)}, TxS w B vs ls → TxS w' B vs ls
  | [], [], h => h
  | v :: vs, l :: ls, ⟨⟨A, c, e, h1⟩, h2⟩ => ⟨⟨A, c, e, h1.ext hx⟩, TxS.ext hx h2⟩
  | [], _ :: _, h => h.elim
  | _ :: _, [], h => h.elim
theorem TxO.txs {w : World} {B : Nat} : ∀ {vs : List Value} {ls : List (List Nt)}, TxO w B vs ls → TxS w w.heap.size vs ls
  | [], [], _ => trivial
  | v :: vs, l :: ls, ⟨h1, h2⟩ => by
    obtain ⟨A, c, e, _, h3⟩ := h1.slice
    exact ⟨⟨A, c, e, h3⟩, TxO.txs h2⟩
  | [], _ :: _, h => h.elim
  | _ :: _, [], h => h.elim
theorem TxS.take {w : World} {B : Nat} : ∀ {vs : List Value} {ls : List (List Nt)} (n : Nat), TxS w B vs ls → TxS w B (vs.take n) (ls.take n)
  | [], [], n, h => by simp [TxS]
  | v :: vs, l :: ls, 0, h => by simp [TxS]
  | v :: vs, l :: ls, n + 1, ⟨h1, h2⟩ => ⟨h1, TxS.take n h2⟩
  | [], _ :: _, _, h => h.elim
  | _ :: _, [], _, h => h.elim
set_option maxRecDepth 20000 in
theorem same_s (ls1 ls2 : List (List Nt)) (vs1 vs2 : List Value) (A1 A2 : Option Addr) (k1 k2 : Nat) (w : World) (B1 B2 C1 C2 : Nat) (h1 : Sl w B1 A1 vs1) (h2 : Sl w B2 A2 vs2) (x1 : TxS w C1 vs1 ls1) (x2 : TxS w C2 vs2 ls2) (hn : ls1.length ≤ 1000000000000) (hb : ∀ l ∈ ls1, l.length ≤ 140737488355328) :
    Ret Try.prog 11 [.slice A1 ls1.length k1, .slice A2 ls2.length k2] w fun v w' => v = .bool (decide (ls1 = ls2)) ∧ Ext w w' := by
  have e1 := x1.len
  have e2 := x2.len
  refine Ret.enter Try.func11 rfl Try.ntmps11 (by kernel_rfl) rfl ?_
  refine KW.seq (KW.region ?_)
  refine OW.val rfl rfl (EX.assign rfl) ?_
  refine OW.nil ?_
  refine KW.seq (KW.seq (KW.region ?_))
  refine OW.val rfl rfl (EX.move rfl) ?_
  refine OW.val rfl rfl (EX.lenA Try.underlying22 rfl) ?_
  refine OW.val rfl rfl (EX.move rfl) ?_
  refine OW.val rfl rfl (EX.lenA Try.underlying22 rfl) ?_
  refine OW.val rfl rfl (by first | exact EX.neqN rfl rfl | exact EX.neqZ rfl rfl) ?_
  refine OW.nil ?_
  refine KW.condD rfl (fun hl => ?_) (fun hl => ?_)
  · refine KW.seq (KW.region ?_)
    refine OW.val rfl rfl (EX.assign rfl) ?_
    refine OW.nil ?_
    refine KW.ret (ret1 rfl rfl ?_)
    refine ⟨congrArg Value.bool (decide_eq_false (fun e => hl (by rw [e]))).symm, Ext.refl _⟩
  · have hll : ls1.length = ls2.length := by omega
    refine KW.skip (KW.seq (KW.seq (KW.region ?_)))
    refine OW.val rfl rfl (EX.assign rfl) ?_
    refine OW.nil ?_
    refine KW.block ?_
    refine KW.loop2 (fun (i : Nat) (wr : World) => i ≤ ls1.length ∧ (∀ j, j < i → ls1[j]? = ls2[j]?) ∧ Ext w wr) (fun (i : Nat) (wr : World) => [(0, .slice A1 ls1.length k1), (1, .slice A2 ls2.length k2), (5, .int .i64 ((i : Nat) : Int))]) (fun (i : Nat) (wr : World) => wr) (fun (i : Nat) (wr : World) => ls1.length - i) (0) (w) ⟨rfl, rfl, rfl, trivial⟩ rfl ?_ ?_
    · exact ⟨by omega, fun j hj => by omega, Ext.refl _⟩
    · rintro i wr ⟨hi, he, hx⟩
      refine KW.seq (KW.seq (KW.region ?_))
      refine OW.val rfl rfl (EX.move rfl) ?_
      refine OW.val rfl rfl (EX.move rfl) ?_
      refine OW.val rfl rfl (EX.lenA Try.underlying22 rfl) ?_
      refine OW.val rfl rfl (by first | exact EX.lssN rfl rfl | exact EX.lssZ rfl rfl) ?_
      refine OW.nil ?_
      refine KW.condD rfl (fun hlt => ?_) (fun hlt => ?_)
      · have hlt2 : i < ls2.length := by omega
        obtain ⟨a1, c1, g1, s1⟩ := (x1.ext hx).at_ i hlt
        obtain ⟨a2, c2, g2, s2⟩ := (x2.ext hx).at_ i hlt2
        obtain ⟨b1, o1, rfl, _, hc1⟩ := (h1.ext hx).at_ (by omega)
        obtain ⟨b2, o2, rfl, _, hc2⟩ := (h2.ext hx).at_ (by omega)
        have hbi := hb ls1[i] (List.getElem_mem hlt)
        have hi1 : ls1[i]? = some ls1[i] := List.getElem?_eq_getElem hlt
        have hi2 : ls2[i]? = some ls2[i] := List.getElem?_eq_getElem hlt2
        generalize ls1[i] = l1 at g1 s1 hbi hi1
        generalize ls2[i] = l2 at g2 s2 hi2
        refine KW.skip (KW.seq (KW.block (KW.seq (KW.seq ?_))))
        refine KW.regionQ (by kernel_rfl) (by kernel_rfl) ?_
        refine QW.val rfl rfl (fun _ => EX.move rfl) ?_
        refine QW.val rfl rfl (fun _ => EX.move rfl) ?_
        refine QW.val rfl rfl (fun _ => by first | exact EX.indexAddrS0 Try.underlying22 ti48 rfl rfl (by omega) | exact EX.indexAddrS1 Try.underlying22 ti48 rfl rfl (by omega)) ?_
        refine QW.val rfl rfl (fun _ => EX.load Try.underlying48 rfl rfl (hc1 i _ g1)) ?_
        refine QW.val rfl rfl (fun _ => EX.lenA Try.underlying48 rfl) ?_
        refine QW.val rfl rfl (fun _ => EX.move rfl) ?_
        refine QW.val rfl rfl (fun _ => EX.move rfl) ?_
        refine QW.val rfl rfl (fun _ => by first | exact EX.indexAddrS0 Try.underlying22 ti48 rfl rfl (by omega) | exact EX.indexAddrS1 Try.underlying22 ti48 rfl rfl (by omega)) ?_
        refine QW.val rfl rfl (fun _ => EX.load Try.underlying48 rfl rfl (hc2 i _ g2)) ?_
        refine QW.val rfl rfl (fun _ => EX.lenA Try.underlying48 rfl) ?_
        refine QW.val rfl rfl (fun _ => by first | exact EX.neqN rfl rfl | exact EX.neqZ rfl rfl) ?_
        refine QW.nil (fun nq => ?_)
        refine KW.condD rfl (fun hlen => ?_) (fun hlen => ?_)
        · refine KW.seq (KW.region ?_)
          refine OW.val rfl rfl (EX.assign rfl) ?_
          refine OW.nil ?_
          refine KW.ret (ret1 rfl rfl ?_)
          refine ⟨congrArg Value.bool (decide_eq_false (fun e => hlen ?_)).symm, hx.trans (Ext.drewN wr nq)⟩
          rw [e, hi2] at hi1
          cases hi1
          rfl
        · have hll2 : l1.length = l2.length := by omega
          refine KW.skip (KW.seq (KW.region ?_))
          refine OW.val rfl rfl (EX.assign rfl) ?_
          refine OW.nil ?_
          refine KW.block ?_
          refine KW.loop2 (fun (k : Nat) (wq : World) => k ≤ l1.length ∧ (∀ j, j < k → l1[j]? = l2[j]?) ∧ Ext wr wq) (fun (k : Nat) (wq : World) => [(0, .slice (some ⟨b1, o1, none⟩) ls1.length k1), (1, .slice (some ⟨b2, o2, none⟩) ls2.length k2), (5, .int .i64 ((i : Nat) : Int)), (6, .int .i64 ((k : Nat) : Int))]) (fun (k : Nat) (wq : World) => wq) (fun (k : Nat) (wq : World) => l1.length - k) (0) (wr.drewN nq) ⟨rfl, rfl, rfl, rfl, trivial⟩ rfl ?_ ?_
          · exact ⟨by omega, fun j hj => by omega, Ext.drewN wr nq⟩
          · rintro k wq ⟨hk, hek, hxq⟩
            have hc1q : ∀ j u, vs1[j]? = some u → wq.cell? ⟨b1, o1 + j, none⟩ = some u := by
              obtain ⟨b1', o1', e', _, hc⟩ := ((h1.ext hx).ext hxq).at_ (by omega)
              cases e'
              exact hc
            have hc2q : ∀ j u, vs2[j]? = some u → wq.cell? ⟨b2, o2 + j, none⟩ = some u := by
              obtain ⟨b1', o1', e', _, hc⟩ := ((h2.ext hx).ext hxq).at_ (by omega)
              cases e'
              exact hc
            refine KW.seq (KW.seq (KW.region ?_))
            refine OW.val rfl rfl (EX.move rfl) ?_
            refine OW.val rfl rfl (EX.move rfl) ?_
            refine OW.val rfl rfl (EX.move rfl) ?_
            refine OW.val rfl rfl (by first | exact EX.indexAddrS0 Try.underlying22 ti48 rfl rfl (by omega) | exact EX.indexAddrS1 Try.underlying22 ti48 rfl rfl (by omega)) ?_
            refine OW.val rfl rfl (EX.load Try.underlying48 rfl rfl (hc1q i _ g1)) ?_
            refine OW.val rfl rfl (EX.lenA Try.underlying48 rfl) ?_
            refine OW.val rfl rfl (by first | exact EX.lssN rfl rfl | exact EX.lssZ rfl rfl) ?_
            refine OW.nil ?_
            refine KW.condD rfl (fun hlk => ?_) (fun hlk => ?_)
            · have hlk2 : k < l2.length := by omega
              obtain ⟨b3, o3, rfl, _, hd1⟩ := (s1.ext hxq).flat (c := 6) (fun _ => rfl) (by decide) hlk
              obtain ⟨b4, o4, rfl, _, hd2⟩ := (s2.ext hxq).flat (c := 6) (fun _ => rfl) (by decide) hlk2
              refine KW.skip (KW.seq (KW.block (KW.seq ?_)))
              refine KW.regionQ (by kernel_rfl) (by kernel_rfl) ?_
              refine QW.val rfl rfl (fun _ => EX.move rfl) ?_
              refine QW.val rfl rfl (fun _ => EX.move rfl) ?_
              refine QW.val rfl rfl (fun _ => by first | exact EX.indexAddrS0 Try.underlying22 ti48 rfl rfl (by omega) | exact EX.indexAddrS1 Try.underlying22 ti48 rfl rfl (by omega)) ?_
              refine QW.val rfl rfl (fun _ => EX.load Try.underlying48 rfl rfl (hc1q i _ g1)) ?_
              refine QW.val rfl rfl (fun _ => EX.move rfl) ?_
              refine QW.val rfl rfl (fun _ => EX.indexAddrS Try.underlying48 ti69 rfl rfl (by omega)) ?_
              refine QW.val rfl rfl (fun _ => EX.loadA (w := wq.drewN _) (l := (l1[k]).cells) Try.underlying69 rfl ti69 rfl rfl hd1) ?_
              refine QW.val rfl rfl (fun _ => EX.move rfl) ?_
              refine QW.val rfl rfl (fun _ => EX.move rfl) ?_
              refine QW.val rfl rfl (fun _ => by first | exact EX.indexAddrS0 Try.underlying22 ti48 rfl rfl (by omega) | exact EX.indexAddrS1 Try.underlying22 ti48 rfl rfl (by omega)) ?_
              refine QW.val rfl rfl (fun _ => EX.load Try.underlying48 rfl rfl (hc2q i _ g2)) ?_
              refine QW.val rfl rfl (fun _ => EX.move rfl) ?_
              refine QW.val rfl rfl (fun _ => EX.indexAddrS Try.underlying48 ti69 rfl rfl (by omega)) ?_
              refine QW.val rfl rfl (fun _ => EX.loadA (w := wq.drewN _) (l := (l2[k]).cells) Try.underlying69 rfl ti69 rfl rfl hd2) ?_
              refine QW.val rfl rfl (fun _ => EX.neqV Try.underlying69 (by kernel_rfl) (by kernel_rfl) rfl rfl (FE.one (by decide) Try.underlying3 rfl rfl rfl (eq_int Try.underlying3) (FE.str (by decide) Try.underlying67 (by kernel_rfl) ti67 rfl rfl (.cons (by decide) Try.underlying9 rfl rfl rfl (eq_str Try.underlying9) (.cons (by decide) Try.underlying3 rfl rfl rfl (eq_int Try.underlying3) (.cons (by decide) Try.underlying3 rfl rfl rfl (eq_int Try.underlying3) (.cons (by decide) Try.underlying3 rfl rfl rfl (eq_int Try.underlying3) (.cons (by decide) Try.underlying65 rfl rfl rfl (eq_int Try.underlying65) FEqs.nil))))) FE.nil)) rfl) ?_
              refine QW.nil (fun nq => ?_)
              refine KW.as 52 (.bool (decide (l1[k] ≠ l2[k]))) rfl (congrArg Value.bool (nt_ne _ _)) ?_
              refine KW.condD rfl (fun hne => ?_) (fun hne => ?_)
              · refine KW.seq (KW.region ?_)
                refine OW.val rfl rfl (EX.assign rfl) ?_
                refine OW.nil ?_
                refine KW.ret (ret1 rfl rfl ?_)
                refine ⟨congrArg Value.bool (decide_eq_false (fun e => hne ?_)).symm, (hx.trans hxq).trans (Ext.drewN wq _)⟩
                rw [e, hi2] at hi1
                cases hi1
                rfl
              · refine KW.skip (KW.leave (KW.region ?_))
                refine OW.val rfl rfl (EX.move rfl) ?_
                refine OW.val rfl rfl (by first | exact EX.addN (b := 1) (m := 9223372036854775807) rfl rfl rfl (by omega) | exact EX.addZ (m := 9223372036854775807) rfl rfl rfl rfl (by omega)) ?_
                refine OW.val rfl rfl (EX.assign rfl) ?_
                refine OW.nil ?_
                refine KW.back2 (k + 1) (wq.drewN _) ⟨rfl, rfl, rfl, rfl, trivial⟩ rfl ?_ (by omega)
                refine ⟨by omega, fun j hj => ?_, hxq.trans (Ext.drewN wq _)⟩
                by_cases e : j = k
                · subst e
                  rw [List.getElem?_eq_getElem hlk, List.getElem?_eq_getElem hlk2]
                  exact congrArg some (by simpa using hne)
                · exact hek j (by omega)
            · obtain rfl : k = l1.length := by omega
              have el : l1 = l2 := by
                apply List.ext_getElem?
                intro j
                by_cases hj : j < l1.length
                · exact hek j hj
                · rw [List.getElem?_eq_none (by omega), List.getElem?_eq_none (by omega)]
              refine KW.exit rfl (KW.leave (KW.region ?_))
              refine OW.val rfl rfl (EX.move rfl) ?_
              refine OW.val rfl rfl (by first | exact EX.addN (b := 1) (m := 9223372036854775807) rfl rfl rfl (by omega) | exact EX.addZ (m := 9223372036854775807) rfl rfl rfl rfl (by omega)) ?_
              refine OW.val rfl rfl (EX.assign rfl) ?_
              refine OW.nil ?_
              refine KW.back2 (i + 1) (wq) ⟨rfl, rfl, rfl, trivial⟩ rfl ?_ (by omega)
              refine ⟨by omega, fun j hj => ?_, hx.trans hxq⟩
              by_cases e : j = i
              · subst e
                rw [hi1, hi2, el]
              · exact he j (by omega)
      · obtain rfl : i = ls1.length := by omega
        refine KW.exit rfl (KW.seq (KW.region ?_))
        refine OW.val rfl rfl (EX.assign rfl) ?_
        refine OW.nil ?_
        refine KW.ret (ret1 rfl rfl ?_)
        refine ⟨congrArg Value.bool (decide_eq_true ?_).symm, hx⟩
        apply List.ext_getElem?
        intro j
        by_cases hj : j < ls1.length
        · exact he j hj
        · rw [List.getElem?_eq_none (by omega), List.getElem?_eq_none (by omega)]
end Go.Proofs.Ytlpnoogcdnfllaa
/- wal, in plain words: transactions that were appended are found; what a fall leaves. No program is spoken of. -/
namespace Go.Proofs.Ytlpnoogcdnfllaa.Wal
set_option linter.unnecessarySimpa false
open Go.RowKit Rec Pth Dsk
set_option linter.unusedVariables false
set_option linter.unusedSimpArgs false
/-! ### Many writes -/
def chs : Nat → List By → List Ch
  | _, [] => []
  | i, t :: T => .write i t :: chs (i + 1) T
def apAll : Nat → List By → By → By
  | _, [], s => s
  | i, t :: T, s => apAll (i + 1) T ((Ch.write i t).ap s)
theorem chs_length : ∀ (T : List By) (i : Nat), (chs i T).length = T.length
  | [], _ => rfl
  | t :: T, i => by simp [chs, chs_length T]
theorem mod_write {s t : By} {i : Nat} (ht : t.length = 512) (hm : s.length % 512 = 0) : ((Ch.write i t).ap s).length % 512 = 0 := by
  rw [len_write ht hm]
  omega
theorem apAll_len : ∀ (T : List By) (i : Nat) (s : By), (∀ t ∈ T, t.length = 512) → s.length % 512 = 0 → (apAll i T s).length = if T = [] then s.length else max s.length ((i + T.length) * 512)
  | [], i, s, _, _ => rfl
  | t :: T, i, s, hT, hm => by
    have ht := hT t (by simp)
    rw [apAll, apAll_len T (i + 1) _ (fun x hx => hT x (by simp [hx])) (mod_write ht hm), len_write ht hm, if_neg (List.cons_ne_nil _ _), List.length_cons]
    split
    · rename_i e
      subst e
      rfl
    · omega
theorem apAll_sec : ∀ (T : List By) (i : Nat) (s : By), (∀ t ∈ T, t.length = 512) → s.length % 512 = 0 → ∀ j, (i ≤ j ∧ j < i + T.length) ∨ j < s.length / 512 → sec (apAll i T s) j = if i ≤ j ∧ j < i + T.length then T.getD (j - i) [] else sec s j
  | [], i, s, _, _, j, _ => by
    rw [apAll, if_neg (by simp only [List.length_nil]; omega)]
  | t :: T, i, s, hT, hm, j, hj => by
    have ht := hT t (by simp)
    have hlen := len_write (i := i) ht hm
    simp only [List.length_cons] at hj ⊢
    rw [apAll, apAll_sec T (i + 1) _ (fun x hx => hT x (by simp [hx])) (mod_write ht hm) j (by rw [hlen]; omega)]
    by_cases h1 : i + 1 ≤ j ∧ j < i + 1 + T.length
    · rw [if_pos h1, if_pos (by omega), show j - i = (j - (i + 1)) + 1 by omega]
      rfl
    · rw [if_neg h1, sec_write hm ht (by omega)]
      by_cases h2 : j = i
      · subst h2
        rw [if_pos rfl, if_pos (by omega), Nat.sub_self]
        rfl
      · rw [if_neg h2, if_neg (by omega)]
theorem write_live {D : Dv} (h1 : D.dead = false) (h2 : D.at_ ≠ 1) {i : Nat} (hi : i < D.cap) {t : By} (ht : t.length = 512) :
    D.write (i : Int) t = ({ D with pend := D.pend ++ [.write i t], now := (Ch.write i t).ap D.now, at_ := D.at_ - 1, calls := D.calls + 1 }, 0) := by
  unfold Dv.write
  rw [if_neg (by rw [h1]; decide), if_neg (by omega), if_neg (by omega), does_go (by exact h2)]
  rfl
theorem write_fall {D : Dv} (h1 : D.dead = false) (h2 : D.at_ = 1) {i : Nat} (hi : i < D.cap) {t : By} (ht : t.length = 512) :
    D.write (i : Int) t = ({ D with kept := fallen (D.pend ++ [.write i t]) D.keep D.kept, now := fallen (D.pend ++ [.write i t]) D.keep D.kept, pend := [], at_ := 0, keep := [], dead := true }, 190) := by
  unfold Dv.write
  rw [if_neg (by rw [h1]; decide), if_neg (by omega), if_neg (by omega), does_fall (by exact h2)]
  rfl
theorem writes_live : ∀ (T : List By) (D : Dv) (i : Nat), D.dead = false → (D.at_ = 0 ∨ T.length < D.at_) → (∀ t ∈ T, t.length = 512) → i + T.length ≤ D.cap →
    writes D i T = ({ D with pend := D.pend ++ chs i T, now := apAll i T D.now, at_ := D.at_ - T.length, calls := D.calls + T.length }, 0)
  | [], D, i, _, _, _, _ => by
    obtain ⟨a, b, c, d, e, f, g, h⟩ := D
    simp [writes, chs, apAll]
  | t :: T, D, i, h1, h2, hT, hi => by
    simp only [List.length_cons] at hi h2
    have ih := writes_live T { D with pend := D.pend ++ [.write i t], now := (Ch.write i t).ap D.now, at_ := D.at_ - 1, calls := D.calls + 1 } (i + 1) h1 (by simp only; omega) (fun x hx => hT x (by simp [hx])) (by simp only; omega)
    rw [writes_cons, write_live h1 (by omega) (by omega) (hT t (by simp)), if_pos rfl]
    simp only
    rw [ih]
    simp only [chs, apAll, List.append_assoc, List.cons_append, List.nil_append, List.length_cons]
    congr 2
    · omega
    · omega
theorem writes_fall : ∀ (T : List By) (D : Dv) (i : Nat), D.dead = false → 1 ≤ D.at_ → D.at_ ≤ T.length → (∀ t ∈ T, t.length = 512) → i + T.length ≤ D.cap →
    ∃ c, writes D i T = ({ D with kept := fallen (D.pend ++ chs i (T.take D.at_)) D.keep D.kept, now := fallen (D.pend ++ chs i (T.take D.at_)) D.keep D.kept, pend := [], at_ := 0, keep := [], dead := true, calls := c }, 190)
  | [], D, i, _, h2, h3, _, _ => by simp at h3; omega
  | t :: T, D, i, h1, h2, h3, hT, hi => by
    simp only [List.length_cons] at hi h3
    by_cases ha : D.at_ = 1
    · refine ⟨D.calls, ?_⟩
      rw [writes_cons, write_fall h1 ha (by omega) (hT t (by simp)), if_neg (show ¬ (190 : Nat) = 0 by decide), ha]
      simp [chs]
    · obtain ⟨c, ih⟩ := writes_fall T { D with pend := D.pend ++ [.write i t], now := (Ch.write i t).ap D.now, at_ := D.at_ - 1, calls := D.calls + 1 } (i + 1) h1 (by simp only; omega) (by simp only; omega) (fun x hx => hT x (by simp [hx])) (by simp only; omega)
      refine ⟨c, ?_⟩
      rw [writes_cons, write_live h1 ha (by omega) (hT t (by simp)), if_pos rfl]
      simp only
      rw [ih]
      obtain ⟨a, ea⟩ : ∃ a, D.at_ = a + 1 := ⟨D.at_ - 1, by omega⟩
      simp only [ea, Nat.add_sub_cancel, List.take_succ_cons, chs, List.append_assoc, List.cons_append, List.nil_append]
theorem fallen_nil (cs : List Ch) (s : By) : fallen cs [] s = s := by cases cs <;> rfl
theorem fallen_sec : ∀ (T : List By) (i : Nat) (bs : List Bool) (s : By), (∀ t ∈ T, t.length = 512) → s.length % 512 = 0 → (i + T.length) * 512 ≤ s.length →
    (fallen (chs i T) bs s).length = s.length ∧ ∀ j, j < s.length / 512 → sec (fallen (chs i T) bs s) j = sec s j ∨ (i ≤ j ∧ j < i + T.length ∧ sec (fallen (chs i T) bs s) j = T.getD (j - i) []) := by
  intro T
  induction T with
  | nil =>
    intro i bs s _ _ _
    have e : fallen (chs i []) bs s = s := by rw [chs, fallen]
    rw [e]
    exact ⟨rfl, fun j _ => .inl rfl⟩
  | cons t T ih =>
    intro i bs s hT hm hl
    cases bs with
    | nil =>
      rw [fallen_nil]
      exact ⟨rfl, fun j _ => .inl rfl⟩
    | cons b bs =>
      simp only [List.length_cons] at hl
      have ht := hT t (by simp)
      have e : fallen (chs i (t :: T)) (b :: bs) s = fallen (chs (i + 1) T) bs (if b = true then (Ch.write i t).ap s else s) := rfl
      have hlen : (if b = true then (Ch.write i t).ap s else s).length = s.length := by
        split
        · rw [len_write ht hm]; omega
        · rfl
      have hsec : ∀ j, j < s.length / 512 → sec (if b = true then (Ch.write i t).ap s else s) j = sec s j ∨ (j = i ∧ sec (if b = true then (Ch.write i t).ap s else s) j = t) := by
        intro j hj
        by_cases hb : b = true
        · rw [if_pos hb, sec_write hm ht (.inr hj)]
          by_cases e : j = i
          · rw [if_pos e]
            exact .inr ⟨e, rfl⟩
          · rw [if_neg e]
            exact .inl rfl
        · rw [if_neg hb]
          exact .inl rfl
      rw [e]
      generalize (if b = true then (Ch.write i t).ap s else s) = s' at hlen hsec
      have q1 : s'.length % 512 = 0 := by rw [hlen]; exact hm
      have q2 : (i + 1 + T.length) * 512 ≤ s'.length := by rw [hlen, show i + 1 + T.length = i + (T.length + 1) by omega]; exact hl
      obtain ⟨h1, h2⟩ := ih (i + 1) bs s' (fun x hx => hT x (by simp [hx])) q1 q2
      refine ⟨by rw [h1, hlen], fun j hj => ?_⟩
      rcases h2 j (by rw [hlen]; exact hj) with h | ⟨h3, h4, h5⟩
      · rw [h]
        rcases hsec j hj with q | ⟨q3, q4⟩
        · exact .inl q
        · subst q3
          exact .inr ⟨Nat.le_refl _, by simp only [List.length_cons]; omega, by rw [q4, Nat.sub_self]; rfl⟩
      · refine .inr ⟨by omega, by simp only [List.length_cons]; omega, ?_⟩
        rw [h5, show j - i = (j - (i + 1)) + 1 by omega]
        rfl
/-! ### A device between appends -/
structure Quiet (D : Dv) (rd : Nat → By) (n : Nat) : Prop where
  ok : D.Ok
  cap : D.cap = 40
  dead : D.dead = false
  at_ : D.at_ = 0
  pend : D.pend = []
  kept : D.kept = D.now
  len : D.now.length = if n = 0 then 0 else (10 + n) * 512
  rd : ∀ k, k < n → sec D.now (10 + k) = rd k
  le : n ≤ 20
theorem Quiet.fresh (rd : Nat → By) : Quiet (fresh 40 []) rd 0 := ⟨fresh_ok (by decide) (by decide) (by decide), rfl, rfl, rfl, rfl, rfl, rfl, fun k hk => by omega, by omega⟩
theorem Quiet.as {D : Dv} {rd rd' : Nat → By} {n : Nat} (h : Quiet D rd n) (e : ∀ k, k < n → rd k = rd' k) : Quiet D rd' n := ⟨h.ok, h.cap, h.dead, h.at_, h.pend, h.kept, h.len, fun k hk => (h.rd k hk).trans (e k hk), h.le⟩
theorem Quiet.logN {D : Dv} {rd : Nat → By} {n : Nat} (h : Quiet D rd n) : logN D.now = n := by
  have h1 := h.len
  have h2 := h.le
  unfold Wal.logN
  rw [h1]
  split <;> omega
def over (rd : Nat → By) (a : Nat) (T : List By) : Nat → By := fun k => if a ≤ k ∧ k < a + T.length then T.getD (k - a) [] else rd k
theorem quiet_append {D : Dv} {rd : Nat → By} {n g a : Nat} {l : List Nt} (h : Quiet D rd n) (hg : g ≤ 4611686018427387904) (ha : a ≤ n) (hne : l ≠ []) (hl : a + l.length + 1 ≤ 20) (hm : ∀ x ∈ l, mayN x) :
    ∃ D', appendW D (g : Int) (a : Int) l = (D', (a : Int) + l.length + 1, 0) ∧ Quiet D' (over rd a (txs g a l)) (max n (a + l.length + 1)) := by
  have hnb : ¬ badW (g : Int) (a : Int) l.length := by
    have : l.length ≠ 0 := fun e => hne (List.eq_nil_of_length_eq_zero e)
    unfold badW
    omega
  have hT := txs_len (g := g) (i := a) hm
  have hTl := txs_length g a l
  rw [app_go hnb hm]
  simp only [Int.toNat_natCast]
  generalize txs g a l = T at hT hTl
  have hTne : T ≠ [] := fun e => by rw [e] at hTl; simp at hTl
  rw [writes_live T D (10 + a) h.dead (.inl h.at_) hT (by rw [h.cap]; omega)]
  simp only [if_true]
  have hs : Dv.sync { D with pend := D.pend ++ chs (10 + a) T, now := apAll (10 + a) T D.now, at_ := D.at_ - T.length, calls := D.calls + T.length } = ({ D with pend := [], kept := apAll (10 + a) T D.now, now := apAll (10 + a) T D.now, at_ := 0, calls := D.calls + T.length + 1 }, 0) := by
    unfold Dv.sync
    rw [if_neg (by show ¬ D.dead = true; rw [h.dead]; decide), does_go (by show D.at_ - T.length ≠ 1; rw [h.at_]; omega)]
    simp only [Dv.done, Dv.pushed, h.at_, Nat.zero_sub]
  rw [hs]
  simp only [if_true]
  refine ⟨_, rfl, ?_⟩
  have hlen := h.len
  have hle := h.le
  have hmod := h.ok.nowM
  have hla := apAll_len T (10 + a) D.now hT hmod
  rw [if_neg hTne] at hla
  have hlb : (apAll (10 + a) T D.now).length = (10 + max n (a + l.length + 1)) * 512 := by
    rw [hla, hlen]
    split <;> omega
  refine ⟨⟨h.ok.cap, ?_, ?_, ?_, ?_, fun c hc => by simp at hc⟩, h.cap, h.dead, rfl, rfl, rfl, ?_, ?_, by omega⟩
  · show (apAll (10 + a) T D.now).length ≤ 512 * D.cap
    rw [hlb, h.cap]; omega
  · show (apAll (10 + a) T D.now).length ≤ 512 * D.cap
    rw [hlb, h.cap]; omega
  · show (apAll (10 + a) T D.now).length % 512 = 0
    rw [hlb]; omega
  · show (apAll (10 + a) T D.now).length % 512 = 0
    rw [hlb]; omega
  · show (apAll (10 + a) T D.now).length = _
    rw [hlb, if_neg (by omega)]
  · intro k hk
    show sec (apAll (10 + a) T D.now) (10 + k) = _
    have hj : (10 + a ≤ 10 + k ∧ 10 + k < 10 + a + T.length) ∨ 10 + k < D.now.length / 512 := by
      rw [hlen]
      by_cases q : k < n
      · right
        rw [if_neg (by omega)]
        omega
      · left
        omega
    rw [apAll_sec T (10 + a) D.now hT hmod (10 + k) hj]
    unfold over
    by_cases q : a ≤ k ∧ k < a + T.length
    · rw [if_pos q, if_pos (by omega), show 10 + k - (10 + a) = k - a by omega]
    · rw [if_neg q, if_neg (by omega)]
      exact h.rd k (by omega)
/-! ### Whose generation a record is -/
theorem txs_gen {g a : Nat} {l : List Nt} (hg : g ≤ 4611686018427387904) (hl : Good l) (ha : a + l.length ≤ 2147483647) (h2 : l.length ≤ 100) : ∀ k, k < l.length + 1 → (decodeR ((txs g a l).getD k [])).1.gen = (g : Int) := by
  intro k hk
  by_cases q : k < l.length
  · rw [txs_note g a l q, (rd_recs hg l a hl ha k q).eq]
  · obtain rfl : k = l.length := by omega
    rw [txs_end, (rd_text (k := 3) (by decide) hg ha (by simp)).eq]
theorem lay_at {g : Nat} : ∀ (ls : List (List Nt)) (i : Nat), i + total ls ≤ 20 → g ≤ 4611686018427387904 → Goods ls → ∀ k, k < total ls → (decodeR ((lay g i ls).getD k [])).1.gen = (g : Int)
  | [], i, _, _, _, k, hk => by simp [total] at hk
  | l :: ls, i, hi, hg, hl, k, hk => by
    rw [total_cons] at hi hk
    have h1 := hl l (by simp)
    by_cases q : k < l.length + 1
    · have e : (lay g i (l :: ls)).getD k [] = (txs g i l).getD k [] := by
        rw [lay]
        simp only [List.getD_eq_getElem?_getD]
        rw [List.getElem?_append_left (by rw [txs_length]; exact q)]
      rw [e]
      exact txs_gen hg h1.1 (by omega) (by omega) k q
    · have e : (lay g i (l :: ls)).getD k [] = (lay g (i + l.length + 1) ls).getD (k - (l.length + 1)) [] := by
        rw [lay]
        simp only [List.getD_eq_getElem?_getD]
        rw [List.getElem?_append_right (by rw [txs_length]; omega), txs_length]
      rw [e]
      exact lay_at ls _ (by omega) hg (fun x hx => hl x (by simp [hx])) _ (by omega)
theorem rep_end0 {gen : Int} {rd : Nat → By} {m f i : Nat} {op : List Nt} {out : List (List Nt)} {b : Nat} (hi : m ≤ i) : rep gen rd m f i op out b = (out, b) := by
  cases f with
  | zero => rfl
  | succ f => rw [rep, if_neg (by omega)]
/-- another generation's record ends a replay -/
theorem rep_stop {gen : Int} {rd : Nat → By} {m f i : Nat} {op : List Nt} {out : List (List Nt)} {b : Nat} (hf : 0 ≤ f) (h : (decodeR (rd i)).1.gen ≠ gen) : rep gen rd m f i op out b = (out, b) := by
  cases f with
  | zero => rfl
  | succ f =>
    rw [rep]
    split
    · simp only
      rw [if_pos (.inr (.inl h))]
    · rfl
/-! ### Back -/
theorem quiet_replay {D : Dv} {g : Nat} {ls : List (List Nt)} (h : Quiet D (fun k => (lay g 0 ls).getD k []) (total ls)) (hg : g ≤ 4611686018427387904) (hl : Goods ls) : replayD D (g : Int) = ((ls, total ls), 0) := by
  have hle := h.le
  unfold replayD
  rw [if_neg (by unfold badG; omega), h.dead, if_neg (by decide)]
  unfold replay
  rw [h.logN]
  have hr := rep_all (rd := fun i => sec D.now (10 + i)) (m := total ls) hg hle ls (21 - total ls) 0 [] 0 hl (fun k hk => by rw [Nat.zero_add]; exact h.rd k hk) (by omega)
  rw [show 21 - total ls + total ls = 21 by omega] at hr
  rw [hr, rep_over (by omega), List.nil_append]
  by_cases e : ls = []
  · subst e; rfl
  · rw [if_neg e, Nat.zero_add]
theorem quiet_other {D : Dv} {g : Nat} {ls : List (List Nt)} (h : Quiet D (fun k => (lay g 0 ls).getD k []) (total ls)) (hg : g ≤ 4611686018427387904) (hl : Goods ls) {o : Int} (ho : ¬ badG o) (hne : o ≠ (g : Int)) : replayD D o = (([], 0), 0) := by
  have hle := h.le
  unfold replayD
  rw [if_neg ho, h.dead, if_neg (by decide)]
  unfold replay
  rw [h.logN]
  by_cases q : 0 < total ls
  · have e : (decodeR (sec D.now (10 + 0))).1.gen = (g : Int) := by
      rw [h.rd 0 q]
      exact lay_at ls 0 (by omega) hg hl 0 q
    rw [rep_stop (by omega) (by rw [e]; exact fun q => hne q.symm)]
  · rw [rep_end0 (by omega)]
theorem Quiet.replayed {D : Dv} {rd : Nat → By} {n : Nat} (h : Quiet D rd n) (gen : Int) : Quiet (replayed D gen) rd n := ⟨replayed_ok h.ok gen, h.cap, h.dead, h.at_, h.pend, h.kept, h.len, h.rd, h.le⟩
theorem total_snoc (ls : List (List Nt)) (l : List Nt) : total (ls ++ [l]) = total ls + l.length + 1 := by simp [total]; omega
/-- what stands where: transactions of one generation, behind them what was there -/
def onto (g : Nat) (ls : List (List Nt)) (rd : Nat → By) : Nat → By := fun k => if k < total ls then (lay g 0 ls).getD k [] else rd k
theorem quiet_more {D : Dv} {rd : Nat → By} {n g : Nat} {ls : List (List Nt)} {l : List Nt} (h : Quiet D (onto g ls rd) n) (hg : g ≤ 4611686018427387904) (ha : total ls ≤ n) (hne : l ≠ []) (hl : total ls + l.length + 1 ≤ 20) (hm : ∀ x ∈ l, mayN x) :
    ∃ D', appendW D (g : Int) (total ls : Int) l = (D', ((total ls + l.length + 1 : Nat) : Int), 0) ∧ Quiet D' (onto g (ls ++ [l]) rd) (max n (total ls + l.length + 1)) := by
  obtain ⟨D', h1, h2⟩ := quiet_append h hg ha hne hl hm
  refine ⟨D', by rw [h1]; rfl, h2.as fun k hk => ?_⟩
  unfold over onto
  rw [total_snoc, lay_snoc, Nat.zero_add, txs_length]
  by_cases q : k < total ls
  · rw [if_neg (by omega), if_pos q, if_pos (by omega)]
    simp only [List.getD_eq_getElem?_getD]
    rw [List.getElem?_append_left (by rw [lay_length]; exact q)]
  · by_cases q2 : k < total ls + l.length + 1
    · rw [if_pos (by omega), if_pos q2]
      simp only [List.getD_eq_getElem?_getD]
      rw [List.getElem?_append_right (by rw [lay_length]; omega), lay_length]
    · rw [if_neg (by omega), if_neg q, if_neg q2]
theorem quiet_lay {D : Dv} {rd : Nat → By} {g : Nat} {ls : List (List Nt)} (h : Quiet D (onto g ls rd) (total ls)) : Quiet D (fun k => (lay g 0 ls).getD k []) (total ls) := h.as fun k hk => by unfold onto; rw [if_pos hk]
/-! ### Those that may be -/
def okT (a : Nat) (l : List Nt) : Prop := 0 < l.length ∧ l.length + a < 20 ∧ ∀ n ∈ l, n.kind = 1 ∧ mayM n.mem
instance (a : Nat) (l : List Nt) : Decidable (okT a l) := by unfold okT; infer_instance
def pick (r : List (List Nt) × Nat) (l : List Nt) : List (List Nt) × Nat := if okT r.2 l then (r.1 ++ [l], r.2 + l.length + 1) else r
def mayT (ls : List (List Nt)) : List (List Nt) × Nat := ls.foldl pick ([], 0)
theorem mayT_snoc (ls : List (List Nt)) (l : List Nt) : mayT (ls ++ [l]) = pick (mayT ls) l := by simp [mayT]
theorem may_okT {n : Nt} (h : n.kind = 1 ∧ mayM n.mem) : mayN n := by
  unfold mayN noteD
  rw [if_pos h.1, if_pos h.2]
  simp
theorem mayT_inv (P : List (List Nt) → Nat → Prop) (h0 : P [] 0) (hs : ∀ out a l, P out a → okT a l → P (out ++ [l]) (a + l.length + 1)) : ∀ (ls : List (List Nt)) (r : List (List Nt) × Nat), P r.1 r.2 → P (ls.foldl pick r).1 (ls.foldl pick r).2
  | [], r, h => h
  | l :: ls, r, h => by
    refine mayT_inv P h0 hs ls (pick r l) ?_
    unfold pick
    split
    · rename_i q
      exact hs _ _ _ h q
    · exact h
theorem mayT_fine (ls : List (List Nt)) : (mayT ls).2 = total (mayT ls).1 ∧ total (mayT ls).1 ≤ 20 ∧ ∀ l ∈ (mayT ls).1, l ≠ [] ∧ ∀ n ∈ l, mayN n := by
  refine mayT_inv (fun out a => a = total out ∧ total out ≤ 20 ∧ ∀ l ∈ out, l ≠ [] ∧ ∀ n ∈ l, mayN n) ⟨rfl, by simp [total], by simp⟩ ?_ ls ([], 0) ⟨rfl, by simp [total], by simp⟩
  rintro out a l ⟨h1, h2, h3⟩ ⟨q1, q2, q3⟩
  refine ⟨by rw [total_snoc]; omega, by rw [total_snoc]; omega, fun x hx => ?_⟩
  rcases List.mem_append.1 hx with q | q
  · exact h3 x q
  · rw [List.mem_singleton.1 q]
    refine ⟨fun e => ?_, fun n hn => may_okT (q3 n hn)⟩
    rw [e] at q1
    exact absurd q1 (by decide)
theorem mayT_mem (ls : List (List Nt)) : ∀ l ∈ (mayT ls).1, l ∈ ls := by
  have h : ∀ (xs : List (List Nt)) (r : List (List Nt) × Nat), ∀ l ∈ (xs.foldl pick r).1, l ∈ r.1 ∨ l ∈ xs := by
    intro xs
    induction xs with
    | nil => intro r l h; exact .inl h
    | cons x xs ih =>
      intro r l h
      rcases ih (pick r x) l h with q | q
      · unfold pick at q
        split at q
        · rcases List.mem_append.1 q with q | q
          · exact .inl q
          · rw [List.mem_singleton.1 q]; exact .inr (by simp)
        · exact .inl q
      · exact .inr (by simp [q])
  intro l hl
  exact (h ls ([], 0) l hl).resolve_left (by simp)
end Go.Proofs.Ytlpnoogcdnfllaa.Wal
/- wal: what the statements begin with. -/
namespace Go.Proofs.Ytlpnoogcdnfllaa
set_option linter.unnecessarySimpa false
open Go.RowKit Rec Pth Dsk Wal
set_option linter.unusedVariables false
set_option linter.unusedSimpArgs false

/-! ### Calls on a device between appends -/
theorem append_q {D : Dv} {rd : Nat → List UInt8} {n g k : Nat} {ls : List (List Nt)} {l : List Nt} (hq : Quiet D (onto g ls rd) n) (hsm : Sm D k) (hk : k ≤ 800000) (hg : g ≤ 4611686018427387904) (ha : total ls ≤ n) (hne : l ≠ []) (hl : total ls + l.length + 1 ≤ 20) (hm : ∀ x ∈ l, mayN x) (hok : ∀ n ∈ l, n.mem.Ok)
    (B b : Nat) (A : Option Addr) (c C : Nat) (w : World) (h : DevAt w B b D) (hs : Sl w C A (ntsV l)) :
    Ret Try.prog 16 [.pointer (some ⟨b, 0, none⟩), .int .i64 (g : Int), .int .i64 (total ls : Int), .slice A l.length c] w fun v w' => v = .tuple #[.int .i64 ((total ls + l.length + 1 : Nat) : Int), .int .i64 0] ∧ Tm w w' B dty ∧ ∃ D', Quiet D' (onto g (ls ++ [l]) rd) (max n (total ls + l.length + 1)) ∧ Sm D' (k + 21) ∧ DevAt w' B b D' := by
  obtain ⟨D', h1, h2⟩ := quiet_more hq hg ha hne hl hm
  have c := append_s hq.ok hsm (by omega) B b (g : Int) (total ls : Int) (by omega) (by omega) (by omega) (by omega) l (by omega) hok A c C w h hs
  have h3 := append_sm hsm (g : Int) (total ls : Int) l
  rw [h1] at c h3
  exact c.mono fun v w' ⟨q1, q2, q3⟩ => ⟨q1, q3, D', h2, h3, q2⟩
theorem replay_q {D : Dv} {rd : Nat → List UInt8} {g k : Nat} {ls : List (List Nt)} (hq : Quiet D (onto g ls rd) (total ls)) (hsm : Sm D k) (hk : k ≤ 800000) (hg : g ≤ 4611686018427387904) (hl : Goods ls) (B b : Nat) (w : World) (h : DevAt w B b D) :
    Ret Try.prog 10 [.pointer (some ⟨b, 0, none⟩), .int .i64 (g : Int)] w fun v w' => Found w' w.heap.size (ls, total ls) 0 v ∧ Tm w w' B dty ∧ ∃ D', Quiet D' (onto g ls rd) (total ls) ∧ Sm D' (k + 21) ∧ DevAt w' B b D' := by
  have c := replay_s hq.ok hsm (by omega) B b (g : Int) w h
  rw [quiet_replay (quiet_lay hq) hg hl] at c
  exact c.mono fun v w' ⟨q1, q2, q3⟩ => ⟨q1, q3, _, hq.replayed _, replayed_sm hsm _, q2⟩
theorem replay_o {D : Dv} {rd : Nat → List UInt8} {g k : Nat} {ls : List (List Nt)} (hq : Quiet D (onto g ls rd) (total ls)) (hsm : Sm D k) (hk : k ≤ 800000) (hg : g ≤ 4611686018427387904) (hl : Goods ls) {o : Int} (ho : ¬ badG o) (hne : o ≠ (g : Int)) (B b : Nat) (w : World) (h : DevAt w B b D) :
    Ret Try.prog 10 [.pointer (some ⟨b, 0, none⟩), .int .i64 o] w fun v w' => Found w' w.heap.size ([], 0) 0 v ∧ Tm w w' B dty ∧ ∃ D', Quiet D' (onto g ls rd) (total ls) ∧ Sm D' (k + 21) ∧ DevAt w' B b D' := by
  have c := replay_s hq.ok hsm (by omega) B b o w h
  rw [quiet_other (quiet_lay hq) hg hl ho hne] at c
  exact c.mono fun v w' ⟨q1, q2, q3⟩ => ⟨q1, q3, _, hq.replayed _, replayed_sm hsm _, q2⟩
/-! ### The example -/
def aN : Nt := ⟨1, ⟨[97], 30, 2, 5, 1⟩⟩
theorem aN_may : mayN aN := may_okT ⟨rfl, by decide +kernel⟩
theorem aN_ok : aN.mem.Ok := ⟨by decide, by decide⟩
theorem put_s (w : World) : Ret Try.prog 27 [] w fun v w' => v = .agg (List.toArray aN.cells) ∧ Ext w w' := by
  refine Ret.enter Try.func27 rfl Try.ntmps27 (by kernel_rfl) rfl ?_
  refine KW.seq (KW.region ?_)
  refine OW.allocB (l := [.int .i64 0, str [], .int .i64 0, .int .i64 0, .int .i64 0, .int .u32 0]) rfl rfl ti69 rfl ?_
  rintro rb w1 hge1 hr1 hx1
  refine OW.nil ?_
  refine KW.seq (KW.region ?_)
  refine OW.val rfl rfl (EX.buildS (pl := [(0, 1), (1, 1), (2, 1), (3, 1), (4, 1)]) (ks := [0, 1, 2, 3, 4]) (is := [0, 1, 2, 3, 4]) (zs := [str [], .int .i64 0, .int .i64 0, .int .i64 0, .int .u32 0]) Try.underlying67 ti67 (by kernel_rfl) rfl rfl rfl (by first | rfl | (simp only [List.all_cons, List.all_nil, Bool.and_true, Bool.true_and, Bool.and_eq_true, Value.oneCell']; repeat (first | assumption | exact Own.one (by assumption) | constructor))) (by simp only [setAll, List.set_cons_zero, List.set_cons_succ]; rfl)) ?_
  refine OW.val rfl rfl (EX.buildG (pl := [(0, 1), (1, 5)]) (ks := [0, 1]) (zs := [.int .i64 0, str [], .int .i64 0, .int .i64 0, .int .i64 0, .int .u32 0]) Try.underlying69 ti69 (by kernel_rfl) rfl rfl rfl) ?_
  refine OW.storeS rfl ti69 rfl rfl rfl (by first | rfl | (simp only [List.all_cons, List.all_nil, Bool.and_true, Bool.true_and, Bool.and_eq_true, Value.oneCell']; repeat (first | assumption | exact Own.one (by assumption) | constructor))) (hr1) (Nat.le_refl _) ?_
  rintro w2 hr2 hm2
  refine OW.nil ?_
  refine KW.ret (retC1 rfl Try.underlying69 rfl ti69 rfl (hr2) rfl ?_)
  exact ⟨rfl, below_mo hx1 hm2 hx1.size (fun k hk => by simp at hk; omega)⟩
theorem quiet_start : Quiet (fresh 40 []) (onto 5 [] fun _ => []) 0 := Quiet.fresh _
theorem fresh_sm : Sm (fresh 40 []) 0 := ⟨Nat.le_refl _, Nat.le_refl _, Nat.zero_le _, Nat.zero_le _⟩
theorem may40 : Dsk.may 40 [] := by refine ⟨?_, ?_, ?_, ?_⟩ <;> decide
theorem new40 (w : World) : Ret Try.prog 20 [.int .i64 40] w fun v w' => Ext w w' ∧ ∃ b, v = .tuple #[.pointer (some ⟨b, 0, none⟩), .int .i64 0] ∧ DevAt w' w.heap.size b (fresh 40 []) :=
  (new_s 40 (by decide) (by decide) w).mono fun v w' ⟨p, e, h1, h2, h3⟩ => ⟨h2, by
    rcases h3 with ⟨q, _⟩ | ⟨_, b, h4, h5, h6⟩
    · exact absurd may40 q
    · exact ⟨b, by rw [h1, h4, h5]; rfl, h6⟩⟩
set_option maxRecDepth 20000 in
theorem awake_s (w : World) : Ret Try.prog 7 [] w fun v w' => v = .bool true ∧ Ext w w' := by
  refine Ret.enter Try.func7 rfl Try.ntmps7 (by kernel_rfl) rfl ?_
  refine KW.seq (KW.region ?_)
  refine OW.val rfl rfl (EX.assign rfl) ?_
  refine OW.nil ?_
  refine KW.seq (KW.region ?_)
  refine OW.call rfl rfl rfl (new40 w) ?_
  rintro _ w1 ⟨hx1, b, rfl, hdev1⟩
  refine OW.val rfl rfl (EX.move rfl) ?_
  refine OW.val rfl rfl (EX.extract rfl rfl) ?_
  refine OW.val rfl rfl (EX.extract rfl rfl) ?_
  refine OW.val rfl rfl (EX.assign rfl) ?_
  refine OW.val rfl rfl (EX.assign rfl) ?_
  refine OW.nil ?_
  refine KW.seq (KW.seq ?_)
  refine KW.region ?_
  refine OW.val rfl rfl (EX.move rfl) ?_
  refine OW.val rfl rfl (by first | exact EX.neqN (b := 0) rfl rfl | exact EX.neqZ rfl rfl) ?_
  refine OW.val rfl rfl (EX.move rfl) ?_
  refine OW.as 17 (.bool false) rfl (congrArg Value.bool (decide_eq_false (by simp))) ?_
  refine OW.val rfl rfl (EX.move rfl) ?_
  refine OW.val rfl rfl (by first | exact EX.eqlP1 Try.underlying26 rfl rfl | exact EX.eqlP0 Try.underlying26 rfl rfl) ?_
  refine OW.val rfl rfl (EX.pickF rfl rfl) ?_
  refine OW.nil ?_
  refine KW.condF rfl (KW.skip (KW.seq (KW.region ?_)))
  refine OW.val rfl rfl (EX.move rfl) ?_
  refine OW.call rfl rfl rfl (put_s w1) ?_
  rintro _ w2 ⟨rfl, hx2⟩
  refine OW.buildG 1 ([aN.cells]) rfl rfl Try.underlying48 ti69 rfl (by decide) rfl rfl rfl (by repeat' (first | exact List.forall_mem_nil _ | refine List.forall_mem_cons.2 ⟨rfl, ?_⟩)) (by decide) ?_
  rintro sb w3 hge3 hs3 hx3
  replace hs3 : Bk w3 sb 69 (ntsV [aN]) := hs3
  have x3 := (hx1.trans hx2).trans hx3
  have sl3 : Sl w3 w3.heap.size (some ⟨sb, 0, none⟩) (ntsV [aN]) := hs3.sl
  have ca := append_q (ls := []) (l := [aN]) quiet_start fresh_sm (by decide) (by decide) (Nat.zero_le _) (by simp) (by decide) (fun x hx => by rw [List.mem_singleton.1 hx]; exact aN_may) (fun x hx => by rw [List.mem_singleton.1 hx]; exact aN_ok) w.heap.size b (some ⟨sb, 0, none⟩) 1 _ w3 ((hdev1.ext hx2).ext hx3) sl3
  refine OW.call rfl rfl rfl (ca) ?_
  rintro _ w4 ⟨rfl, tm4, D4, q4, sm4, hdev4⟩
  refine OW.val rfl rfl (EX.move rfl) ?_
  refine OW.val rfl rfl (EX.extract rfl rfl) ?_
  refine OW.val rfl rfl (EX.extract rfl rfl) ?_
  refine OW.val rfl rfl (EX.assign rfl) ?_
  refine OW.val rfl rfl (EX.assign rfl) ?_
  refine OW.nil ?_
  refine KW.seq (KW.region ?_)
  refine OW.val rfl rfl (EX.move rfl) ?_
  have g4 : Goods [[aN]] := fun l hl => by
    rw [List.mem_singleton.1 hl]
    exact ⟨fun x hx => by rw [List.mem_singleton.1 hx]; exact ⟨aN_may, by decide⟩, by simp⟩
  replace q4 : Quiet D4 (onto 5 [[aN]] fun _ => []) (total [[aN]]) := q4
  have x4 : Ext w w4 := Tm.below x3 tm4 x3.size (Nat.le_refl _)
  have c5 := replay_q q4 sm4 (by decide) (by decide) g4 w.heap.size b w4 hdev4
  refine OW.call rfl rfl rfl (c5) ?_
  rintro _ w5 ⟨⟨v5, vs5, rfl, own5, tx5⟩, tm5, D5, q5, sm5, hdev5⟩
  refine OW.val rfl rfl (EX.move rfl) ?_
  refine OW.val rfl rfl (EX.extract rfl rfl) ?_
  refine OW.val rfl rfl (EX.extract rfl rfl) ?_
  refine OW.val rfl rfl (EX.extract rfl rfl) ?_
  refine OW.val rfl rfl (EX.assign rfl) ?_
  refine OW.val rfl rfl (EX.assign rfl) ?_
  refine OW.val rfl rfl (EX.assign rfl) ?_
  refine OW.nil ?_
  refine KW.seq (KW.region ?_)
  refine OW.val rfl rfl (EX.move rfl) ?_
  have x5 : Ext w w5 := Tm.below x4 tm5 x4.size (Nat.le_refl _)
  have c6 := replay_o q5 sm5 (by decide) (by decide) g4 (o := 4) (by decide) (by decide) w.heap.size b w5 hdev5
  refine OW.call rfl rfl rfl (c6) ?_
  rintro _ w6 ⟨⟨v6, vs6, rfl, own6, tx6⟩, tm6, D6, q6, sm6, hdev6⟩
  refine OW.val rfl rfl (EX.move rfl) ?_
  refine OW.val rfl rfl (EX.extract rfl rfl) ?_
  refine OW.val rfl rfl (EX.extract rfl rfl) ?_
  refine OW.val rfl rfl (EX.extract rfl rfl) ?_
  refine OW.val rfl rfl (EX.assign rfl) ?_
  refine OW.val rfl rfl (EX.assign rfl) ?_
  refine OW.val rfl rfl (EX.assign rfl) ?_
  refine OW.nil ?_
  refine KW.seq ?_
  have x6 : Ext w w6 := Tm.below x5 tm6 x5.size (Nat.le_refl _)
  have own56 := tm6.own own5 (by decide)
  have tx56 := tx5.tm tm6 (by decide)
  obtain ⟨A5, c5, rfl, _, sl5⟩ := own56.slice
  obtain ⟨A6, c6, rfl, _, _⟩ := own6.slice
  refine KW.region ?_
  refine OW.val rfl rfl (EX.move rfl) ?_
  refine OW.val rfl rfl (by first | exact EX.eqlN (b := 2) rfl rfl | exact EX.eqlZ rfl rfl) ?_
  refine OW.val rfl rfl (EX.move rfl) ?_
  refine OW.as 42 (.bool true) rfl (congrArg Value.bool (decide_eq_true (rfl))) ?_
  refine OW.val rfl rfl (EX.move rfl) ?_
  refine OW.val rfl rfl (by first | exact EX.eqlN (b := 0) rfl rfl | exact EX.eqlZ rfl rfl) ?_
  refine OW.val rfl rfl (EX.pickT rfl rfl) ?_
  refine OW.val rfl rfl (EX.move rfl) ?_
  refine OW.as 46 (.bool true) rfl (congrArg Value.bool (decide_eq_true (rfl))) ?_
  refine OW.val rfl rfl (EX.move rfl) ?_
  refine OW.call rfl rfl rfl (len_d hdev6 q6.ok) ?_
  rintro _ _ ⟨rfl, rfl⟩
  refine OW.val rfl rfl (by first | exact EX.eqlN (b := 12) rfl rfl | exact EX.eqlZ rfl rfl) ?_
  refine OW.val rfl rfl (EX.pickT rfl rfl) ?_
  refine OW.val rfl rfl (EX.move rfl) ?_
  have l6 := q6.len
  rw [if_neg (by decide)] at l6
  have l6' : D6.now.length / 512 = 12 := by rw [l6]; decide
  refine OW.as 51 (.bool true) rfl (congrArg Value.bool (decide_eq_true (by omega))) ?_
  refine OW.val rfl rfl (EX.move rfl) ?_
  refine OW.call rfl rfl rfl (put_s w6) ?_
  rintro _ w7 ⟨rfl, hx7⟩
  refine OW.buildG 1 ([aN.cells]) rfl rfl Try.underlying48 ti69 rfl (by decide) rfl rfl rfl (by repeat' (first | exact List.forall_mem_nil _ | refine List.forall_mem_cons.2 ⟨rfl, ?_⟩)) (by decide) ?_
  rintro nb w8 hge8 hn8 hx8
  replace hn8 : Bk w8 nb 69 (ntsV [aN]) := hn8
  refine OW.buildB 1 rfl rfl Try.underlying22 ti48 rfl rfl rfl rfl (by first | rfl | (simp only [List.all_cons, List.all_nil, Bool.and_true, Bool.and_eq_true]; assumption)) (by decide) ?_
  rintro tb w9 hge9 ht9 hx9
  have x9 := ((x6.trans hx7).trans hx8).trans hx9
  have t9 : TxS w9 w9.heap.size [.slice (some ⟨nb, 0, none⟩) 1 1] [[aN]] := ⟨⟨_, _, rfl, (hn8.ext hx9).sl⟩, trivial⟩
  have cs := same_s [[aN]] [[aN]] vs5 _ A5 (some ⟨tb, 0, none⟩) c5 1 w9 _ _ _ _ (((sl5.ext hx7).ext hx8).ext hx9) ht9.sl (((tx56.txs.ext hx7).ext hx8).ext hx9) t9 (by decide) (fun l hl => by rw [List.mem_singleton.1 hl]; decide)
  refine OW.call rfl rfl rfl (cs) ?_
  rintro _ w10 ⟨rfl, hx10⟩
  refine OW.val rfl rfl (EX.pickT rfl rfl) ?_
  refine OW.val rfl rfl (EX.move rfl) ?_
  refine OW.as 58 (.bool true) rfl (congrArg Value.bool (decide_eq_true (rfl))) ?_
  refine OW.val rfl rfl (EX.move rfl) ?_
  refine OW.val rfl rfl (by first | exact EX.eqlN (b := 2) rfl rfl | exact EX.eqlZ rfl rfl) ?_
  refine OW.val rfl rfl (EX.pickT rfl rfl) ?_
  refine OW.val rfl rfl (EX.move rfl) ?_
  refine OW.as 62 (.bool true) rfl (congrArg Value.bool (decide_eq_true (rfl))) ?_
  refine OW.val rfl rfl (EX.move rfl) ?_
  refine OW.val rfl rfl (by first | exact EX.eqlN (b := 0) rfl rfl | exact EX.eqlZ rfl rfl) ?_
  refine OW.val rfl rfl (EX.pickT rfl rfl) ?_
  refine OW.val rfl rfl (EX.move rfl) ?_
  refine OW.as 66 (.bool true) rfl (congrArg Value.bool (decide_eq_true (rfl))) ?_
  refine OW.val rfl rfl (EX.move rfl) ?_
  refine OW.val rfl rfl (EX.lenA Try.underlying22 rfl) ?_
  refine OW.val rfl rfl (by first | exact EX.eqlN (b := 0) rfl rfl | exact EX.eqlZ rfl rfl) ?_
  refine OW.val rfl rfl (EX.pickT rfl rfl) ?_
  refine OW.val rfl rfl (EX.move rfl) ?_
  refine OW.as 71 (.bool true) rfl (congrArg Value.bool (decide_eq_true (rfl))) ?_
  refine OW.val rfl rfl (EX.move rfl) ?_
  refine OW.val rfl rfl (by first | exact EX.eqlN (b := 0) rfl rfl | exact EX.eqlZ rfl rfl) ?_
  refine OW.val rfl rfl (EX.pickT rfl rfl) ?_
  refine OW.val rfl rfl (EX.move rfl) ?_
  refine OW.as 75 (.bool true) rfl (congrArg Value.bool (decide_eq_true (rfl))) ?_
  refine OW.val rfl rfl (EX.move rfl) ?_
  refine OW.val rfl rfl (by first | exact EX.eqlN (b := 0) rfl rfl | exact EX.eqlZ rfl rfl) ?_
  refine OW.val rfl rfl (EX.pickT rfl rfl) ?_
  refine OW.val rfl rfl (EX.assign rfl) ?_
  refine OW.nil ?_
  refine KW.ret (ret1 rfl rfl ?_)
  exact ⟨rfl, x9.trans hx10⟩
end Go.Proofs.Ytlpnoogcdnfllaa
/- wal: transactions that may be, and devices that hold them. -/
namespace Go.Proofs.Ytlpnoogcdnfllaa
set_option linter.unnecessarySimpa false
open Go.RowKit Rec Pth Dsk Wal
set_option linter.unusedVariables false
set_option linter.unusedSimpArgs false

theorem pick_yes {r : List (List Nt) × Nat} {l : List Nt} (h : okT r.2 l) : Wal.pick r l = (r.1 ++ [l], r.2 + l.length + 1) := by unfold Wal.pick; rw [if_pos h]
theorem pick_no {r : List (List Nt) × Nat} {l : List Nt} (h : ¬ okT r.2 l) : Wal.pick r l = r := by unfold Wal.pick; rw [if_neg h]
set_option maxRecDepth 20000 in
theorem may_s (ls : List (List Nt)) (hl : ls.length ≤ 100) (hb : ∀ l ∈ ls, l.length ≤ 140737488355328) (hok : ∀ l ∈ ls, ∀ n ∈ l, n.mem.Ok) (vs : List Value) (A : Option Addr) (c B C : Nat) (w : World) (hs : Sl w B A vs) (ht : TxS w C vs ls) :
    Ret Try.prog 8 [.slice A ls.length c] w fun v w' => (∃ vo vs', v = .tuple #[vo, .int .i64 (((mayT ls).2 : Nat) : Int)] ∧ Own w' w.heap.size 48 1 vo (mayT ls).1.length vs' ∧ TxS w' C vs' (mayT ls).1) ∧ Ext w w' := by
  have el := ht.len
  refine Ret.enter Try.func8 rfl Try.ntmps8 (by kernel_rfl) rfl ?_
  refine KW.seq (KW.region ?_)
  refine OW.val rfl rfl (EX.assign rfl) ?_
  refine OW.val rfl rfl (EX.assign rfl) ?_
  refine OW.nil ?_
  refine KW.seq (KW.region ?_)
  refine OW.val rfl rfl (EX.assign rfl) ?_
  refine OW.nil ?_
  refine KW.seq (KW.region ?_)
  refine OW.val rfl rfl (EX.assign rfl) ?_
  refine OW.nil ?_
  refine KW.seq (KW.seq (KW.region ?_))
  refine OW.val rfl rfl (EX.assign rfl) ?_
  refine OW.nil ?_
  refine KW.block ?_
  refine KW.loop3 (fun (i : Nat) (vo : Value) (wr : World) => i ≤ ls.length ∧ (mayT (ls.take i)).1.length ≤ i ∧ Ext w wr ∧ ∃ vs', Own wr w.heap.size 48 1 vo (mayT (ls.take i)).1.length vs' ∧ TxS w C vs' (mayT (ls.take i)).1) (fun (i : Nat) (vo : Value) (wr : World) => [(0, .slice A ls.length c), (4, vo), (5, .int .i64 (((mayT (ls.take i)).2 : Nat) : Int)), (6, .int .i64 ((i : Nat) : Int))]) (fun (i : Nat) (vo : Value) (wr : World) => wr) (fun (i : Nat) (vo : Value) (wr : World) => ls.length - i) (0) (.slice none 0 0) (w) ⟨rfl, rfl, rfl, rfl, trivial⟩ rfl ?_ ?_
  · exact ⟨by omega, Nat.le_refl _, Ext.refl _, [], Own.nil _ _ _ _, trivial⟩
  · rintro i vo wr ⟨hi, hml, hx, vs', hown, htx⟩
    refine KW.seq (KW.seq (KW.region ?_))
    refine OW.val rfl rfl (EX.move rfl) ?_
    refine OW.val rfl rfl (EX.move rfl) ?_
    refine OW.val rfl rfl (EX.lenA Try.underlying22 rfl) ?_
    refine OW.val rfl rfl (by first | exact EX.lssN rfl rfl | exact EX.lssZ rfl rfl) ?_
    refine OW.nil ?_
    refine KW.condD rfl (fun hlt => ?_) (fun hlt => ?_)
    · have hsn : ls.take (i + 1) = ls.take i ++ [ls[i]] := (List.take_append_getElem hlt).symm
      obtain ⟨a1, c1, g1, s0⟩ := ht.at_ i hlt
      have s1 := s0.ext hx
      have hli := hb ls[i] (List.getElem_mem hlt)
      have hoi := hok ls[i] (List.getElem_mem hlt)
      have hma := (mayT_fine (ls.take i)).2.1
      rw [← (mayT_fine (ls.take i)).1] at hma
      have hms := mayT_snoc (ls.take i) ls[i]
      rw [← hsn] at hms
      generalize ls[i] = l at g1 s0 s1 hli hoi hms
      generalize hr : mayT (ls.take i) = r at hml hown htx hma hms
      obtain ⟨b0, o0, rfl, _, hc0⟩ := (hs.ext hx).at_ (by omega)
      have hcW : ∀ wq, Ext wr wq → ∀ j u, vs[j]? = some u → wq.cell? ⟨b0, o0 + j, none⟩ = some u := by
        intro wq hxq
        obtain ⟨b1', o1', e', _, hc⟩ := ((hs.ext hx).ext hxq).at_ (by omega)
        cases e'
        exact hc
      refine KW.skip (KW.seq (KW.block (KW.seq ?_)))
      refine KW.cut1 (fun (_u : Unit) => True) (fun (_u : Unit) => [(0, .slice (some ⟨b0, o0, none⟩) ls.length c), (4, vo), (5, .int .i64 ((r.2 : Nat) : Int)), (6, .int .i64 ((i : Nat) : Int)), (7, .bool (decide ((0 < l.length ∧ l.length + r.2 < 20))))]) (fun (_u : Unit) => wr) ?_ ?_
      · refine KW.region ?_
        refine OW.val rfl rfl (EX.move rfl) ?_
        refine OW.val rfl rfl (EX.move rfl) ?_
        refine OW.val rfl rfl (by first | exact EX.indexAddrS0 Try.underlying22 ti48 rfl rfl (by omega) | exact EX.indexAddrS1 Try.underlying22 ti48 rfl rfl (by omega)) ?_
        refine OW.val rfl rfl (EX.load Try.underlying48 rfl rfl (hc0 i _ g1)) ?_
        refine OW.val rfl rfl (EX.lenA Try.underlying48 rfl) ?_
        refine OW.val rfl rfl (by first | exact EX.gtrN (b := 0) rfl rfl | exact EX.gtrZ rfl rfl) ?_
        refine OW.val rfl rfl (EX.move rfl) ?_
        refine OW.splitD 21 rfl (fun p1 => ?_) (fun p1 => ?_)
        · refine OW.val rfl rfl (EX.move rfl) ?_
          refine OW.val rfl rfl (EX.move rfl) ?_
          refine OW.val rfl rfl (by first | exact EX.indexAddrS0 Try.underlying22 ti48 rfl rfl (by omega) | exact EX.indexAddrS1 Try.underlying22 ti48 rfl rfl (by omega)) ?_
          refine OW.val rfl rfl (EX.load Try.underlying48 rfl rfl (hc0 i _ g1)) ?_
          refine OW.val rfl rfl (EX.lenA Try.underlying48 rfl) ?_
          refine OW.val rfl rfl (EX.move rfl) ?_
          refine OW.val rfl rfl (by first | exact EX.subN (a := 20) (m := 9223372036854775807) rfl rfl rfl (by omega) | exact EX.subZ (m := 9223372036854775807) rfl rfl rfl rfl (by omega)) ?_
          refine OW.val rfl rfl (by first | exact EX.lssN rfl rfl | exact EX.lssZ rfl rfl) ?_
          refine OW.val rfl rfl (EX.pickT rfl rfl) ?_
          refine OW.val rfl rfl (EX.assign rfl) ?_
          refine OW.nil ?_
          refine KW.as 7 (.bool (decide ((0 < l.length ∧ l.length + r.2 < 20)))) rfl (congrArg Value.bool (decide_eq_decide.2 (by omega))) ?_
          refine KW.meet1 (()) ⟨rfl, rfl, rfl, rfl, rfl, trivial⟩ rfl ?_
          trivial
        · refine OW.pass rfl rfl ?_
          refine OW.pass rfl rfl ?_
          refine OW.pass rfl rfl ?_
          refine OW.pass rfl rfl ?_
          refine OW.pass rfl rfl ?_
          refine OW.pass rfl rfl ?_
          refine OW.pass rfl rfl ?_
          refine OW.pass rfl rfl ?_
          refine OW.val rfl rfl (EX.pickF rfl rfl) ?_
          refine OW.val rfl rfl (EX.assign rfl) ?_
          refine OW.nil ?_
          refine KW.as 7 (.bool (decide ((0 < l.length ∧ l.length + r.2 < 20)))) rfl (congrArg Value.bool (decide_eq_false (by omega)).symm) ?_
          refine KW.meet1 (()) ⟨rfl, rfl, rfl, rfl, rfl, trivial⟩ rfl ?_
          trivial
      · rintro _ _
        refine KW.seq (KW.seq (KW.region ?_))
        refine OW.val rfl rfl (EX.assign rfl) ?_
        refine OW.nil ?_
        refine KW.cut1 (fun (wq : World) => Ext wr wq) (fun (wq : World) => [(0, .slice (some ⟨b0, o0, none⟩) ls.length c), (4, vo), (5, .int .i64 ((r.2 : Nat) : Int)), (6, .int .i64 ((i : Nat) : Int)), (7, .bool (decide (okT r.2 l)))]) (fun (wq : World) => wq) ?_ ?_
        · refine KW.block ?_
          refine KW.loop3 (fun (k : Nat) (q : Bool) (wq : World) => k ≤ l.length ∧ (q = true ↔ (0 < l.length ∧ l.length + r.2 < 20 ∧ ∀ n ∈ l.take k, n.kind = 1 ∧ mayM n.mem)) ∧ Ext wr wq) (fun (k : Nat) (q : Bool) (wq : World) => [(0, .slice (some ⟨b0, o0, none⟩) ls.length c), (4, vo), (5, .int .i64 ((r.2 : Nat) : Int)), (6, .int .i64 ((i : Nat) : Int)), (7, .bool q), (8, .int .i64 ((k : Nat) : Int))]) (fun (k : Nat) (q : Bool) (wq : World) => wq) (fun (k : Nat) (q : Bool) (wq : World) => l.length - k) (0) (decide (0 < l.length ∧ l.length + r.2 < 20)) (wr) ⟨rfl, rfl, rfl, rfl, rfl, rfl, trivial⟩ rfl ?_ ?_
          · exact ⟨by omega, by simp, Ext.refl _⟩
          · rintro k q wq ⟨hk, hq, hxq⟩
            have hc1 := hcW wq hxq
            refine KW.seq (KW.seq ?_)
            refine KW.region ?_
            refine OW.val rfl rfl (EX.move rfl) ?_
            refine OW.val rfl rfl (EX.move rfl) ?_
            refine OW.val rfl rfl (EX.move rfl) ?_
            refine OW.val rfl rfl (by first | exact EX.indexAddrS0 Try.underlying22 ti48 rfl rfl (by omega) | exact EX.indexAddrS1 Try.underlying22 ti48 rfl rfl (by omega)) ?_
            refine OW.val rfl rfl (EX.load Try.underlying48 rfl rfl (hc1 i _ g1)) ?_
            refine OW.val rfl rfl (EX.lenA Try.underlying48 rfl) ?_
            refine OW.val rfl rfl (by first | exact EX.lssN rfl rfl | exact EX.lssZ rfl rfl) ?_
            refine OW.val rfl rfl (EX.move rfl) ?_
            refine OW.splitD 38 rfl (fun p2 => ?_) (fun p2 => ?_)
            · refine OW.val rfl rfl (EX.move rfl) ?_
              refine OW.val rfl rfl (EX.pickT rfl rfl) ?_
              refine OW.nil ?_
              refine KW.cond rfl (fun p3 => ?_) (fun p3 => ?_)
              · obtain ⟨b3, o3, rfl, _, hd1⟩ := (s1.ext hxq).flat (c := 6) (fun _ => rfl) (by decide) p2
                have hkt : l.take (k + 1) = l.take k ++ [l[k]] := (List.take_append_getElem p2).symm
                have hnk := hoi l[k] (List.getElem_mem p2)
                generalize l[k] = n at hd1 hkt hnk
                refine KW.skip (KW.seq (KW.block ?_))
                refine KW.region ?_
                refine OW.val rfl rfl (EX.move rfl) ?_
                refine OW.val rfl rfl (EX.move rfl) ?_
                refine OW.val rfl rfl (by first | exact EX.indexAddrS0 Try.underlying22 ti48 rfl rfl (by omega) | exact EX.indexAddrS1 Try.underlying22 ti48 rfl rfl (by omega)) ?_
                refine OW.val rfl rfl (EX.load Try.underlying48 rfl rfl (hc1 i _ g1)) ?_
                refine OW.val rfl rfl (EX.move rfl) ?_
                refine OW.val rfl rfl (EX.indexAddrS Try.underlying48 ti69 rfl rfl (by omega)) ?_
                refine OW.val rfl rfl (EX.fieldAddr (off := 0) Try.underlying69 rfl rfl ti3 rfl rfl) ?_
                refine OW.val rfl rfl (EX.load Try.underlying3 rfl rfl (hd1 0 _ rfl)) ?_
                refine OW.val rfl rfl (by first | exact EX.eqlN (b := 1) rfl rfl | exact EX.eqlZ rfl rfl) ?_
                refine OW.val rfl rfl (EX.move rfl) ?_
                refine OW.splitD 52 rfl (fun p4 => ?_) (fun p4 => ?_)
                · have p4' : n.kind = 1 := p4
                  refine OW.val rfl rfl (EX.move rfl) ?_
                  refine OW.val rfl rfl (EX.move rfl) ?_
                  refine OW.val rfl rfl (by first | exact EX.indexAddrS0 Try.underlying22 ti48 rfl rfl (by omega) | exact EX.indexAddrS1 Try.underlying22 ti48 rfl rfl (by omega)) ?_
                  refine OW.val rfl rfl (EX.load Try.underlying48 rfl rfl (hc1 i _ g1)) ?_
                  refine OW.val rfl rfl (EX.move rfl) ?_
                  refine OW.val rfl rfl (EX.indexAddrS Try.underlying48 ti69 rfl rfl (by omega)) ?_
                  refine OW.val rfl rfl (EX.fieldAddr (off := 1) Try.underlying69 rfl rfl ti67 rfl rfl) ?_
                  refine OW.val rfl rfl (EX.loadA (l := n.mem.cells) Try.underlying67 rfl ti67 rfl rfl (fun j u hj => by rw [Nat.add_assoc, Nat.add_comm 1 j]; exact hd1 (j + 1) u hj)) ?_
                  refine OW.call rfl rfl rfl (checkM_s n.mem hnk wq) ?_
                  rintro _ w2 ⟨rfl, hx2⟩
                  refine OW.val rfl rfl (by first | exact EX.eqlN (b := 0) rfl rfl | exact EX.eqlZ rfl rfl) ?_
                  refine OW.val rfl rfl (EX.pickT rfl rfl) ?_
                  refine OW.val rfl rfl (EX.assign rfl) ?_
                  refine OW.nil ?_
                  refine KW.leave (KW.region ?_)
                  refine OW.val rfl rfl (EX.move rfl) ?_
                  refine OW.val rfl rfl (by first | exact EX.addN (b := 1) (m := 9223372036854775807) rfl rfl rfl (by omega) | exact EX.addZ (m := 9223372036854775807) rfl rfl rfl rfl (by omega)) ?_
                  refine OW.val rfl rfl (EX.assign rfl) ?_
                  refine OW.nil ?_
                  refine KW.back3 (k + 1) (decide (checkM n.mem = 0)) (w2) ⟨rfl, rfl, rfl, rfl, rfl, rfl, trivial⟩ rfl ?_ (by omega)
                  refine ⟨by omega, ?_, hxq.trans hx2⟩
                  rw [hkt]
                  have hcm : checkM n.mem = 0 ↔ mayM n.mem := by unfold checkM; split <;> simp [*]
                  have hq2 := hq.1 p3
                  rw [decide_eq_true_eq]
                  constructor
                  · intro z
                    refine ⟨hq2.1, hq2.2.1, fun x hx' => ?_⟩
                    rcases List.mem_append.1 hx' with z1 | z1
                    · exact hq2.2.2 x z1
                    · rw [List.mem_singleton.1 z1]; exact ⟨p4', hcm.1 (by omega)⟩
                  · intro z
                    have := hcm.2 (z.2.2 n (by simp)).2
                    omega
                · have p4' : ¬ n.kind = 1 := p4
                  refine OW.pass rfl rfl ?_
                  refine OW.pass rfl rfl ?_
                  refine OW.pass rfl rfl ?_
                  refine OW.pass rfl rfl ?_
                  refine OW.pass rfl rfl ?_
                  refine OW.pass rfl rfl ?_
                  refine OW.pass rfl rfl ?_
                  refine OW.pass rfl rfl ?_
                  refine OW.pass rfl rfl ?_
                  refine OW.pass rfl rfl ?_
                  refine OW.val rfl rfl (EX.pickF rfl rfl) ?_
                  refine OW.val rfl rfl (EX.assign rfl) ?_
                  refine OW.nil ?_
                  refine KW.leave (KW.region ?_)
                  refine OW.val rfl rfl (EX.move rfl) ?_
                  refine OW.val rfl rfl (by first | exact EX.addN (b := 1) (m := 9223372036854775807) rfl rfl rfl (by omega) | exact EX.addZ (m := 9223372036854775807) rfl rfl rfl rfl (by omega)) ?_
                  refine OW.val rfl rfl (EX.assign rfl) ?_
                  refine OW.nil ?_
                  refine KW.back3 (k + 1) (false) (wq) ⟨rfl, rfl, rfl, rfl, rfl, rfl, trivial⟩ rfl ?_ (by omega)
                  refine ⟨by omega, ⟨fun z => (by cases z), fun z => absurd (z.2.2 n (by rw [hkt]; simp)).1 p4'⟩, hxq⟩
              · have hno : ¬ okT r.2 l := fun z => by
                  have := hq.2 ⟨z.1, z.2.1, fun n hn => z.2.2 n (List.mem_of_mem_take hn)⟩
                  rw [this] at p3
                  cases p3
                refine KW.exit rfl ?_
                refine KW.as 7 (.bool (decide (okT r.2 l))) rfl (congrArg Value.bool (by rw [p3, decide_eq_false hno])) ?_
                refine KW.meet1 (wq) ⟨rfl, rfl, rfl, rfl, rfl, trivial⟩ rfl ?_
                exact hxq
            · obtain rfl : k = l.length := by omega
              rw [List.take_length] at hq
              refine OW.pass rfl rfl ?_
              refine OW.val rfl rfl (EX.pickF rfl rfl) ?_
              refine OW.nil ?_
              refine KW.condF rfl (KW.exit rfl ?_)
              refine KW.as 7 (.bool (decide (okT r.2 l))) rfl (congrArg Value.bool (by rw [Bool.eq_iff_iff, hq, decide_eq_true_eq]; rfl)) ?_
              refine KW.meet1 (wq) ⟨rfl, rfl, rfl, rfl, rfl, trivial⟩ rfl ?_
              exact hxq
        · rintro wq hxq
          have hc1 := hcW wq hxq
          have xq := hx.trans hxq
          refine KW.seq (KW.region ?_)
          refine OW.val rfl rfl (EX.move rfl) ?_
          refine OW.nil ?_
          refine KW.condD rfl (fun hokt => ?_) (fun hokt => ?_)
          · have hp := pick_yes hokt
            rw [hp] at hms
            refine KW.seq (KW.region ?_)
            refine OW.val rfl rfl (EX.move rfl) ?_
            refine OW.val rfl rfl (EX.move rfl) ?_
            refine OW.val rfl rfl (EX.move rfl) ?_
            refine OW.val rfl rfl (by first | exact EX.indexAddrS0 Try.underlying22 ti48 rfl rfl (by omega) | exact EX.indexAddrS1 Try.underlying22 ti48 rfl rfl (by omega)) ?_
            refine OW.val rfl rfl (EX.load Try.underlying48 rfl rfl (hc1 i _ g1)) ?_
            refine OW.push rfl rfl (fun _ => rfl) rfl Try.underlying22 ti48 rfl rfl (fun _ => rfl) rfl (xq) ((hown.ext hxq)) (by simp only [maxLen]; omega) (by omega) ?_
            rintro _ v3 w3 hown3 hx3 hg3 hb3
            refine OW.val rfl rfl (EX.assign rfl) ?_
            refine OW.nil ?_
            refine KW.region ?_
            refine OW.val rfl rfl (EX.move rfl) ?_
            refine OW.val rfl rfl (EX.move rfl) ?_
            refine OW.val rfl rfl (EX.move rfl) ?_
            refine OW.val rfl rfl (by first | exact EX.indexAddrS0 Try.underlying22 ti48 rfl rfl (by omega) | exact EX.indexAddrS1 Try.underlying22 ti48 rfl rfl (by omega)) ?_
            have hc3 : ∀ j u, vs[j]? = some u → w3.cell? ⟨b0, o0 + j, none⟩ = some u := by
              obtain ⟨b1', o1', e', _, hc⟩ := (hs.ext hx3).at_ (by omega)
              cases e'
              exact hc
            refine OW.val rfl rfl (EX.load Try.underlying48 rfl rfl (hc3 i _ g1)) ?_
            refine OW.val rfl rfl (EX.lenA Try.underlying48 rfl) ?_
            refine OW.val rfl rfl (by first | exact EX.addN (b := 1) (m := 9223372036854775807) rfl rfl rfl (by omega) | exact EX.addZ (m := 9223372036854775807) rfl rfl rfl rfl (by omega)) ?_
            refine OW.val rfl rfl (by first | exact EX.addN (m := 9223372036854775807) rfl rfl rfl (by omega) | exact EX.addZ (m := 9223372036854775807) rfl rfl rfl rfl (by omega)) ?_
            refine OW.val rfl rfl (EX.assign rfl) ?_
            refine OW.nil ?_
            refine KW.leave (KW.region ?_)
            refine OW.val rfl rfl (EX.move rfl) ?_
            refine OW.val rfl rfl (by first | exact EX.addN (b := 1) (m := 9223372036854775807) rfl rfl rfl (by omega) | exact EX.addZ (m := 9223372036854775807) rfl rfl rfl rfl (by omega)) ?_
            refine OW.val rfl rfl (EX.assign rfl) ?_
            refine OW.nil ?_
            refine KW.as 5 (.int .i64 (((mayT (ls.take (i + 1))).2 : Nat) : Int)) rfl (congrArg (Value.int .i64) (by rw [hms]; simp only; omega)) ?_
            refine KW.back3 (i + 1) (v3) (w3) ⟨rfl, rfl, rfl, rfl, trivial⟩ rfl ?_ (by omega)
            rw [hms]
            exact ⟨by omega, by simp; omega, hx3, vs' ++ [.slice a1 l.length c1], by simpa using hown3, htx.snoc s0⟩
          · have hp := pick_no hokt
            rw [hp] at hms
            refine KW.skip (KW.leave (KW.region ?_))
            refine OW.val rfl rfl (EX.move rfl) ?_
            refine OW.val rfl rfl (by first | exact EX.addN (b := 1) (m := 9223372036854775807) rfl rfl rfl (by omega) | exact EX.addZ (m := 9223372036854775807) rfl rfl rfl rfl (by omega)) ?_
            refine OW.val rfl rfl (EX.assign rfl) ?_
            refine OW.nil ?_
            refine KW.as 5 (.int .i64 (((mayT (ls.take (i + 1))).2 : Nat) : Int)) rfl (by rw [hms]) ?_
            refine KW.back3 (i + 1) (vo) (wq) ⟨rfl, rfl, rfl, rfl, trivial⟩ rfl ?_ (by omega)
            rw [hms]
            exact ⟨by omega, by omega, xq, vs', hown.ext hxq, htx⟩
    · obtain rfl : i = ls.length := by omega
      rw [List.take_length] at hown htx ⊢
      refine KW.exit rfl (KW.seq (KW.region ?_))
      refine OW.val rfl rfl (EX.move rfl) ?_
      refine OW.val rfl rfl (EX.move rfl) ?_
      refine OW.val rfl rfl (EX.assign rfl) ?_
      refine OW.val rfl rfl (EX.assign rfl) ?_
      refine OW.nil ?_
      refine KW.ret (ret2 rfl rfl rfl ?_)
      exact ⟨⟨vo, vs', rfl, hown, htx.ext hx⟩, hx⟩
end Go.Proofs.Ytlpnoogcdnfllaa
/- wal: devices that hold transactions; what is appended is found. -/
namespace Go.Proofs.Ytlpnoogcdnfllaa
set_option linter.unnecessarySimpa false
open Go.RowKit Rec Pth Dsk Wal
set_option linter.unusedVariables false
set_option linter.unusedSimpArgs false

theorem total_take (ls : List (List Nt)) (i : Nat) : total (ls.take i) ≤ total ls := by
  have h : total ls = total (ls.take i) + total (ls.drop i) := by
    conv => lhs; rw [← List.take_append_drop i ls]
    unfold total
    rw [List.map_append, List.sum_append]
  omega
theorem total_len (ls : List (List Nt)) : ls.length ≤ total ls := by
  induction ls with
  | nil => simp
  | cons l ls ih => rw [total_cons, List.length_cons]; omega
set_option maxRecDepth 20000 in
theorem appended_s (g : Nat) (hg : g ≤ 4611686018427387904) (ls : List (List Nt)) (hT : total ls ≤ 20) (hfine : ∀ l ∈ ls, l ≠ [] ∧ ∀ n ∈ l, mayN n) (hok : ∀ l ∈ ls, ∀ n ∈ l, n.mem.Ok) (vs : List Value) (A : Option Addr) (c B C : Nat) (w : World) (hs : Sl w B A vs) (ht : TxS w C vs ls) :
    Ret Try.prog 9 [.int .i64 (g : Int), .slice A ls.length c] w fun v w' => Ext w w' ∧ ∃ b, v = .tuple #[.pointer (some ⟨b, 0, none⟩), .bool true] ∧ ∃ D, Quiet D (onto g ls fun _ => []) (total ls) ∧ Sm D 500 ∧ DevAt w' w.heap.size b D := by
  have el := ht.len
  have hll := total_len ls
  refine Ret.enter Try.func9 rfl Try.ntmps9 (by kernel_rfl) rfl ?_
  refine KW.seq (KW.region ?_)
  refine OW.val rfl rfl (EX.assign rfl) ?_
  refine OW.val rfl rfl (EX.assign rfl) ?_
  refine OW.nil ?_
  refine KW.seq (KW.region ?_)
  refine OW.call rfl rfl rfl (new40 w) ?_
  rintro _ w1 ⟨hx1, b, rfl, hdev1⟩
  refine OW.val rfl rfl (EX.move rfl) ?_
  refine OW.val rfl rfl (EX.extract rfl rfl) ?_
  refine OW.val rfl rfl (EX.extract rfl rfl) ?_
  refine OW.val rfl rfl (EX.assign rfl) ?_
  refine OW.val rfl rfl (EX.assign rfl) ?_
  refine OW.nil ?_
  refine KW.seq (KW.seq ?_)
  refine KW.region ?_
  refine OW.val rfl rfl (EX.move rfl) ?_
  refine OW.val rfl rfl (by first | exact EX.neqN (b := 0) rfl rfl | exact EX.neqZ rfl rfl) ?_
  refine OW.val rfl rfl (EX.move rfl) ?_
  refine OW.as 18 (.bool false) rfl (congrArg Value.bool (decide_eq_false (by simp))) ?_
  refine OW.val rfl rfl (EX.move rfl) ?_
  refine OW.val rfl rfl (by first | exact EX.eqlP1 Try.underlying26 rfl rfl | exact EX.eqlP0 Try.underlying26 rfl rfl) ?_
  refine OW.val rfl rfl (EX.pickF rfl rfl) ?_
  refine OW.nil ?_
  refine KW.condF rfl (KW.skip (KW.seq (KW.region ?_)))
  refine OW.val rfl rfl (EX.assign rfl) ?_
  refine OW.nil ?_
  refine KW.seq (KW.seq (KW.region ?_))
  refine OW.val rfl rfl (EX.assign rfl) ?_
  refine OW.nil ?_
  refine KW.block ?_
  refine KW.loop2 (fun (i : Nat) (wr : World) => i ≤ ls.length ∧ Ext w wr ∧ ∃ D, Quiet D (onto g (ls.take i) fun _ => []) (total (ls.take i)) ∧ Sm D (21 * i) ∧ DevAt wr w.heap.size b D) (fun (i : Nat) (wr : World) => [(0, .int .i64 ((g : Nat) : Int)), (1, .slice A ls.length c), (6, .pointer (some ⟨b, 0, none⟩)), (8, .int .i64 (((total (ls.take i)) : Nat) : Int)), (9, .int .i64 ((i : Nat) : Int))]) (fun (i : Nat) (wr : World) => wr) (fun (i : Nat) (wr : World) => ls.length - i) (0) (w1) ⟨rfl, rfl, rfl, rfl, rfl, trivial⟩ rfl ?_ ?_
  · exact ⟨by omega, hx1, _, Quiet.fresh _, fresh_sm, hdev1⟩
  · rintro i wr ⟨hi, hx, D, hq, hsm, hdev⟩
    refine KW.seq (KW.seq (KW.region ?_))
    refine OW.val rfl rfl (EX.move rfl) ?_
    refine OW.val rfl rfl (EX.move rfl) ?_
    refine OW.val rfl rfl (EX.lenA Try.underlying22 rfl) ?_
    refine OW.val rfl rfl (by first | exact EX.lssN rfl rfl | exact EX.lssZ rfl rfl) ?_
    refine OW.nil ?_
    refine KW.condD rfl (fun hlt => ?_) (fun hlt => ?_)
    · have hsn : ls.take (i + 1) = ls.take i ++ [ls[i]] := (List.take_append_getElem hlt).symm
      obtain ⟨a1, c1, g1, s1⟩ := (ht.ext hx).at_ i hlt
      have hf := hfine ls[i] (List.getElem_mem hlt)
      have ho := hok ls[i] (List.getElem_mem hlt)
      have ht2 := total_take ls (i + 1)
      rw [hsn, total_snoc] at ht2
      obtain ⟨b0, o0, rfl, _, hc0⟩ := (hs.ext hx).at_ (by omega)
      have ca := append_q hq hsm (by omega) hg (Nat.le_refl _) hf.1 (by omega) hf.2 ho w.heap.size b a1 c1 _ wr hdev s1
      have et : max (total (ls.take i)) (total (ls.take i) + (ls[i]).length + 1) = total (ls.take (i + 1)) := by rw [hsn, total_snoc]; omega
      have et2 : total (ls.take (i + 1)) = total (ls.take i) + (ls[i]).length + 1 := by rw [hsn, total_snoc]
      rw [et, ← hsn] at ca
      generalize ls[i] = l at g1 s1 hf ho ht2 ca et2
      refine KW.skip (KW.seq (KW.block (KW.seq (KW.region ?_))))
      refine OW.val rfl rfl (EX.move rfl) ?_
      refine OW.val rfl rfl (EX.move rfl) ?_
      refine OW.val rfl rfl (EX.move rfl) ?_
      refine OW.val rfl rfl (EX.move rfl) ?_
      refine OW.val rfl rfl (EX.move rfl) ?_
      refine OW.val rfl rfl (by first | exact EX.indexAddrS0 Try.underlying22 ti48 rfl rfl (by omega) | exact EX.indexAddrS1 Try.underlying22 ti48 rfl rfl (by omega)) ?_
      refine OW.val rfl rfl (EX.load Try.underlying48 rfl rfl (hc0 i _ g1)) ?_
      refine OW.call rfl rfl rfl (ca) ?_
      rintro _ w2 ⟨rfl, tm2, D2, hq2, hsm2, hdev2⟩
      refine OW.val rfl rfl (EX.move rfl) ?_
      refine OW.val rfl rfl (EX.extract rfl rfl) ?_
      refine OW.val rfl rfl (EX.extract rfl rfl) ?_
      refine OW.val rfl rfl (EX.assign rfl) ?_
      refine OW.val rfl rfl (EX.assign rfl) ?_
      refine OW.nil ?_
      refine KW.seq (KW.seq ?_)
      have x2 : Ext w w2 := Tm.below hx tm2 hx.size (Nat.le_refl _)
      obtain ⟨b0', o0', e0, _, hc2⟩ := (hs.ext x2).at_ (by omega)
      cases e0
      refine KW.region ?_
      refine OW.val rfl rfl (EX.move rfl) ?_
      refine OW.val rfl rfl (by first | exact EX.neqN (b := 0) rfl rfl | exact EX.neqZ rfl rfl) ?_
      refine OW.val rfl rfl (EX.move rfl) ?_
      refine OW.as 41 (.bool false) rfl (congrArg Value.bool (decide_eq_false (fun q => q rfl))) ?_
      refine OW.val rfl rfl (EX.move rfl) ?_
      refine OW.val rfl rfl (EX.move rfl) ?_
      refine OW.val rfl rfl (EX.move rfl) ?_
      refine OW.val rfl rfl (EX.move rfl) ?_
      refine OW.val rfl rfl (by first | exact EX.indexAddrS0 Try.underlying22 ti48 rfl rfl (by omega) | exact EX.indexAddrS1 Try.underlying22 ti48 rfl rfl (by omega)) ?_
      refine OW.val rfl rfl (EX.load Try.underlying48 rfl rfl (hc2 i _ g1)) ?_
      refine OW.val rfl rfl (EX.lenA Try.underlying48 rfl) ?_
      refine OW.val rfl rfl (by first | exact EX.addN (m := 9223372036854775807) rfl rfl rfl (by omega) | exact EX.addZ (m := 9223372036854775807) rfl rfl rfl rfl (by omega)) ?_
      refine OW.val rfl rfl (by first | exact EX.addN (b := 1) (m := 9223372036854775807) rfl rfl rfl (by omega) | exact EX.addZ (m := 9223372036854775807) rfl rfl rfl rfl (by omega)) ?_
      refine OW.val rfl rfl (by first | exact EX.neqN rfl rfl | exact EX.neqZ rfl rfl) ?_
      refine OW.val rfl rfl (EX.pickF rfl rfl) ?_
      refine OW.nil ?_
      refine KW.condD rfl (fun hne => ?_) (fun hne => ?_)
      · omega
      · refine KW.skip (KW.region ?_)
        refine OW.val rfl rfl (EX.move rfl) ?_
        refine OW.val rfl rfl (EX.assign rfl) ?_
        refine OW.nil ?_
        refine KW.leave (KW.region ?_)
        refine OW.val rfl rfl (EX.move rfl) ?_
        refine OW.val rfl rfl (by first | exact EX.addN (b := 1) (m := 9223372036854775807) rfl rfl rfl (by omega) | exact EX.addZ (m := 9223372036854775807) rfl rfl rfl rfl (by omega)) ?_
        refine OW.val rfl rfl (EX.assign rfl) ?_
        refine OW.nil ?_
        refine KW.as 8 (.int .i64 (((total (ls.take (i + 1))) : Nat) : Int)) rfl (congrArg (fun q : Nat => Value.int .i64 (q : Int)) et2.symm) ?_
        refine KW.back2 (i + 1) (w2) ⟨rfl, rfl, rfl, rfl, rfl, trivial⟩ rfl ?_ (by omega)
        exact ⟨by omega, x2, D2, hq2, hsm2.more (by omega), hdev2⟩
    · obtain rfl : i = ls.length := by omega
      rw [List.take_length] at hq
      refine KW.exit rfl (KW.seq (KW.region ?_))
      refine OW.val rfl rfl (EX.move rfl) ?_
      refine OW.val rfl rfl (EX.assign rfl) ?_
      refine OW.val rfl rfl (EX.assign rfl) ?_
      refine OW.nil ?_
      refine KW.ret (ret2 rfl rfl rfl ?_)
      exact ⟨hx, b, rfl, D, hq, hsm.more (by omega), hdev⟩
end Go.Proofs.Ytlpnoogcdnfllaa
/- wal: transactions that were appended are found, none of another generation. -/
namespace Go.Proofs.Ytlpnoogcdnfllaa
set_option linter.unnecessarySimpa false
open Go.RowKit Rec Pth Dsk Wal
set_option linter.unusedVariables false
set_option linter.unusedSimpArgs false

/-- lists of transactions among a law's arguments -/
def TxsAt (w : World) (C : Nat) (A : Option Addr) (ls : List (List Nt)) : Prop := ∃ vs, Sl w C A vs ∧ TxS w C vs ls
def TxsOk (ls : List (List Nt)) : Prop := ∀ l ∈ ls, l.length ≤ 140737488355328 ∧ ∀ n ∈ l, n.mem.Ok
theorem may_goods {ls : List (List Nt)} (h : TxsOk ls) : Goods (mayT ls).1 := fun l hl => ⟨fun n hn => ⟨((mayT_fine ls).2.2 l hl).2 n hn, ((h l (mayT_mem ls l hl)).2 n hn).sum⟩, ((mayT_fine ls).2.2 l hl).1⟩
set_option maxRecDepth 20000 in
theorem walBack_s (gen : Int) (g0 : -9223372036854775808 ≤ gen) (g1 : gen ≤ 9223372036854775807) (ls : List (List Nt)) (hok : TxsOk ls) (A : Option Addr) (c : Nat) (other : Int) (o0 : -9223372036854775808 ≤ other) (o1 : other ≤ 9223372036854775807) (w : World) (C : Nat) (hls : TxsAt w C A ls) :
    Ret Try.prog 3 [.int .i64 gen, .slice A ls.length c, .int .i64 other] w fun v w' => v = .bool true ∧ Ext w w' := by
  obtain ⟨vs, hs, ht⟩ := hls
  have bye : ∀ w', Ext w w' → Ret Try.prog 7 [] w' fun v w'' => v = .bool true ∧ Ext w w'' := fun w' hx => (awake_s w').mono fun _ _ h => ⟨h.1, Ext.trans hx h.2⟩
  refine Ret.enter Try.func3 rfl Try.ntmps3 (by kernel_rfl) rfl ?_
  refine KW.seq (KW.region ?_)
  refine OW.val rfl rfl (EX.assign rfl) ?_
  refine OW.nil ?_
  refine KW.seq (KW.seq ?_)
  refine KW.region ?_
  refine OW.val rfl rfl (EX.move rfl) ?_
  refine OW.val rfl rfl (by first | exact EX.lssN (b := 0) rfl rfl | exact EX.lssZ rfl rfl) ?_
  refine OW.val rfl rfl (EX.move rfl) ?_
  refine OW.splitD 19 rfl (fun q1 => ?_) (fun q1 => ?_)
  · refine OW.pass rfl rfl ?_
    refine OW.pass rfl rfl ?_
    refine OW.val rfl rfl (EX.pickT rfl rfl) ?_
    refine OW.val rfl rfl (EX.move rfl) ?_
    refine OW.pass rfl rfl ?_
    refine OW.pass rfl rfl ?_
    refine OW.pass rfl rfl ?_
    refine OW.val rfl rfl (EX.pickT rfl rfl) ?_
    refine OW.nil ?_
    refine KW.condT rfl (KW.seq (KW.region ?_))
    refine OW.call rfl rfl rfl (bye w (Ext.refl _)) ?_
    rintro _ w1 ⟨rfl, hx1⟩
    refine OW.val rfl rfl (EX.assign rfl) ?_
    refine OW.nil ?_
    refine KW.ret (ret1 rfl rfl ?_)
    exact ⟨rfl, hx1⟩
  · refine OW.val rfl rfl (EX.move rfl) ?_
    refine OW.val rfl rfl (by first | exact EX.gtrN (b := 4611686018427387904) rfl rfl | exact EX.gtrZ rfl rfl) ?_
    refine OW.val rfl rfl (EX.pickF rfl rfl) ?_
    refine OW.val rfl rfl (EX.move rfl) ?_
    refine OW.splitD 23 rfl (fun q2 => ?_) (fun q2 => ?_)
    · refine OW.pass rfl rfl ?_
      refine OW.pass rfl rfl ?_
      refine OW.pass rfl rfl ?_
      refine OW.val rfl rfl (EX.pickT rfl rfl) ?_
      refine OW.nil ?_
      refine KW.condT rfl (KW.seq (KW.region ?_))
      refine OW.call rfl rfl rfl (bye w (Ext.refl _)) ?_
      rintro _ w1 ⟨rfl, hx1⟩
      refine OW.val rfl rfl (EX.assign rfl) ?_
      refine OW.nil ?_
      refine KW.ret (ret1 rfl rfl ?_)
      exact ⟨rfl, hx1⟩
    · refine OW.val rfl rfl (EX.move rfl) ?_
      refine OW.val rfl rfl (EX.lenA Try.underlying22 rfl) ?_
      refine OW.val rfl rfl (by first | exact EX.gtrN (b := 100) rfl rfl | exact EX.gtrZ rfl rfl) ?_
      refine OW.val rfl rfl (EX.pickF rfl rfl) ?_
      refine OW.nil ?_
      refine KW.condD rfl (fun q3 => ?_) (fun q3 => ?_)
      · refine KW.seq (KW.region ?_)
        refine OW.call rfl rfl rfl (bye w (Ext.refl _)) ?_
        rintro _ w1 ⟨rfl, hx1⟩
        refine OW.val rfl rfl (EX.assign rfl) ?_
        refine OW.nil ?_
        refine KW.ret (ret1 rfl rfl ?_)
        exact ⟨rfl, hx1⟩
      · obtain ⟨g, rfl⟩ := Int.eq_ofNat_of_zero_le (show 0 ≤ gen by omega)
        have hg : g ≤ 4611686018427387904 := by omega
        refine KW.skip (KW.seq (KW.region ?_))
        refine OW.val rfl rfl (EX.move rfl) ?_
        refine OW.call rfl rfl rfl (may_s ls (by omega) (fun l hl => (hok l hl).1) (fun l hl => (hok l hl).2) vs A c C C w hs ht) ?_
        rintro _ w1 ⟨⟨vo, vs', rfl, own1, tx1⟩, hx1⟩
        refine OW.val rfl rfl (EX.move rfl) ?_
        refine OW.val rfl rfl (EX.extract rfl rfl) ?_
        refine OW.val rfl rfl (EX.extract rfl rfl) ?_
        refine OW.val rfl rfl (EX.assign rfl) ?_
        refine OW.val rfl rfl (EX.assign rfl) ?_
        refine OW.nil ?_
        refine KW.seq (KW.region ?_)
        refine OW.val rfl rfl (EX.move rfl) ?_
        refine OW.val rfl rfl (EX.move rfl) ?_
        have hf := mayT_fine ls
        have hgd := may_goods hok
        have hmo : ∀ l ∈ (mayT ls).1, ∀ n ∈ l, n.mem.Ok := fun l hl => (hok l (mayT_mem ls l hl)).2
        have hmb : ∀ l ∈ (mayT ls).1, l.length ≤ 140737488355328 := fun l hl => (hok l (mayT_mem ls l hl)).1
        generalize (mayT ls).2 = at_ at hf
        generalize (mayT ls).1 = P at own1 tx1 hf hgd hmo hmb
        obtain ⟨hat, hT, hfine⟩ := hf
        subst hat
        have hPl := total_len P
        obtain ⟨A1, c1, rfl, _, sl1⟩ := own1.slice
        refine OW.call rfl rfl rfl (appended_s g hg P hT hfine hmo vs' A1 c1 _ C w1 sl1 tx1) ?_
        rintro _ w2 ⟨hx2, b, rfl, D2, hq2, hsm2, hdev2⟩
        refine OW.val rfl rfl (EX.move rfl) ?_
        refine OW.val rfl rfl (EX.extract rfl rfl) ?_
        refine OW.val rfl rfl (EX.extract rfl rfl) ?_
        refine OW.val rfl rfl (EX.assign rfl) ?_
        refine OW.val rfl rfl (EX.assign rfl) ?_
        refine OW.nil ?_
        refine KW.seq (KW.seq (KW.region ?_))
        refine OW.val rfl rfl (EX.move rfl) ?_
        refine OW.val rfl rfl (by first | exact EX.notD rfl | exact EX.notB rfl) ?_
        refine OW.nil ?_
        have x2 := Ext.trans hx1 hx2
        have own2 := own1.ext hx2
        have tx2 := tx1.ext hx2
        refine KW.condF rfl (KW.skip (KW.seq (KW.region ?_)))
        refine OW.val rfl rfl (EX.move rfl) ?_
        refine OW.val rfl rfl (EX.move rfl) ?_
        refine OW.call rfl rfl rfl (replay_q hq2 hsm2 (by omega) hg hgd w1.heap.size b w2 hdev2) ?_
        rintro _ w3 ⟨⟨vm, vsm, rfl, ownm, txm⟩, tm3, D3, hq3, hsm3, hdev3⟩
        refine OW.val rfl rfl (EX.move rfl) ?_
        refine OW.val rfl rfl (EX.extract rfl rfl) ?_
        refine OW.val rfl rfl (EX.extract rfl rfl) ?_
        refine OW.val rfl rfl (EX.extract rfl rfl) ?_
        refine OW.val rfl rfl (EX.assign rfl) ?_
        refine OW.val rfl rfl (EX.assign rfl) ?_
        refine OW.val rfl rfl (EX.assign rfl) ?_
        refine OW.nil ?_
        refine KW.seq (KW.seq ?_)
        have hz1 := hx1.size
        have x3 : Ext w w3 := Tm.below x2 tm3 x2.size hz1
        have x13 : Ext w1 w3 := Tm.below hx2 tm3 hx2.size (Nat.le_refl _)
        have own3 := tm3.own own2 (by decide)
        obtain ⟨A1', c1', e1, _, sl3⟩ := own3.slice
        cases e1
        have tx3 := tx1.ext x13
        obtain ⟨Am, cm, rfl, _, slm⟩ := ownm.slice
        refine KW.region ?_
        refine OW.val rfl rfl (EX.move rfl) ?_
        refine OW.val rfl rfl (by first | exact EX.neqN (b := 0) rfl rfl | exact EX.neqZ rfl rfl) ?_
        refine OW.val rfl rfl (EX.move rfl) ?_
        refine OW.as 51 (.bool false) rfl (congrArg Value.bool (decide_eq_false (fun q => q rfl))) ?_
        refine OW.val rfl rfl (EX.move rfl) ?_
        refine OW.val rfl rfl (EX.move rfl) ?_
        refine OW.val rfl rfl (by first | exact EX.neqN rfl rfl | exact EX.neqZ rfl rfl) ?_
        refine OW.val rfl rfl (EX.pickF rfl rfl) ?_
        refine OW.val rfl rfl (EX.move rfl) ?_
        refine OW.as 56 (.bool false) rfl (congrArg Value.bool (decide_eq_false (fun q => q rfl))) ?_
        refine OW.val rfl rfl (EX.move rfl) ?_
        refine OW.val rfl rfl (EX.move rfl) ?_
        refine OW.call rfl rfl rfl (same_s P P vsm vs' Am A1 cm c1 w3 _ _ _ _ slm sl3 txm.txs tx3 (by omega) hmb) ?_
        rintro _ w4 ⟨rfl, hx4⟩
        refine OW.val rfl rfl (by first | exact EX.notD rfl | exact EX.notB rfl) ?_
        refine OW.val rfl rfl (EX.pickF rfl rfl) ?_
        refine OW.nil ?_
        have x4 := x3.trans hx4
        refine KW.condD rfl (fun q5 => ?_) (fun q5 => ?_)
        · exact absurd q5 (by simp)
        · refine KW.skip (KW.seq (KW.seq ?_))
          refine KW.region ?_
          refine OW.val rfl rfl (EX.move rfl) ?_
          refine OW.val rfl rfl (EX.move rfl) ?_
          refine OW.val rfl rfl (by first | exact EX.eqlN rfl rfl | exact EX.eqlZ rfl rfl) ?_
          refine OW.val rfl rfl (EX.move rfl) ?_
          refine OW.splitD 65 rfl (fun r1 => ?_) (fun r1 => ?_)
          · refine OW.pass rfl rfl ?_
            refine OW.pass rfl rfl ?_
            refine OW.val rfl rfl (EX.pickT rfl rfl) ?_
            refine OW.val rfl rfl (EX.move rfl) ?_
            refine OW.pass rfl rfl ?_
            refine OW.pass rfl rfl ?_
            refine OW.val rfl rfl (EX.pickT rfl rfl) ?_
            refine OW.nil ?_
            refine KW.condT rfl (KW.seq (KW.region ?_))
            refine OW.call rfl rfl rfl (bye w4 x4) ?_
            rintro _ w5 ⟨rfl, hx5⟩
            refine OW.val rfl rfl (EX.assign rfl) ?_
            refine OW.nil ?_
            refine KW.ret (ret1 rfl rfl ?_)
            exact ⟨rfl, hx5⟩
          · refine OW.val rfl rfl (EX.move rfl) ?_
            refine OW.val rfl rfl (by first | exact EX.lssN (b := 0) rfl rfl | exact EX.lssZ rfl rfl) ?_
            refine OW.val rfl rfl (EX.pickF rfl rfl) ?_
            refine OW.val rfl rfl (EX.move rfl) ?_
            refine OW.splitD 69 rfl (fun r2 => ?_) (fun r2 => ?_)
            · refine OW.pass rfl rfl ?_
              refine OW.pass rfl rfl ?_
              refine OW.val rfl rfl (EX.pickT rfl rfl) ?_
              refine OW.nil ?_
              refine KW.condT rfl (KW.seq (KW.region ?_))
              refine OW.call rfl rfl rfl (bye w4 x4) ?_
              rintro _ w5 ⟨rfl, hx5⟩
              refine OW.val rfl rfl (EX.assign rfl) ?_
              refine OW.nil ?_
              refine KW.ret (ret1 rfl rfl ?_)
              exact ⟨rfl, hx5⟩
            · refine OW.val rfl rfl (EX.move rfl) ?_
              refine OW.val rfl rfl (by first | exact EX.gtrN (b := 4611686018427387904) rfl rfl | exact EX.gtrZ rfl rfl) ?_
              refine OW.val rfl rfl (EX.pickF rfl rfl) ?_
              refine OW.nil ?_
              refine KW.condD rfl (fun r3 => ?_) (fun r3 => ?_)
              · refine KW.seq (KW.region ?_)
                refine OW.call rfl rfl rfl (bye w4 x4) ?_
                rintro _ w5 ⟨rfl, hx5⟩
                refine OW.val rfl rfl (EX.assign rfl) ?_
                refine OW.nil ?_
                refine KW.ret (ret1 rfl rfl ?_)
                exact ⟨rfl, hx5⟩
              · have hbo : ¬ badG other := by unfold badG; omega
                refine KW.skip (KW.seq (KW.region ?_))
                refine OW.val rfl rfl (EX.move rfl) ?_
                refine OW.val rfl rfl (EX.move rfl) ?_
                refine OW.call rfl rfl rfl (replay_o hq3 hsm3 (by omega) hg hgd hbo r1 w1.heap.size b w4 (hdev3.ext hx4)) ?_
                rintro _ w5 ⟨⟨vk, vsk, rfl, ownk, txk⟩, tm5, D5, hq5, hsm5, hdev5⟩
                refine OW.val rfl rfl (EX.move rfl) ?_
                refine OW.val rfl rfl (EX.extract rfl rfl) ?_
                refine OW.val rfl rfl (EX.extract rfl rfl) ?_
                refine OW.val rfl rfl (EX.extract rfl rfl) ?_
                refine OW.val rfl rfl (EX.assign rfl) ?_
                refine OW.val rfl rfl (EX.assign rfl) ?_
                refine OW.val rfl rfl (EX.assign rfl) ?_
                refine OW.nil ?_
                refine KW.seq ?_
                have x5 : Ext w w5 := Tm.below x4 tm5 x4.size hz1
                obtain ⟨Ak, ck, rfl, _, slk⟩ := ownk.slice
                refine KW.region ?_
                refine OW.val rfl rfl (EX.move rfl) ?_
                refine OW.val rfl rfl (by first | exact EX.eqlN (b := 0) rfl rfl | exact EX.eqlZ rfl rfl) ?_
                refine OW.val rfl rfl (EX.move rfl) ?_
                refine OW.as 83 (.bool true) rfl (congrArg Value.bool (decide_eq_true (rfl))) ?_
                refine OW.val rfl rfl (EX.move rfl) ?_
                refine OW.val rfl rfl (by first | exact EX.eqlN (b := 0) rfl rfl | exact EX.eqlZ rfl rfl) ?_
                refine OW.val rfl rfl (EX.pickT rfl rfl) ?_
                refine OW.val rfl rfl (EX.move rfl) ?_
                refine OW.as 87 (.bool true) rfl (congrArg Value.bool (decide_eq_true (rfl))) ?_
                refine OW.val rfl rfl (EX.move rfl) ?_
                refine OW.val rfl rfl (EX.lenA Try.underlying22 rfl) ?_
                refine OW.val rfl rfl (by first | exact EX.eqlN (b := 0) rfl rfl | exact EX.eqlZ rfl rfl) ?_
                refine OW.val rfl rfl (EX.pickT rfl rfl) ?_
                refine OW.val rfl rfl (EX.move rfl) ?_
                refine OW.as 92 (.bool true) rfl (congrArg Value.bool (decide_eq_true (rfl))) ?_
                refine OW.call rfl rfl rfl (bye w5 x5) ?_
                rintro _ w6 ⟨rfl, hx6⟩
                refine OW.val rfl rfl (EX.pickT rfl rfl) ?_
                refine OW.val rfl rfl (EX.assign rfl) ?_
                refine OW.nil ?_
                refine KW.ret (ret1 rfl rfl ?_)
                exact ⟨rfl, hx6⟩
end Go.Proofs.Ytlpnoogcdnfllaa
/- From a walk to a law's row: the call returned true, and all that was there is as it was. No program is spoken of. -/
namespace Go.Proofs.Ytlpnoogcdnfllaa
set_option linter.unnecessarySimpa false
set_option linter.unusedVariables false
set_option linter.unusedSimpArgs false
open Go.ChangeShapes Go.WideShapes Go.ChangeAt Go.RowKit
section
variable {H : Type} {enc : TypeId × Value → H} {P : Program}
theorem trodAll_stays (hl : laidOutB P = true) {W W' : World} (hx : Ext W W') : ∀ {ts : List TypeId} {vs : List Value} {ds : List (DataW H)} {ps : List MemPlace},
    (∀ t ∈ ts, P.readableRec t = true ∧ t < P.types.size) → DataW.TrodAll enc P W 0 (fun _ => true) true ts vs ds ps → (∀ p ∈ ps, p.block < W.heap.size) →
    DataW.TrodAll enc P W' 0 (fun b => decide (b < W.heap.size)) true ts vs ds ps
  | [], vs, ds, ps, _, h, _ => by
    obtain ⟨rfl, rfl, rfl⟩ := trodAll_nil h
    exact trodAll_mk0
  | t :: ts, vs, ds, ps, hr, h, hlt => by
    obtain ⟨v, vs', d, ds', p, q, rfl, rfl, rfl, h1, h2⟩ := trodAll_cons h
    refine trodAll_cons_mk (WideElems.Trod_stays hl (hr t (by simp)).1 (hr t (by simp)).2 h1 (fun x hx' => hx.same (hlt x (by simp [hx']))) (fun x hx' => by simpa using hlt x (by simp [hx']))) ?_
    exact trodAll_stays hl hx (fun u hu => hr u (by simp [hu])) h2 (fun x hx' => hlt x (by simp [hx']))
theorem law_post {f : Func} {s : ChangeSpec} {W W' : World} {args : Array Value} {ds gs : List (DataW H)} {before : List MemPlace} {T : TypeId}
    (hW : DataW.Whole enc P f.params.toList s.vars false W args.toList ds gs before) (hv : s.vars = []) (hspec : s.fn H (ds ++ gs) = { results := [.lit (.bool true)], args := ds }) (hrt : f.resultTypes = #[T]) (hu : P.underlying T = some .bool)
    (hl : laidOutB P = true) (hr : ∀ t ∈ f.params.toList, P.readableRec t = true ∧ t < P.types.size) (hx : Ext W W') : s.post enc P f false true false false W args (.bool true) W' := by
  have hlt : ∀ p ∈ before, p.block < W.heap.size := fun p hp => hW.lt p hp
  have hW0 := hW
  obtain ⟨p, q, hA, hV, rfl, _, _⟩ := hW
  rw [hv] at hV
  refine ⟨ds, gs, _, [], p, [], hW0, ?_, ?_, ?_, hx.frame _, fun h => by cases h⟩
  · rw [hspec, hrt]
    exact trodAll_cons_mk (p := []) (p' := []) (shut_bool hu _) trodAll_mk0
  · rw [hspec]
    exact trodAll_stays hl hx hr hA (fun x hx' => hlt x (by simp [hx']))
  · rw [hspec, hv]
    exact rfl
end
end Go.Proofs.Ytlpnoogcdnfllaa
/- A law's arguments, as the walks take them. No program is spoken of. -/
namespace Go.Proofs.Ytlpnoogcdnfllaa
set_option linter.unnecessarySimpa false
open Go.ChangeShapes Go.WideShapes Go.ChangeAt Go.RowKit
set_option linter.unusedSimpArgs false
set_option linter.unusedVariables false
/-- a listed variable's cells, as its initialiser lays them -/
def layCells (cs : List Value) : Obj → Obj
  | .cells _ t frozen => .cells cs.toArray t frozen
  | o => o
section
variable {H : Type} {enc : TypeId × Value → H} {P : Program} {W : World} {base : Nat} {t e : TypeId} {v : Value} {d : DataW H} {p : List MemPlace} {r : Reach} {b0 : Nat}
theorem wf_nat {k : IntKind} {n : Int} (hs : k.signed = false) (h : (Lit.int k n).wf = true) : ∃ m : Nat, n = m ∧ m ≤ maxN k := by
  cases k <;> simp [IntKind.signed] at hs <;> (simp [Lit.wf, IntKind.min, IntKind.max, IntKind.signed, IntKind.bits] at h; exact ⟨n.toNat, by omega, by simp [maxN]; omega⟩)
theorem wf_int {n : Int} (h : (Lit.int .i64 n).wf = true) : -9223372036854775808 ≤ n ∧ n ≤ 9223372036854775807 := by
  simp [Lit.wf, IntKind.min, IntKind.max, IntKind.signed, IntKind.bits] at h
  omega
theorem open_nat {k : IntKind} (ht : P.underlying t = some (.int k)) (hs : k.signed = false) (hval : Value.okWide P W r b0 t v) (hd : DataW.Trod enc P W base (fun _ => true) true t v d p) : ∃ m : Nat, v = .int k (m : Int) ∧ m ≤ maxN k := by
  obtain ⟨n, rfl, _, _, hw⟩ := open_int ht hval hd
  obtain ⟨m, rfl, hm⟩ := wf_nat hs hw
  exact ⟨m, rfl, hm⟩
theorem open_i64 (ht : P.underlying t = some (.int .i64)) (hval : Value.okWide P W r b0 t v) (hd : DataW.Trod enc P W base (fun _ => true) true t v d p) : ∃ n : Int, v = .int .i64 n ∧ -9223372036854775808 ≤ n ∧ n ≤ 9223372036854775807 := by
  obtain ⟨n, rfl, _, _, hw⟩ := open_int ht hval hd
  exact ⟨n, rfl, wf_int hw⟩
theorem open_str (ht : P.underlying t = some .string) (hval : Value.okWide P W r b0 t v) (hd : DataW.Trod enc P W base (fun _ => true) true t v d p) : ∃ s : List UInt8, v = str s ∧ d = .lit (.string s) := by
  obtain ⟨s, rfl, rfl, _, hs⟩ := ChangeMaps.open_string ht hval hd
  exact ⟨s.data.toList, rfl, rfl⟩
theorem reach_str {ts : List TypeId} {ds : List (DataW H)} (h : (DataW.weightsEach P ts ds).all (· ≤ reachBytes) = true) {j : Nat} {s : List UInt8} (ht : ts[j]? = some t) (hd : ds[j]? = some (.lit (.string s))) : s.length ≤ 140737488351232 :=
  Nat.le_trans (sized_string h ht hd) (by decide)
/-- a slice's cells, wherever they start -/
theorem sl_of_cells {a : Addr} {xs : List Value} (h : ∀ j u, xs[j]? = some u → W.cell? (a.add j) = some u) : Sl W W.heap.size (some a) xs := by
  by_cases hx : xs = []
  · exact .inl hx
  · have h0 : 0 < xs.length := List.length_pos_iff.2 hx
    have hc := h 0 xs[0] (List.getElem?_eq_getElem h0)
    have ha : a.add 0 = a := by unfold Addr.add; simp
    rw [ha] at hc
    obtain ⟨b, o, sp⟩ := a
    have hsp : sp = none := by
      unfold World.cell? at hc
      split at hc
      · cases sp with
        | none => rfl
        | some _ => simp at hc
      · simp at hc
    subst hsp
    refine .inr ⟨b, o, rfl, World.block_lt_of_cell? W _ hc, fun j u hu => ?_⟩
    have := h j u hu
    have hadd : (⟨b, o, none⟩ : Addr).add j = ⟨b, o + j, none⟩ := by unfold Addr.add; split <;> simp_all
    rwa [hadd] at this
theorem nats_of {k : IntKind} (hs : k.signed = false) : ∀ (zs : List Int), (∀ n ∈ zs, (Lit.int k n).wf = true) → ∃ ms : List Nat, zs = ms.map (fun (m : Nat) => (m : Int)) ∧ ∀ m ∈ ms, m ≤ maxN k
  | [], _ => ⟨[], rfl, by simp⟩
  | z :: zs, h => by
    obtain ⟨m, rfl, hm⟩ := wf_nat hs (h z (by simp))
    obtain ⟨ms, rfl, hms⟩ := nats_of hs zs (fun n hn => h n (by simp [hn]))
    exact ⟨m :: ms, rfl, by simpa using ⟨hm, hms⟩⟩
/-- a slice of unsigned numbers -/
theorem open_slN {k : IntKind} (ht : P.underlying t = some (.slice e)) (he : P.underlying e = some (.int k)) (hs : k.signed = false) (hc : P.cellsOf e = 1) (hval : Value.okWide P W r b0 t v) (hd : DataW.Trod enc P W base (fun _ => true) true t v d p) :
    ∃ (l : List Nat) (A : Option Addr) (c : Nat), v = .slice A l.length c ∧ (∀ x ∈ l, x ≤ maxN k) ∧ l.length ≤ 9223372036854775807 ∧ Sl W W.heap.size A (ints k l) := by
  obtain ⟨A, len, cap, rfl⟩ := okWide_slice ht hval
  obtain ⟨fuel, hf⟩ := hd
  rcases open_ints ht he hc hf with ⟨hcs, _⟩ | ⟨a, len', cap', zs, hcs, _, hl, hm, hz, _, hcell, hwz⟩
  · simp [Value.cells] at hcs
    obtain ⟨rfl, rfl, rfl⟩ := hcs
    exact ⟨[], none, 0, rfl, by simp, by simp, .inl rfl⟩
  · simp [Value.cells] at hcs
    obtain ⟨rfl, rfl, rfl⟩ := hcs
    simp only [if_true] at hz
    obtain ⟨ms, hms, hle⟩ := nats_of hs zs hwz
    have hmz : ms.length = zs.length := by rw [hms]; simp
    refine ⟨ms.take len, some a, cap, ?_, fun x hx => hle x (List.mem_of_mem_take hx), ?_, sl_of_cells fun j u hu => ?_⟩
    · rw [List.length_take, Nat.min_eq_left (by omega)]
    · rw [List.length_take]; simp only [maxLen] at hm; omega
    · have hjl : j < (ints k (ms.take len)).length := (List.getElem?_eq_some_iff.1 hu).1
      rw [ints_length, List.length_take] at hjl
      have hj : j < ms.length := by omega
      rw [hcell j (by omega), ← hu, hms]
      simp [ints, List.getElem?_take, show j < len by omega, hj, List.getD]
def strsV (l : List (List UInt8)) : List Value := l.map fun s => str s
theorem strsV_get {l : List (List UInt8)} {i : Nat} (h : i < l.length) : (strsV l)[i]? = some (str l[i]) := by simp [strsV, h]
theorem strsV_length (l : List (List UInt8)) : (strsV l).length = l.length := by simp [strsV]
theorem strsV_append (l m : List (List UInt8)) : strsV (l ++ m) = strsV l ++ strsV m := by simp [strsV]
theorem strsV_one {l : List (List UInt8)} : ∀ u ∈ strsV l, u.oneCell' = true := by
  intro u hu
  obtain ⟨_, _, rfl⟩ := List.mem_map.1 hu
  rfl
theorem weightsAll_mem : ∀ {l : List (DataW H)} {x : DataW H}, x ∈ l → ∀ n ∈ x.weights P e, n ∈ DataW.weightsAll P e l
  | y :: l, x, hx, n, hn => by
    simp only [DataW.weightsAll, List.mem_append]
    rcases List.mem_cons.1 hx with rfl | hx
    · exact .inl hn
    · exact .inr (weightsAll_mem hx n hn)
  | [], _, hx, _, _ => by simp at hx
/-- a slice of texts -/
theorem open_slS (ht : P.underlying t = some (.slice e)) (he : P.underlying e = some .string) (hc : P.cellsOf e = 1) (hval : Value.okWide P W r b0 t v) (hd : DataW.Trod enc P W base (fun _ => true) true t v d p)
    {ts : List TypeId} {ds : List (DataW H)} (hsz : (DataW.weightsEach P ts ds).all (· ≤ reachBytes) = true) {j : Nat} (hj : ts[j]? = some t) (hdj : ds[j]? = some d) :
    ∃ (l : List (List UInt8)) (A : Option Addr) (c : Nat), v = .slice A l.length c ∧ (∀ s ∈ l, s.length ≤ 140737488351232) ∧ l.length ≤ 9223372036854775807 ∧ Sl W W.heap.size A (strsV l) := by
  obtain ⟨A, len, cap, rfl⟩ := okWide_slice ht hval
  obtain ⟨fuel, hf⟩ := hd
  rcases open_strings ht he hc hf with ⟨hcs, _⟩ | ⟨a, len', cap', ss, hcs, _, hl, hm, hz, hx, hcell, hws⟩
  · simp [Value.cells] at hcs
    obtain ⟨rfl, rfl, rfl⟩ := hcs
    exact ⟨[], none, 0, rfl, by simp, by simp, .inl rfl⟩
  · simp [Value.cells] at hcs
    obtain ⟨rfl, rfl, rfl⟩ := hcs
    simp only [if_true] at hz
    simp only [Prod.mk.injEq] at hx
    obtain ⟨rfl, rfl⟩ := hx
    have hlen : (ss.take len).length = len := by rw [List.length_take]; omega
    refine ⟨(ss.take len).map fun s => s.data.toList, some a, cap, by simp [hlen]; omega, ?_, ?_, sl_of_cells fun i u hu => ?_⟩
    · intro s hs
      obtain ⟨s', hs', rfl⟩ := List.mem_map.1 hs
      have hmem : (DataW.lit (.string s'.data.toList) : DataW H) ∈ strs (ss.take len) := List.mem_map.2 ⟨s', hs', rfl⟩
      have h1 : s'.data.toList.length ∈ (DataW.slice (strs (ss.take len)) (strs (ss.drop len)) : DataW H).weights P t := by
        simp only [DataW.weights, ht, List.mem_cons, List.mem_append]
        exact .inr (.inl (weightsAll_mem hmem _ (by simp [DataW.weights])))
      have := List.all_eq_true.1 hsz _ (DataW.weights_mem_each hj hdj _ h1)
      simp only [decide_eq_true_eq] at this
      exact Nat.le_trans this (by decide)
    · rw [List.length_map, hlen]; simp only [maxLen] at hm; omega
    · have hjl : i < (strsV ((ss.take len).map fun s => s.data.toList)).length := (List.getElem?_eq_some_iff.1 hu).1
      rw [strsV_length, List.length_map, hlen] at hjl
      rw [hcell i (by omega), ← hu]
      simp [strsV, List.getElem?_take, hjl, show i < ss.length by omega, List.getD]
end
end Go.Proofs.Ytlpnoogcdnfllaa
/- A law's arguments that are slices of structs or of bools, as the walks take them. No program is spoken of. -/
namespace Go.Proofs.Ytlpnoogcdnfllaa
set_option linter.unnecessarySimpa false
open Go.ChangeShapes Go.WideShapes Go.ChangeAt Go.RowKit Go.Deep
set_option linter.unusedSimpArgs false
set_option linter.unusedVariables false
theorem flatMap_at {α : Type} {cells : α → List Value} {c : Nat} (hc : ∀ a, (cells a).length = c) : ∀ (l : List α) (j : Nat) (u : Value), (l.flatMap cells)[j]? = some u → ∃ i r, ∃ hi : i < l.length, r < c ∧ j = i * c + r ∧ (cells l[i])[r]? = some u
  | [], j, u, h => by simp at h
  | a :: l, j, u, h => by
    rw [List.flatMap_cons] at h
    by_cases hj : j < c
    · rw [List.getElem?_append_left (by rw [hc]; exact hj)] at h
      exact ⟨0, j, by simp, hj, by omega, h⟩
    · rw [List.getElem?_append_right (by rw [hc]; omega), hc] at h
      obtain ⟨i, r, hi, hr, he, hu⟩ := flatMap_at hc l _ u h
      exact ⟨i + 1, r, by simpa using hi, hr, by rw [Nat.succ_mul]; omega, by simpa using hu⟩
section
variable {H : Type} {enc : TypeId × Value → H} {P : Program} {W : World} {base : Nat} {t e : TypeId} {v : Value} {d : DataW H} {p : List MemPlace} {r : Reach} {b0 : Nat}
/-- a slice whose elements are some cells each -/
theorem open_slG {α : Type} [Inhabited α] (cells : α → List Value) (ok : α → Prop) {c : Nat} (hcl : ∀ a, (cells a).length = c) (ht : P.underlying t = some (.slice e)) (hc : P.cellsOf e = c)
    (step : ∀ n cs x, DataW.trod enc P W base (fun _ => true) true n e cs = some x → (∀ m ∈ x.1.weights P e, m ≤ reachBytes) → (∃ es sp, d = .slice es sp ∧ x.1 ∈ es) → ∃ a, cs = cells a ∧ ok a)
    (hval : Value.okWide P W r b0 t v) (hd : DataW.Trod enc P W base (fun _ => true) true t v d p)
    {ts : List TypeId} {ds : List (DataW H)} (hsz : (DataW.weightsEach P ts ds).all (· ≤ reachBytes) = true) {j : Nat} (hj : ts[j]? = some t) (hdj : ds[j]? = some d) :
    ∃ (l : List α) (A : Option Addr) (cap : Nat), v = .slice A l.length cap ∧ (∀ a ∈ l, ok a) ∧ (A = none → l = []) ∧ l.length * P.bytesOf e ≤ reachBytes ∧ l.length ≤ cap ∧ Sl W W.heap.size A (l.flatMap cells) := by
  obtain ⟨A, len, cap, rfl⟩ := okWide_slice ht hval
  obtain ⟨fuel, hf⟩ := hd
  rcases open_slice ht hf with ⟨hcs, _⟩ | ⟨a, len', cap', m, n, D, Pl, hcs, _, hl, hm, hmm, hx, hel⟩
  · simp [Value.cells] at hcs
    obtain ⟨rfl, rfl, rfl⟩ := hcs
    exact ⟨[], none, 0, rfl, by simp, fun _ => rfl, by simp, by simp, .inl rfl⟩
  · simp [Value.cells] at hcs
    obtain ⟨rfl, rfl, rfl⟩ := hcs
    simp only [if_true] at hmm
    subst hmm
    simp only [Prod.mk.injEq] at hx
    obtain ⟨rfl, rfl⟩ := hx
    obtain ⟨B, hB⟩ := choose_lt (α := α) (p := fun i b => W.cells? base (a.add (i * c)) c = some (cells b) ∧ ok b) (n := len) (fun i hi => by
      obtain ⟨cs', h1, h2⟩ := hel i (by omega)
      have hw : ∀ k ∈ (D i).weights P e, k ≤ reachBytes := fun k hk => by
        have hmem : D i ∈ (List.range len).map D := List.mem_map.2 ⟨i, List.mem_range.2 hi, rfl⟩
        have h1 : k ∈ (DataW.slice ((List.range len).map D) ((List.range (m - len)).map fun j => D (len + j)) : DataW H).weights P t := by
          simp only [DataW.weights, ht, List.mem_cons, List.mem_append]
          exact .inr (.inl (weightsAll_mem hmem _ hk))
        have := List.all_eq_true.1 hsz _ (DataW.weights_mem_each hj hdj _ h1)
        simpa using this
      obtain ⟨b, rfl, hb⟩ := step n cs' _ h2 hw ⟨_, _, rfl, List.mem_map.2 ⟨i, List.mem_range.2 hi, rfl⟩⟩
      rw [hc] at h1
      exact ⟨b, h1, hb⟩)
    have hln : ((List.range len).map B).length = len := by simp
    refine ⟨(List.range len).map B, some a, m, by rw [hln], ?_, fun q => (by cases q), ?_, by rw [hln]; exact hl, sl_of_cells fun i u hu => ?_⟩
    · intro b hb
      obtain ⟨i, hi, rfl⟩ := List.mem_map.1 hb
      exact (hB i (List.mem_range.1 hi)).2
    · rw [hln]
      have := sized_slice hsz hj hdj ht
      simp only [List.length_map, List.length_range] at this
      exact Nat.le_trans (Nat.mul_le_mul_right _ (by omega)) this
    · obtain ⟨q, s, hq, hs, rfl, hu'⟩ := flatMap_at hcl _ _ _ hu
      have hq' : q < len := by simpa using hq
      have hg : ((List.range len).map B)[q] = B q := by simp
      rw [hg] at hu'
      rw [← add_add, (World.cells?_some (hB q hq').1).2.2 s hs]
      exact hu'
/-- a slice of bools -/
theorem open_slB (ht : P.underlying t = some (.slice e)) (he : P.underlying e = some .bool) (hc : P.cellsOf e = 1) (hb1 : P.bytesOf e = 1) (hval : Value.okWide P W r b0 t v) (hd : DataW.Trod enc P W base (fun _ => true) true t v d p)
    {ts : List TypeId} {ds : List (DataW H)} (hsz : (DataW.weightsEach P ts ds).all (· ≤ reachBytes) = true) {j : Nat} (hj : ts[j]? = some t) (hdj : ds[j]? = some d) :
    ∃ (l : List Bool) (A : Option Addr) (cap : Nat), v = .slice A l.length cap ∧ (A = none → l = []) ∧ l.length ≤ 140737488351232 ∧ Sl W W.heap.size A (l.map fun b => .bool b) := by
  obtain ⟨l, A, cap, h1, _, h2, h3, _, h4⟩ := open_slG (fun b : Bool => [Value.bool b]) (fun _ => True) (c := 1) (fun _ => rfl) ht hc (fun n cs x hx _ _ => by
    obtain ⟨b, rfl, _⟩ := DataW.trod_bool he hx
    exact ⟨b, rfl, trivial⟩) hval hd hsz hj hdj
  refine ⟨l, A, cap, h1, h2, ?_, ?_⟩
  · rw [hb1, Nat.mul_one] at h3
    exact Nat.le_trans h3 (by decide)
  · have e : ∀ l : List Bool, (l.flatMap fun b => [Value.bool b]) = l.map fun b => .bool b := fun l => by
      induction l with
      | nil => rfl
      | cons b l ih => simp only [List.flatMap_cons, List.map_cons, ih]; rfl
    rwa [e] at h4
/-- two numbers with a sign -/
theorem open_arr2 (ht : P.underlying t = some (.array 2 e)) (he : P.underlying e = some (.int .i64)) (hc : P.cellsOf e = 1) (hC : P.cellsOf t = 2) (hval : Value.okWide P W r b0 t v) (hd : DataW.Trod enc P W base (fun _ => true) true t v d p) :
    ∃ a b : Int, v = .agg [.int .i64 a, .int .i64 b].toArray := by
  obtain ⟨cs, rfl, hs⟩ : ∃ cs, v = .agg cs ∧ cs.size = P.cellsOf t := by
    simp only [Value.okWide, ht] at hval
    obtain ⟨cs, h1, h2, _⟩ := hval
    exact ⟨cs, h1, h2⟩
  obtain ⟨fuel, hf⟩ := hd
  obtain ⟨xs, m, rfl, _, hl, hlen, hx⟩ := DataW.trod_array ht hf
  obtain ⟨l⟩ := cs
  have hs' : l.length = 2 := by simpa [hC] using hs
  match l, hs' with
  | [u0, u1], _ =>
    have g : ∀ i, i < 2 → ∃ y, xs[i]? = some y := fun i hi => ⟨_, List.getElem?_eq_getElem (by rw [hlen]; exact hi)⟩
    obtain ⟨y0, e0⟩ := g 0 (by omega)
    obtain ⟨y1, e1⟩ := g 1 (by omega)
    have f0 := (hx 0 (by omega)).trans e0
    have f1 := (hx 1 (by omega)).trans e1
    rw [hc] at f0 f1
    simp only [Value.cells, Nat.zero_mul, Nat.one_mul, List.drop_zero, List.drop_succ_cons, List.take_succ_cons, List.take_zero] at f0 f1
    obtain ⟨n0, h0, _⟩ := DataW.trod_int he f0
    obtain ⟨n1, h1, _⟩ := DataW.trod_int he f1
    simp only [List.cons.injEq, and_true] at h0 h1
    subst h0 h1
    exact ⟨n0, n1, rfl⟩
/-- a struct by value -/
theorem open_stG {α : Type} (cells : α → List Value) (ok : α → Prop) {fs : Array Field} (ht : P.underlying t = some (.struct fs))
    (step : ∀ n cs x, DataW.trod enc P W base (fun _ => true) true n t cs = some x → (∀ m ∈ x.1.weights P t, m ≤ reachBytes) → ∃ a, cs = cells a ∧ ok a)
    (hval : Value.okWide P W r b0 t v) (hd : DataW.Trod enc P W base (fun _ => true) true t v d p)
    {ts : List TypeId} {ds : List (DataW H)} (hsz : (DataW.weightsEach P ts ds).all (· ≤ reachBytes) = true) {j : Nat} (hj : ts[j]? = some t) (hdj : ds[j]? = some d) :
    ∃ a : α, v = .agg (cells a).toArray ∧ ok a := by
  obtain ⟨⟨l⟩, rfl, hs⟩ := okWide_struct ht hval
  obtain ⟨fuel, hf⟩ := hd
  obtain ⟨a, h1, h2⟩ := step fuel _ _ hf (fun m hm => by
    have := List.all_eq_true.1 hsz _ (DataW.weights_mem_each hj hdj _ hm)
    simpa using this)
  simp only [Value.cells] at h1
  exact ⟨a, by rw [← h1], h2⟩
end
end Go.Proofs.Ytlpnoogcdnfllaa
/- record: records and members among a law's arguments. -/
namespace Go.Proofs.Ytlpnoogcdnfllaa
set_option linter.unnecessarySimpa false
set_option linter.unusedSimpArgs false
open Go.ChangeShapes Go.WideShapes Go.ChangeAt Go.RowKit Go.Deep Rec
set_option linter.unusedVariables false
structure _root_.Go.Proofs.Ytlpnoogcdnfllaa.Rec.R.Ok (x : R) : Prop where
  kind : x.kind ≤ 255
  data : x.data.length ≤ 140737488351232
structure _root_.Go.Proofs.Ytlpnoogcdnfllaa.Rec.M.Wide (m : M) : Prop where
  path : m.path.length ≤ 140737488351232
  sum : m.sum ≤ 4294967295
theorem four {l : List Value} (h : l.length = 4) : ∃ a b c d, l = [a, b, c, d] := by
  match l, h with
  | [a, b, c, d], _ => exact ⟨a, b, c, d, rfl⟩
theorem five {l : List Value} (h : l.length = 5) : ∃ a b c d e, l = [a, b, c, d, e] := by
  match l, h with
  | [a, b, c, d, e], _ => exact ⟨a, b, c, d, e, rfl⟩
section
variable {H : Type} {enc : TypeId × Value → H} {W : World} {base : Nat} {v : Value} {d : DataW H} {p : List MemPlace} {r : Reach} {b0 : Nat}
theorem weight_at {P : Program} {ts : List TypeId} {ds : List (DataW H)} {j : Nat} {t : TypeId} {s : List UInt8} (h : ∀ m ∈ DataW.weightsEach P ts ds, m ≤ reachBytes) (ht : ts[j]? = some t) (hd : ds[j]? = some (.lit (.string s))) : s.length ≤ 140737488351232 :=
  Nat.le_trans (h _ (DataW.weights_mem_each ht hd _ (by simp [DataW.weights]))) (by decide)
set_option maxRecDepth 20000 in
theorem rec_step (n : Nat) (cs : List Value) (x : DataW H × List MemPlace) (h : DataW.trod enc Try.prog W base (fun _ => true) true n 77 cs = some x) (hw : ∀ m ∈ x.1.weights Try.prog 77, m ≤ reachBytes) : ∃ a : R, cs = a.cells ∧ a.Ok := by
  obtain ⟨xs, m, rfl, rfl, hl, hlen, hf⟩ := DataW.trod_struct Try.underlying77 h
  obtain ⟨c0, c1, c2, c3, rfl⟩ := four (hl.trans (by kernel_rfl))
  have g : ∀ i (hi : i < 4), ∃ y, xs[i]? = some y := fun i hi => ⟨_, List.getElem?_eq_getElem (by rw [hlen]; exact hi)⟩
  obtain ⟨y0, e0⟩ := g 0 (by omega)
  obtain ⟨y1, e1⟩ := g 1 (by omega)
  obtain ⟨y2, e2⟩ := g 2 (by omega)
  obtain ⟨y3, e3⟩ := g 3 (by omega)
  have f0 : DataW.trod enc Try.prog W base (fun _ => true) true m 5 ((([c0, c1, c2, c3] : List Value).drop 0).take (Try.prog.cellsOf 5)) = some y0 := (hf 0 _ rfl).trans e0
  have f1 : DataW.trod enc Try.prog W base (fun _ => true) true m 3 ((([c0, c1, c2, c3] : List Value).drop 1).take (Try.prog.cellsOf 3)) = some y1 := (hf 1 _ rfl).trans e1
  have f2 : DataW.trod enc Try.prog W base (fun _ => true) true m 3 ((([c0, c1, c2, c3] : List Value).drop 2).take (Try.prog.cellsOf 3)) = some y2 := (hf 2 _ rfl).trans e2
  have f3 : DataW.trod enc Try.prog W base (fun _ => true) true m 9 ((([c0, c1, c2, c3] : List Value).drop 3).take (Try.prog.cellsOf 9)) = some y3 := (hf 3 _ rfl).trans e3
  rw [show Try.prog.cellsOf 5 = 1 by kernel_rfl] at f0
  rw [show Try.prog.cellsOf 3 = 1 by kernel_rfl] at f1 f2
  rw [show Try.prog.cellsOf 9 = 1 by kernel_rfl] at f3
  simp only [List.drop_zero, List.drop_succ_cons, List.take_succ_cons, List.take_zero] at f0 f1 f2 f3
  obtain ⟨n0, h0, _, w0⟩ := DataW.trod_int Try.underlying5 f0
  obtain ⟨n1, h1, _, w1⟩ := DataW.trod_int Try.underlying3 f1
  obtain ⟨n2, h2, _, w2⟩ := DataW.trod_int Try.underlying3 f2
  obtain ⟨s3, h3, hy3, w3⟩ := DataW.trod_string Try.underlying9 f3
  simp only [List.cons.injEq, and_true] at h0 h1 h2 h3
  obtain ⟨m0, rfl, hm0⟩ := wf_nat rfl w0
  subst h0 h1 h2 h3
  have hd3 : (xs.map (·.1))[3]? = some (.lit (.string s3.data.toList)) := by rw [List.getElem?_map, e3, hy3]; rfl
  have hwe : ∀ k ∈ DataW.weightsEach Try.prog [5, 3, 3, 9] (xs.map (·.1)), k ≤ reachBytes := fun k hk => hw k (by
    simp only [DataW.weights, Try.underlying77]
    exact hk)
  exact ⟨⟨m0, n1, n2, s3.data.toList⟩, rfl, ⟨by simpa [maxN] using hm0, weight_at (j := 3) hwe rfl hd3⟩⟩
set_option maxRecDepth 20000 in
theorem mem_step (n : Nat) (cs : List Value) (x : DataW H × List MemPlace) (h : DataW.trod enc Try.prog W base (fun _ => true) true n 67 cs = some x) (hw : ∀ m ∈ x.1.weights Try.prog 67, m ≤ reachBytes) : ∃ a : M, cs = a.cells ∧ a.Wide := by
  obtain ⟨xs, m, rfl, rfl, hl, hlen, hf⟩ := DataW.trod_struct Try.underlying67 h
  obtain ⟨c0, c1, c2, c3, c4, rfl⟩ := five (hl.trans (by kernel_rfl))
  have g : ∀ i (hi : i < 5), ∃ y, xs[i]? = some y := fun i hi => ⟨_, List.getElem?_eq_getElem (by rw [hlen]; exact hi)⟩
  obtain ⟨y0, e0⟩ := g 0 (by omega)
  obtain ⟨y1, e1⟩ := g 1 (by omega)
  obtain ⟨y2, e2⟩ := g 2 (by omega)
  obtain ⟨y3, e3⟩ := g 3 (by omega)
  obtain ⟨y4, e4⟩ := g 4 (by omega)
  have f0 : DataW.trod enc Try.prog W base (fun _ => true) true m 9 ((([c0, c1, c2, c3, c4] : List Value).drop 0).take (Try.prog.cellsOf 9)) = some y0 := (hf 0 _ rfl).trans e0
  have f1 : DataW.trod enc Try.prog W base (fun _ => true) true m 3 ((([c0, c1, c2, c3, c4] : List Value).drop 1).take (Try.prog.cellsOf 3)) = some y1 := (hf 1 _ rfl).trans e1
  have f2 : DataW.trod enc Try.prog W base (fun _ => true) true m 3 ((([c0, c1, c2, c3, c4] : List Value).drop 2).take (Try.prog.cellsOf 3)) = some y2 := (hf 2 _ rfl).trans e2
  have f3 : DataW.trod enc Try.prog W base (fun _ => true) true m 3 ((([c0, c1, c2, c3, c4] : List Value).drop 3).take (Try.prog.cellsOf 3)) = some y3 := (hf 3 _ rfl).trans e3
  have f4 : DataW.trod enc Try.prog W base (fun _ => true) true m 65 ((([c0, c1, c2, c3, c4] : List Value).drop 4).take (Try.prog.cellsOf 65)) = some y4 := (hf 4 _ rfl).trans e4
  rw [show Try.prog.cellsOf 9 = 1 by kernel_rfl] at f0
  rw [show Try.prog.cellsOf 3 = 1 by kernel_rfl] at f1 f2 f3
  rw [show Try.prog.cellsOf 65 = 1 by kernel_rfl] at f4
  simp only [List.drop_zero, List.drop_succ_cons, List.take_succ_cons, List.take_zero] at f0 f1 f2 f3 f4
  obtain ⟨s0, h0, hy0, w0⟩ := DataW.trod_string Try.underlying9 f0
  obtain ⟨n1, h1, _, w1⟩ := DataW.trod_int Try.underlying3 f1
  obtain ⟨n2, h2, _, w2⟩ := DataW.trod_int Try.underlying3 f2
  obtain ⟨n3, h3, _, w3⟩ := DataW.trod_int Try.underlying3 f3
  obtain ⟨n4, h4, _, w4⟩ := DataW.trod_int Try.underlying65 f4
  simp only [List.cons.injEq, and_true] at h0 h1 h2 h3 h4
  obtain ⟨m4, rfl, hm4⟩ := wf_nat rfl w4
  subst h0 h1 h2 h3 h4
  have hd0 : (xs.map (·.1))[0]? = some (.lit (.string s0.data.toList)) := by rw [List.getElem?_map, e0, hy0]; rfl
  have hwe : ∀ k ∈ DataW.weightsEach Try.prog [9, 3, 3, 3, 65] (xs.map (·.1)), k ≤ reachBytes := fun k hk => hw k (by
    simp only [DataW.weights, Try.underlying67]
    exact hk)
  exact ⟨⟨s0.data.toList, n1, n2, n3, m4⟩, rfl, ⟨weight_at (j := 0) hwe rfl hd0, by simpa [maxN] using hm4⟩⟩
set_option maxRecDepth 20000 in
theorem open_Record (hval : Value.okWide Try.prog W r b0 77 v) (hd : DataW.Trod enc Try.prog W base (fun _ => true) true 77 v d p)
    {ts : List TypeId} {ds : List (DataW H)} (hsz : (DataW.weightsEach Try.prog ts ds).all (· ≤ reachBytes) = true) {j : Nat} (hj : ts[j]? = some 77) (hdj : ds[j]? = some d) : ∃ x : R, v = .agg x.cells.toArray ∧ x.Ok :=
  open_stG R.cells R.Ok Try.underlying77 rec_step hval hd hsz hj hdj
end
end Go.Proofs.Ytlpnoogcdnfllaa
/- record: any member may be, and is laid, as the document says (of bounded bulk). -/
namespace Go.Proofs.Ytlpnoogcdnfllaa
set_option linter.unnecessarySimpa false
open Go.ChangeShapes Go.WideShapes Go.ChangeAt Go.RowKit Go.Deep Rec
set_option linter.unusedVariables false
set_option linter.unusedSimpArgs false

section
variable {H : Type} {enc : TypeId × Value → H} {W : World} {base : Nat} {v : Value} {d : DataW H} {p : List MemPlace} {r : Reach} {b0 : Nat}
set_option maxRecDepth 20000 in
theorem mem_stepU (n : Nat) (cs : List Value) (x : DataW H × List MemPlace) (h : DataW.trod enc Try.prog W base (fun _ => true) true n 67 cs = some x) (hw : Rows.uptoBulk x.1 ≤ 1048576) : ∃ a : M, cs = a.cells ∧ a.Ok := by
  obtain ⟨xs, m, rfl, rfl, hl, hlen, hf⟩ := DataW.trod_struct Try.underlying67 h
  obtain ⟨c0, c1, c2, c3, c4, rfl⟩ := five (hl.trans (by kernel_rfl))
  have g : ∀ i (hi : i < 5), ∃ y, xs[i]? = some y := fun i hi => ⟨_, List.getElem?_eq_getElem (by rw [hlen]; exact hi)⟩
  obtain ⟨y0, e0⟩ := g 0 (by omega)
  obtain ⟨y1, e1⟩ := g 1 (by omega)
  obtain ⟨y2, e2⟩ := g 2 (by omega)
  obtain ⟨y3, e3⟩ := g 3 (by omega)
  obtain ⟨y4, e4⟩ := g 4 (by omega)
  have f0 : DataW.trod enc Try.prog W base (fun _ => true) true m 9 ((([c0, c1, c2, c3, c4] : List Value).drop 0).take (Try.prog.cellsOf 9)) = some y0 := (hf 0 _ rfl).trans e0
  have f1 : DataW.trod enc Try.prog W base (fun _ => true) true m 3 ((([c0, c1, c2, c3, c4] : List Value).drop 1).take (Try.prog.cellsOf 3)) = some y1 := (hf 1 _ rfl).trans e1
  have f2 : DataW.trod enc Try.prog W base (fun _ => true) true m 3 ((([c0, c1, c2, c3, c4] : List Value).drop 2).take (Try.prog.cellsOf 3)) = some y2 := (hf 2 _ rfl).trans e2
  have f3 : DataW.trod enc Try.prog W base (fun _ => true) true m 3 ((([c0, c1, c2, c3, c4] : List Value).drop 3).take (Try.prog.cellsOf 3)) = some y3 := (hf 3 _ rfl).trans e3
  have f4 : DataW.trod enc Try.prog W base (fun _ => true) true m 65 ((([c0, c1, c2, c3, c4] : List Value).drop 4).take (Try.prog.cellsOf 65)) = some y4 := (hf 4 _ rfl).trans e4
  rw [show Try.prog.cellsOf 9 = 1 by kernel_rfl] at f0
  rw [show Try.prog.cellsOf 3 = 1 by kernel_rfl] at f1 f2 f3
  rw [show Try.prog.cellsOf 65 = 1 by kernel_rfl] at f4
  simp only [List.drop_zero, List.drop_succ_cons, List.take_succ_cons, List.take_zero] at f0 f1 f2 f3 f4
  obtain ⟨s0, h0, hy0, w0⟩ := DataW.trod_string Try.underlying9 f0
  obtain ⟨n1, h1, _, w1⟩ := DataW.trod_int Try.underlying3 f1
  obtain ⟨n2, h2, _, w2⟩ := DataW.trod_int Try.underlying3 f2
  obtain ⟨n3, h3, _, w3⟩ := DataW.trod_int Try.underlying3 f3
  obtain ⟨n4, h4, _, w4⟩ := DataW.trod_int Try.underlying65 f4
  simp only [List.cons.injEq, and_true] at h0 h1 h2 h3 h4
  obtain ⟨m4, rfl, hm4⟩ := wf_nat rfl w4
  subst h0 h1 h2 h3 h4
  refine ⟨⟨s0.data.toList, n1, n2, n3, m4⟩, rfl, ⟨?_, by simpa [maxN] using hm4⟩⟩
  match xs, e0 with
  | y :: xs, e0 =>
    simp only [List.getElem?_cons_zero, Option.some.injEq] at e0
    rw [e0, hy0] at hw
    simp only [List.map_cons, Rows.uptoBulk, Rows.uptoBulkAll] at hw
    show s0.data.toList.length ≤ 1000000000000
    omega
set_option maxRecDepth 20000 in
theorem openU_Member (hval : Value.okWide Try.prog W r b0 67 v) (hd : DataW.Trod enc Try.prog W base (fun _ => true) true 67 v d p) (hb : Rows.uptoBulk d ≤ 1048576) : ∃ m : M, v = .agg m.cells.toArray ∧ m.Ok := by
  obtain ⟨⟨l⟩, rfl, hs⟩ := okWide_struct Try.underlying67 hval
  obtain ⟨fuel, hf⟩ := hd
  obtain ⟨a, h1, h2⟩ := mem_stepU fuel _ _ hf hb
  simp only [Value.cells] at h1
  exact ⟨a, by rw [← h1], h2⟩
end
end Go.Proofs.Ytlpnoogcdnfllaa
/- Slices that stand within a law's arguments, as the walks take them. No program is spoken of. -/
namespace Go.Proofs.Ytlpnoogcdnfllaa
set_option linter.unnecessarySimpa false
open Go.ChangeShapes Go.WideShapes Go.ChangeAt Go.RowKit Go.Deep
set_option linter.unusedSimpArgs false
set_option linter.unusedVariables false
section
variable {H : Type} {enc : TypeId × Value → H} {P : Program} {W : World} {base : Nat} {t e : TypeId}
theorem nest_slG {α : Type} [Inhabited α] (cells : α → List Value) (ok : α → Prop) {c : Nat} (hcl : ∀ a, (cells a).length = c) (ht : P.underlying t = some (.slice e)) (hc : P.cellsOf e = c)
    (step : ∀ n cs x, DataW.trod enc P W base (fun _ => true) true n e cs = some x → (∀ m ∈ x.1.weights P e, m ≤ reachBytes) → ∃ a, cs = cells a ∧ ok a)
    {n0 : Nat} {cs0 : List Value} {x0 : DataW H × List MemPlace} (hf : DataW.trod enc P W base (fun _ => true) true n0 t cs0 = some x0) (hsz : ∀ m ∈ x0.1.weights P t, m ≤ reachBytes) :
    ∃ (l : List α) (A : Option Addr) (cap : Nat), cs0 = [.slice A l.length cap] ∧ (∀ a ∈ l, ok a) ∧ (A = none → l = []) ∧ l.length * P.bytesOf e ≤ reachBytes ∧ l.length ≤ cap ∧ Sl W W.heap.size A (l.flatMap cells) := by
  rcases open_slice ht hf with ⟨hcs, _⟩ | ⟨a, len, cap, m, n, D, Pl, rfl, _, hl, hm, hmm, hx, hel⟩
  · exact ⟨[], none, 0, hcs, by simp, fun _ => rfl, by simp, by simp, .inl rfl⟩
  · simp only [if_true] at hmm
    subst hmm
    subst hx
    obtain ⟨B, hB⟩ := choose_lt (α := α) (p := fun i b => W.cells? base (a.add (i * c)) c = some (cells b) ∧ ok b) (n := len) (fun i hi => by
      obtain ⟨cs', h1, h2⟩ := hel i (by omega)
      have hw : ∀ k ∈ (D i).weights P e, k ≤ reachBytes := fun k hk => by
        have hmem : D i ∈ (List.range len).map D := List.mem_map.2 ⟨i, List.mem_range.2 hi, rfl⟩
        refine hsz k ?_
        simp only [DataW.weights, ht, List.mem_cons, List.mem_append]
        exact .inr (.inl (weightsAll_mem hmem _ hk))
      obtain ⟨b, rfl, hb⟩ := step n cs' _ h2 hw
      rw [hc] at h1
      exact ⟨b, h1, hb⟩)
    have hln : ((List.range len).map B).length = len := by simp
    refine ⟨(List.range len).map B, some a, m, by rw [hln], ?_, fun q => (by cases q), ?_, by rw [hln]; exact hl, sl_of_cells fun i u hu => ?_⟩
    · intro b hb
      obtain ⟨i, hi, rfl⟩ := List.mem_map.1 hb
      exact (hB i (List.mem_range.1 hi)).2
    · rw [hln]
      have := hsz ((((List.range len).map D).length + ((List.range (m - len)).map fun j => D (len + j)).length) * P.bytesOf e) (by simp [DataW.weights, ht])
      simp only [List.length_map, List.length_range] at this
      exact Nat.le_trans (Nat.mul_le_mul_right _ (by omega)) this
    · obtain ⟨q, s, hq, hs, rfl, hu'⟩ := flatMap_at hcl _ _ _ hu
      have hq' : q < len := by simpa using hq
      have hg : ((List.range len).map B)[q] = B q := by simp
      rw [hg] at hu'
      rw [← add_add, (World.cells?_some (hB q hq').1).2.2 s hs]
      exact hu'
/-- the same, with what a step knows of the whole -/
theorem nest_slM {α : Type} [Inhabited α] (cells : α → List Value) (ok : α → Prop) {c : Nat} (hcl : ∀ a, (cells a).length = c) (ht : P.underlying t = some (.slice e)) (hc : P.cellsOf e = c)
    {n0 : Nat} {cs0 : List Value} {x0 : DataW H × List MemPlace} (step : ∀ n cs x, DataW.trod enc P W base (fun _ => true) true n e cs = some x → (∀ m ∈ x.1.weights P e, m ≤ reachBytes) → (∃ es sp, x0.1 = .slice es sp ∧ x.1 ∈ es) → ∃ a, cs = cells a ∧ ok a)
    (hf : DataW.trod enc P W base (fun _ => true) true n0 t cs0 = some x0) (hsz : ∀ m ∈ x0.1.weights P t, m ≤ reachBytes) :
    ∃ (l : List α) (A : Option Addr) (cap : Nat), cs0 = [.slice A l.length cap] ∧ (∀ a ∈ l, ok a) ∧ (A = none → l = []) ∧ l.length * P.bytesOf e ≤ reachBytes ∧ l.length ≤ cap ∧ Sl W W.heap.size A (l.flatMap cells) := by
  rcases open_slice ht hf with ⟨hcs, _⟩ | ⟨a, len, cap, m, n, D, Pl, rfl, _, hl, hm, hmm, hx, hel⟩
  · exact ⟨[], none, 0, hcs, by simp, fun _ => rfl, by simp, by simp, .inl rfl⟩
  · simp only [if_true] at hmm
    subst hmm
    subst hx
    obtain ⟨B, hB⟩ := choose_lt (α := α) (p := fun i b => W.cells? base (a.add (i * c)) c = some (cells b) ∧ ok b) (n := len) (fun i hi => by
      obtain ⟨cs', h1, h2⟩ := hel i (by omega)
      have hw : ∀ k ∈ (D i).weights P e, k ≤ reachBytes := fun k hk => by
        have hmem : D i ∈ (List.range len).map D := List.mem_map.2 ⟨i, List.mem_range.2 hi, rfl⟩
        refine hsz k ?_
        simp only [DataW.weights, ht, List.mem_cons, List.mem_append]
        exact .inr (.inl (weightsAll_mem hmem _ hk))
      obtain ⟨b, rfl, hb⟩ := step n cs' _ h2 hw ⟨_, _, rfl, List.mem_map.2 ⟨i, List.mem_range.2 hi, rfl⟩⟩
      rw [hc] at h1
      exact ⟨b, h1, hb⟩)
    have hln : ((List.range len).map B).length = len := by simp
    refine ⟨(List.range len).map B, some a, m, by rw [hln], ?_, fun q => (by cases q), ?_, by rw [hln]; exact hl, sl_of_cells fun i u hu => ?_⟩
    · intro b hb
      obtain ⟨i, hi, rfl⟩ := List.mem_map.1 hb
      exact (hB i (List.mem_range.1 hi)).2
    · rw [hln]
      have := hsz ((((List.range len).map D).length + ((List.range (m - len)).map fun j => D (len + j)).length) * P.bytesOf e) (by simp [DataW.weights, ht])
      simp only [List.length_map, List.length_range] at this
      exact Nat.le_trans (Nat.mul_le_mul_right _ (by omega)) this
    · obtain ⟨q, s, hq, hs, rfl, hu'⟩ := flatMap_at hcl _ _ _ hu
      have hq' : q < len := by simpa using hq
      have hg : ((List.range len).map B)[q] = B q := by simp
      rw [hg] at hu'
      rw [← add_add, (World.cells?_some (hB q hq').1).2.2 s hs]
      exact hu'
/-- a slice of bools within -/
theorem nest_slB (ht : P.underlying t = some (.slice e)) (he : P.underlying e = some .bool) (hc : P.cellsOf e = 1) (hb1 : P.bytesOf e = 1)
    {n0 : Nat} {cs0 : List Value} {x0 : DataW H × List MemPlace} (hf : DataW.trod enc P W base (fun _ => true) true n0 t cs0 = some x0) (hsz : ∀ m ∈ x0.1.weights P t, m ≤ reachBytes) :
    ∃ (l : List Bool) (A : Option Addr) (cap : Nat), cs0 = [.slice A l.length cap] ∧ (A = none → l = []) ∧ l.length ≤ 140737488351232 ∧ Sl W W.heap.size A (l.map fun b => .bool b) := by
  obtain ⟨l, A, cap, h1, _, h2, h3, _, h4⟩ := nest_slG (fun b : Bool => [Value.bool b]) (fun _ => True) (c := 1) (fun _ => rfl) ht hc (fun n cs x hx _ => by
    obtain ⟨b, rfl, _⟩ := DataW.trod_bool he hx
    exact ⟨b, rfl, trivial⟩) hf hsz
  refine ⟨l, A, cap, h1, h2, ?_, ?_⟩
  · rw [hb1, Nat.mul_one] at h3
    exact Nat.le_trans h3 (by decide)
  · have e : ∀ l : List Bool, (l.flatMap fun b => [Value.bool b]) = l.map fun b => .bool b := fun l => by
      induction l with
      | nil => rfl
      | cons b l ih => simp only [List.flatMap_cons, List.map_cons, ih]; rfl
    rwa [e] at h4
/-- an array of two within -/
theorem nest_arr2 (ht : P.underlying t = some (.array 2 e)) (hc : P.cellsOf e = 1) {n0 : Nat} {c0 c1 : Value} {x0 : DataW H × List MemPlace} (hf : DataW.trod enc P W base (fun _ => true) true n0 t [c0, c1] = some x0) (hsz : ∀ m ∈ x0.1.weights P t, m ≤ reachBytes) :
    ∃ (y0 y1 : DataW H × List MemPlace) (m : Nat), DataW.trod enc P W base (fun _ => true) true m e [c0] = some y0 ∧ DataW.trod enc P W base (fun _ => true) true m e [c1] = some y1 ∧ (∀ k ∈ y0.1.weights P e, k ≤ reachBytes) ∧ ∀ k ∈ y1.1.weights P e, k ≤ reachBytes := by
  obtain ⟨xs, m, rfl, rfl, hl, hlen, hx⟩ := DataW.trod_array ht hf
  have g : ∀ i, i < 2 → ∃ y, xs[i]? = some y := fun i hi => ⟨_, List.getElem?_eq_getElem (by rw [hlen]; exact hi)⟩
  obtain ⟨y0, e0⟩ := g 0 (by omega)
  obtain ⟨y1, e1⟩ := g 1 (by omega)
  have f0 := (hx 0 (by omega)).trans e0
  have f1 := (hx 1 (by omega)).trans e1
  rw [hc] at f0 f1
  simp only [Nat.zero_mul, Nat.one_mul, List.drop_zero, List.drop_succ_cons, List.take_succ_cons, List.take_zero] at f0 f1
  have hw : ∀ y, y ∈ xs → ∀ k ∈ y.1.weights P e, k ≤ reachBytes := fun y hy k hk => hsz k (by
    simp only [DataW.weights, ht]
    exact weightsAll_mem (List.mem_map_of_mem hy) _ hk)
  exact ⟨y0, y1, m, f0, f1, hw y0 (List.mem_of_getElem? e0), hw y1 (List.mem_of_getElem? e1)⟩
end
end Go.Proofs.Ytlpnoogcdnfllaa
/- wal: lists of transactions among a law's arguments (of bounded bulk). -/
namespace Go.Proofs.Ytlpnoogcdnfllaa
set_option linter.unnecessarySimpa false
open Go.ChangeShapes Go.WideShapes Go.ChangeAt Go.RowKit Go.Deep Rec Wal
set_option linter.unusedVariables false
set_option linter.unusedSimpArgs false
theorem six {l : List Value} (h : l.length = 6) : ∃ a b c d e f, l = [a, b, c, d, e, f] := by
  match l, h with
  | [a, b, c, d, e, f], _ => exact ⟨a, b, c, d, e, f, rfl⟩
section
variable {H : Type} {enc : TypeId × Value → H} {W : World} {base : Nat} {v : Value} {d : DataW H} {p : List MemPlace} {r : Reach} {b0 : Nat}
set_option maxRecDepth 20000 in
theorem note_stepU (n : Nat) (cs : List Value) (x : DataW H × List MemPlace) (h : DataW.trod enc Try.prog W base (fun _ => true) true n 69 cs = some x) (hw : Rows.uptoBulk x.1 ≤ 1048576) : ∃ a : Nt, cs = a.cells ∧ a.mem.Ok := by
  obtain ⟨xs, m, rfl, rfl, hl, hlen, hf⟩ := DataW.trod_struct Try.underlying69 h
  obtain ⟨c0, c1, c2, c3, c4, c5, rfl⟩ := six (hl.trans (by kernel_rfl))
  have g : ∀ i (hi : i < 2), ∃ y, xs[i]? = some y := fun i hi => ⟨_, List.getElem?_eq_getElem (by rw [hlen]; exact hi)⟩
  obtain ⟨y0, e0⟩ := g 0 (by omega)
  obtain ⟨y1, e1⟩ := g 1 (by omega)
  have f0 : DataW.trod enc Try.prog W base (fun _ => true) true m 3 ((([c0, c1, c2, c3, c4, c5] : List Value).drop 0).take (Try.prog.cellsOf 3)) = some y0 := (hf 0 _ rfl).trans e0
  have f1 : DataW.trod enc Try.prog W base (fun _ => true) true m 67 ((([c0, c1, c2, c3, c4, c5] : List Value).drop 1).take (Try.prog.cellsOf 67)) = some y1 := (hf 1 _ rfl).trans e1
  rw [show Try.prog.cellsOf 3 = 1 by kernel_rfl] at f0
  rw [show Try.prog.cellsOf 67 = 5 by kernel_rfl] at f1
  simp only [List.drop_zero, List.drop_succ_cons, List.take_succ_cons, List.take_zero] at f0 f1
  obtain ⟨n0, h0, _, w0⟩ := DataW.trod_int Try.underlying3 f0
  have hb : Rows.uptoBulk y1.1 ≤ 1048576 := by
    match xs, e1 with
    | z0 :: z1 :: xs, e1 =>
      simp only [List.getElem?_cons_succ, List.getElem?_cons_zero, Option.some.injEq] at e1
      subst e1
      simp only [List.map_cons, Rows.uptoBulk, Rows.uptoBulkAll] at hw
      omega
  obtain ⟨a, h1, h2⟩ := mem_stepU m _ _ f1 hb
  simp only [List.cons.injEq, and_true] at h0
  subst h0
  exact ⟨⟨n0, a⟩, by rw [h1]; rfl, h2⟩
instance : Inhabited Nt := ⟨⟨0, bare []⟩⟩
theorem bulk_memO : ∀ {es : List (DataW H)} {x : DataW H}, x ∈ es → Rows.uptoBulk x ≤ Rows.uptoBulkAll es
  | y :: es, x, h => by
    simp only [Rows.uptoBulkAll]
    rcases List.mem_cons.1 h with rfl | h
    · omega
    · have := bulk_memO h; omega
def slCell (a : List Nt × Option Addr × Nat) : List Value := [.slice a.2.1 a.1.length a.2.2]
theorem txs_of : ∀ (l : List (List Nt × Option Addr × Nat)), (∀ a ∈ l, Sl W W.heap.size a.2.1 (ntsV a.1)) → TxS W W.heap.size (l.flatMap slCell) (l.map (·.1))
  | [], _ => trivial
  | a :: l, h => ⟨⟨_, _, rfl, h a (by simp)⟩, txs_of l (fun x hx => h x (by simp [hx]))⟩
set_option maxRecDepth 20000 in
theorem openUs_Note (hval : Value.okWide Try.prog W r b0 22 v) (hd : DataW.Trod enc Try.prog W base (fun _ => true) true 22 v d p)
    {ts : List TypeId} {ds : List (DataW H)} (hsz : (DataW.weightsEach Try.prog ts ds).all (· ≤ reachBytes) = true) {j : Nat} (hj : ts[j]? = some 22) (hdj : ds[j]? = some d) (hb : Rows.uptoBulk d ≤ 1048576) :
    ∃ (ls : List (List Nt)) (A : Option Addr) (cap : Nat), v = .slice A ls.length cap ∧ TxsOk ls ∧ TxsAt W W.heap.size A ls := by
  obtain ⟨l, A, cap, h1, h2, _, _, _, h3⟩ := open_slG (α := List Nt × Option Addr × Nat) slCell (fun a => (a.1.length ≤ 140737488355328 ∧ ∀ n ∈ a.1, n.mem.Ok) ∧ Sl W W.heap.size a.2.1 (ntsV a.1)) (c := 1) (fun _ => rfl) Try.underlying22 (by kernel_rfl) (fun n cs x hx hw hm => by
    obtain ⟨es, sp, rfl, hm⟩ := hm
    have q1 := bulk_memO hm
    simp only [Rows.uptoBulk] at hb
    obtain ⟨l, A, cap, e1, e2, _, e3, _, e4⟩ := nest_slM (α := Nt) Nt.cells (fun n => n.mem.Ok) (c := 6) (fun _ => rfl) Try.underlying48 (by kernel_rfl) (fun n cs y hy _ hm2 => note_stepU n cs y hy (by
      obtain ⟨es2, sp2, e5, hm2⟩ := hm2
      have q2 := bulk_memO hm2
      rw [e5] at q1
      simp only [Rows.uptoBulk] at q1
      omega)) hx hw
    rw [show Try.prog.bytesOf 69 = 56 by kernel_rfl] at e3
    simp only [reachBytes] at e3
    exact ⟨(l, A, cap), e1, ⟨by show l.length ≤ _; omega, e2⟩, e4⟩) hval hd hsz hj hdj
  refine ⟨l.map (·.1), A, cap, by rw [List.length_map]; exact h1, ?_, _, h3, txs_of l (fun a ha => (h2 a ha).2)⟩
  intro x hx
  obtain ⟨a, ha, rfl⟩ := List.mem_map.1 hx
  exact (h2 a ha).1
end
end Go.Proofs.Ytlpnoogcdnfllaa
/- wal, in plain words: a transaction in which the power goes is there whole or not at all. No program is spoken of. -/
namespace Go.Proofs.Ytlpnoogcdnfllaa.Wal
set_option linter.unnecessarySimpa false
open Go.RowKit Rec Pth Dsk
set_option linter.unusedVariables false
set_option linter.unusedSimpArgs false
theorem rep_mix {g : Nat} {rd : Nat → By} {m : Nat} {l : List Nt} {f i : Nat} {out : List (List Nt)} {b : Nat} (hg : g ≤ 4611686018427387904) (hl : Good l) (hne : l ≠ []) (hm : i + l.length + 1 ≤ m) (hm2 : m ≤ 20) (hr : ∀ k, k < l.length + 1 → rd (i + k) = (txs g i l).getD k [] ∨ (decodeR (rd (i + k))).1.gen ≠ (g : Int)) :
    rep (g : Int) rd m (f + (l.length + 1)) i [] out b = rep (g : Int) rd m f (i + l.length + 1) [] (out ++ [l]) (i + l.length + 1) ∨
    ((∃ k, k < l.length + 1 ∧ (decodeR (rd (i + k))).1.gen ≠ (g : Int)) ∧ rep (g : Int) rd m (f + (l.length + 1)) i [] out b = (out, b)) := by
  by_cases h : ∀ k, k < l.length + 1 → rd (i + k) = (txs g i l).getD k []
  · exact .inl (rep_tx hg hl hne h hm hm2)
  · right
    have h2 : ∃ k, k < l.length + 1 ∧ ¬ rd (i + k) = (txs g i l).getD k [] := by
      apply Classical.byContradiction
      intro q
      exact h fun k hk => Classical.byContradiction fun q2 => q ⟨k, hk, q2⟩
    have h3 : ∃ k, k < l.length + 1 ∧ ¬ rd (i + k) = (txs g i l).getD k [] ∧ ∀ j, j < k → rd (i + j) = (txs g i l).getD j [] := by
      obtain ⟨k, hk, hk2⟩ := h2
      induction k using Nat.strongRecOn with
      | ind k ih =>
        by_cases q : ∀ j, j < k → rd (i + j) = (txs g i l).getD j []
        · exact ⟨k, hk, hk2, q⟩
        · have : ∃ j, j < k ∧ ¬ rd (i + j) = (txs g i l).getD j [] := by
            apply Classical.byContradiction
            intro q1
            exact q fun j hj => Classical.byContradiction fun q2 => q1 ⟨j, hj, q2⟩
          obtain ⟨j, hj, hj2⟩ := this
          exact ih j hj (by omega) hj2
    obtain ⟨k, hk, hk2, hk3⟩ := h3
    have hgen := (hr k hk).resolve_left hk2
    refine ⟨⟨k, hk, hgen⟩, ?_⟩
    have hlt : (l.take k).length = k := by rw [List.length_take]; omega
    have hr2 := rep_recs (gen := g) (rd := rd) (m := m) (l.take k) (f + (l.length + 1 - k)) i [] out b (fun n hn => hl n (List.mem_of_mem_take hn)) (fun j hj => by
      rw [hlt] at hj
      have hjl : j < l.length := by omega
      rw [hk3 j hj, txs_note g i l hjl]
      have := rd_recs hg l i hl (by omega) j hjl
      rwa [List.getElem_take]) (by rw [hlt]; omega)
    rw [hlt, show f + (l.length + 1 - k) + k = f + (l.length + 1) by omega] at hr2
    rw [hr2, rep_stop (Nat.zero_le _) hgen]
/-- what the sectors of a log say, of which the last transaction was laid in part -/
theorem replay_mix {s : By} {g n : Nat} {front : List (List Nt)} {l : List Nt} (hg : g ≤ 4611686018427387904) (hf : Goods front) (hl : Good l) (hne : l ≠ []) (hn : n = total front + l.length + 1) (hn2 : n ≤ 20) (hlen : s.length = (10 + n) * 512)
    (h1 : ∀ k, k < total front → sec s (10 + k) = (lay g 0 front).getD k []) (h2 : ∀ k, total front ≤ k → k < n → sec s (10 + k) = (txs g (total front) l).getD (k - total front) [] ∨ (decodeR (sec s (10 + k))).1.gen ≠ (g : Int)) :
    replay s (g : Int) = (front ++ [l], n) ∨ ((∃ k, total front ≤ k ∧ k < n ∧ (decodeR (sec s (10 + k))).1.gen ≠ (g : Int)) ∧ replay s (g : Int) = (front, total front)) := by
  have hm : logN s = n := by unfold logN; rw [hlen]; omega
  unfold replay
  rw [hm]
  have hr := rep_all (gen := g) (rd := fun i => sec s (10 + i)) (m := n) hg hn2 front (21 - total front) 0 [] 0 hf (fun k hk => by rw [Nat.zero_add]; exact h1 k hk) (by omega)
  rw [show 21 - total front + total front = 21 by omega, Nat.zero_add, List.nil_append] at hr
  rw [hr]
  have hx := rep_mix (rd := fun i => sec s (10 + i)) (m := n) (l := l) (f := 21 - total front - (l.length + 1)) (i := total front) (out := front) (b := if front = [] then 0 else total front) hg hl hne (by omega) hn2 (fun k hk => by
    rcases h2 (total front + k) (by omega) (by omega) with q | q
    · left
      rw [q, show total front + k - total front = k by omega]
    · exact .inr q)
  rw [show 21 - total front - (l.length + 1) + (l.length + 1) = 21 - total front by omega] at hx
  rcases hx with q | ⟨⟨k, hk, hk2⟩, q⟩
  · left
    rw [q, rep_end0 (by omega)]
    rw [hn]
  · right
    refine ⟨⟨total front + k, by omega, by omega, hk2⟩, ?_⟩
    rw [q]
    by_cases e : front = []
    · subst e; rfl
    · rw [if_neg e]
/-- a fall is planned -/
theorem crash {D : Dv} {rd : Nat → By} {g n a : Nat} {ks : List Bool} {front : List (List Nt)} {l : List Nt} (h : Quiet D (onto g front rd) n) (hg : g ≤ 4611686018427387904) (hf : Goods front) (hl : Good l) (hne : l ≠ []) (hn : n = total front + l.length + 1)
    (hrd : ∀ k, k < n → (decodeR (rd k)).1.gen ≠ (g : Int)) (ha : 1 ≤ a) :
    ∃ E x e, appendW { D with at_ := a, keep := ks } (g : Int) (total front : Int) l = (E, x, e) ∧ (e = 0 ↔ E.dead = false) ∧
      (replay E.now (g : Int) = (front ++ [l], n) ∨ (replay E.now (g : Int) = (front, total front) ∧ e ≠ 0)) := by
  have hn2 := h.le
  have hm : ∀ x ∈ l, mayN x := fun x hx => (hl x hx).1
  have hnb : ¬ badW (g : Int) (total front : Int) l.length := by
    have : l.length ≠ 0 := fun e => hne (List.eq_nil_of_length_eq_zero e)
    unfold badW
    omega
  have hT := txs_len (g := g) (i := total front) hm
  have hTl := txs_length g (total front) l
  have hlen := h.len
  rw [if_neg (by omega)] at hlen
  have hmod := h.ok.nowM
  have hold : ∀ k, k < n → sec D.now (10 + k) = onto g front rd k := h.rd
  -- what the sectors are, when some of them are new
  have fin : ∀ s : By, s.length = D.now.length → (∀ k, k < n → sec s (10 + k) = sec D.now (10 + k) ∨ (total front ≤ k ∧ sec s (10 + k) = (txs g (total front) l).getD (k - total front) [])) → (∀ k, k < total front → sec s (10 + k) = sec D.now (10 + k)) →
      replay s (g : Int) = (front ++ [l], n) ∨ ((∃ k, total front ≤ k ∧ k < n ∧ (decodeR (sec s (10 + k))).1.gen ≠ (g : Int)) ∧ replay s (g : Int) = (front, total front)) := by
    intro s hs h1 h2
    refine replay_mix hg hf hl hne hn hn2 (by rw [hs, hlen]) (fun k hk => ?_) (fun k hk1 hk2 => ?_)
    · rw [h2 k hk, hold k (by omega)]
      unfold onto
      rw [if_pos hk]
    · rcases h1 k hk2 with q | ⟨_, q⟩
      · right
        rw [q, hold k hk2]
        unfold onto
        rw [if_neg (by omega)]
        exact hrd k hk2
      · exact .inl q
  have fall : ∀ (T : List By), (∀ t ∈ T, t.length = 512) → T.length ≤ l.length + 1 → (∀ j, j < T.length → T.getD j [] = (txs g (total front) l).getD j []) →
      replay (fallen (chs (10 + total front) T) ks D.now) (g : Int) = (front ++ [l], n) ∨ replay (fallen (chs (10 + total front) T) ks D.now) (g : Int) = (front, total front) := by
    intro T t1 t2 t3
    obtain ⟨q1, q2⟩ := fallen_sec T (10 + total front) ks D.now t1 hmod (by rw [hlen]; omega)
    have f1 : ∀ k, k < n → sec (fallen (chs (10 + total front) T) ks D.now) (10 + k) = sec D.now (10 + k) ∨ (total front ≤ k ∧ sec (fallen (chs (10 + total front) T) ks D.now) (10 + k) = (txs g (total front) l).getD (k - total front) []) := fun k hk => by
      rcases q2 (10 + k) (by rw [hlen]; omega) with z | ⟨z1, z2, z3⟩
      · exact .inl z
      · exact .inr ⟨by omega, by rw [z3, t3 _ (by omega), show 10 + k - (10 + total front) = k - total front by omega]⟩
    have f2 : ∀ k, k < total front → sec (fallen (chs (10 + total front) T) ks D.now) (10 + k) = sec D.now (10 + k) := fun k hk => by
      rcases q2 (10 + k) (by rw [hlen]; omega) with z | ⟨z1, z2, z3⟩
      · exact z
      · omega
    rcases fin _ q1 f1 f2 with q | q
    · exact .inl q
    · exact .inr q.2
  rw [app_go hnb hm]
  simp only [Int.toNat_natCast]
  generalize hTe : txs g (total front) l = T at hT hTl fin fall
  have hTne : T ≠ [] := fun e => by rw [e] at hTl; simp at hTl
  have hcap : 10 + total front + T.length ≤ D.cap := by rw [h.cap]; omega
  by_cases c1 : a ≤ T.length
  · obtain ⟨c, hw⟩ := writes_fall T { D with at_ := a, keep := ks } (10 + total front) h.dead ha c1 hT hcap
    rw [hw]
    simp only
    rw [if_neg (show ¬ (190 : Nat) = 0 by decide)]
    refine ⟨_, _, _, rfl, by simp, ?_⟩
    simp only [h.pend, h.kept, List.nil_append]
    rcases fall (T.take a) (fun t ht => hT t (List.mem_of_mem_take ht)) (by rw [List.length_take]; omega) (fun j hj => by
      rw [List.length_take] at hj
      simp only [List.getD_eq_getElem?_getD]
      rw [List.getElem?_take, if_pos (by omega)]) with q | q
    · exact .inl q
    · exact .inr ⟨q, by decide⟩
  · have hw := writes_live T { D with at_ := a, keep := ks } (10 + total front) h.dead (.inr (by show T.length < a; omega)) hT hcap
    rw [hw]
    simp only [if_true]
    by_cases c2 : a = T.length + 1
    · have hs : Dv.sync { D with pend := D.pend ++ chs (10 + total front) T, now := apAll (10 + total front) T D.now, at_ := a - T.length, keep := ks, calls := D.calls + T.length } = ({ D with pend := [], kept := fallen (D.pend ++ chs (10 + total front) T) ks D.kept, now := fallen (D.pend ++ chs (10 + total front) T) ks D.kept, at_ := 0, keep := [], dead := true, calls := D.calls + T.length }, 190) := by
        unfold Dv.sync
        rw [if_neg (by show ¬ D.dead = true; rw [h.dead]; decide), does_fall (by show a - T.length = 1; omega)]
        rfl
      rw [hs]
      simp only
      rw [if_neg (show ¬ (190 : Nat) = 0 by decide)]
      refine ⟨_, _, _, rfl, by simp, ?_⟩
      simp only [h.pend, h.kept, List.nil_append]
      rcases fall T hT (by omega) (fun j hj => rfl) with q | q
      · exact .inl q
      · exact .inr ⟨q, by decide⟩
    · have hs : Dv.sync { D with pend := D.pend ++ chs (10 + total front) T, now := apAll (10 + total front) T D.now, at_ := a - T.length, keep := ks, calls := D.calls + T.length } = ({ D with pend := [], kept := apAll (10 + total front) T D.now, now := apAll (10 + total front) T D.now, at_ := a - T.length - 1, keep := ks, calls := D.calls + T.length + 1 }, 0) := by
        unfold Dv.sync
        rw [if_neg (by show ¬ D.dead = true; rw [h.dead]; decide), does_go (by show a - T.length ≠ 1; omega)]
        rfl
      rw [hs]
      simp only [if_true]
      refine ⟨_, _, _, rfl, by simp [h.dead], ?_⟩
      left
      simp only
      have hla := apAll_len T (10 + total front) D.now hT hmod
      rw [if_neg hTne, hlen] at hla
      have hsec : ∀ k, k < n → sec (apAll (10 + total front) T D.now) (10 + k) = if total front ≤ k then T.getD (k - total front) [] else sec D.now (10 + k) := fun k hk => by
        rw [apAll_sec T (10 + total front) D.now hT hmod (10 + k) (.inr (by rw [hlen]; omega))]
        by_cases q : total front ≤ k
        · rw [if_pos q, if_pos (by omega), show 10 + k - (10 + total front) = k - total front by omega]
        · rw [if_neg q, if_neg (by omega)]
      have f1 : ∀ k, k < n → sec (apAll (10 + total front) T D.now) (10 + k) = sec D.now (10 + k) ∨ (total front ≤ k ∧ sec (apAll (10 + total front) T D.now) (10 + k) = T.getD (k - total front) []) := fun k hk => by
        rw [hsec k hk]
        by_cases q : total front ≤ k
        · rw [if_pos q]; exact .inr ⟨q, rfl⟩
        · rw [if_neg q]; exact .inl rfl
      have f2 : ∀ k, k < total front → sec (apAll (10 + total front) T D.now) (10 + k) = sec D.now (10 + k) := fun k hk => by
        rw [hsec k (by omega), if_neg (by omega)]
      rcases fin (apAll (10 + total front) T D.now) (by rw [hla, hlen]; omega) f1 f2 with q | ⟨⟨k, k1, k2, k3⟩, _⟩
      · exact q
      · rw [hsec k k2, if_pos k1, ← hTe] at k3
        exact absurd (txs_gen hg hl (by omega) (by omega) (k - total front) (by omega)) k3
end Go.Proofs.Ytlpnoogcdnfllaa.Wal
/- A fall of the power among a law's arguments. -/
namespace Go.Proofs.Ytlpnoogcdnfllaa
set_option linter.unnecessarySimpa false
set_option linter.unusedSimpArgs false
open Go.ChangeShapes Go.WideShapes Go.ChangeAt Go.RowKit Go.Deep Dsk
set_option linter.unusedVariables false
structure Fl where
  at_ : Int
  ks : List Bool
  A : Option Addr
  k : Nat
def Fl.cells (f : Fl) : List Value := [.int .i64 f.at_, .slice f.A f.ks.length f.k]
structure Fl.Ok (f : Fl) (w : World) (C : Nat) : Prop where
  at_ : -9223372036854775808 ≤ f.at_ ∧ f.at_ ≤ 9223372036854775807
  nil : f.A = none → boolsV f.ks = []
  len : f.ks.length ≤ 140737488351232
  sl : Sl w C f.A (boolsV f.ks)
section
variable {H : Type} {enc : TypeId × Value → H} {W : World} {base : Nat} {v : Value} {d : DataW H} {p : List MemPlace} {r : Reach} {b0 : Nat}
theorem two {l : List Value} (h : l.length = 2) : ∃ a b, l = [a, b] := by
  match l, h with
  | [a, b], _ => exact ⟨a, b, rfl⟩
set_option maxRecDepth 20000 in
theorem fall_step (n : Nat) (cs : List Value) (x : DataW H × List MemPlace) (h : DataW.trod enc Try.prog W base (fun _ => true) true n 45 cs = some x) (hw : ∀ m ∈ x.1.weights Try.prog 45, m ≤ reachBytes) : ∃ a : Fl, cs = a.cells ∧ a.Ok W W.heap.size := by
  obtain ⟨xs, m, rfl, rfl, hl, hlen, hf⟩ := DataW.trod_struct Try.underlying45 h
  obtain ⟨c0, c1, rfl⟩ := two (hl.trans (by kernel_rfl))
  have g : ∀ i (hi : i < 2), ∃ y, xs[i]? = some y := fun i hi => ⟨_, List.getElem?_eq_getElem (by rw [hlen]; exact hi)⟩
  obtain ⟨y0, e0⟩ := g 0 (by omega)
  obtain ⟨y1, e1⟩ := g 1 (by omega)
  have f0 : DataW.trod enc Try.prog W base (fun _ => true) true m 3 ((([c0, c1] : List Value).drop 0).take (Try.prog.cellsOf 3)) = some y0 := (hf 0 _ rfl).trans e0
  have f1 : DataW.trod enc Try.prog W base (fun _ => true) true m 43 ((([c0, c1] : List Value).drop 1).take (Try.prog.cellsOf 43)) = some y1 := (hf 1 _ rfl).trans e1
  rw [show Try.prog.cellsOf 3 = 1 by kernel_rfl] at f0
  rw [show Try.prog.cellsOf 43 = 1 by kernel_rfl] at f1
  simp only [List.drop_zero, List.drop_succ_cons, List.take_succ_cons, List.take_zero] at f0 f1
  obtain ⟨n0, h0, _, w0⟩ := DataW.trod_int Try.underlying3 f0
  have hd1 : (xs.map (·.1))[1]? = some y1.1 := by rw [List.getElem?_map, e1]; rfl
  have hwe : ∀ k ∈ DataW.weightsEach Try.prog [3, 43] (xs.map (·.1)), k ≤ reachBytes := fun k hk => hw k (by
    simp only [DataW.weights, Try.underlying45]
    exact hk)
  obtain ⟨l, A, cap, h1, hA, hn, hs⟩ := nest_slB Try.underlying43 Try.underlying4 (by kernel_rfl) (by kernel_rfl) f1 (fun k hk => hwe k (DataW.weights_mem_each (j := 1) rfl hd1 _ hk))
  simp only [List.cons.injEq, and_true] at h0 h1
  subst h0 h1
  exact ⟨⟨n0, l, A, cap⟩, rfl, ⟨wf_int w0, fun h => by rw [hA h]; rfl, hn, hs⟩⟩
set_option maxRecDepth 20000 in
theorem open_Fall (hval : Value.okWide Try.prog W r b0 45 v) (hd : DataW.Trod enc Try.prog W base (fun _ => true) true 45 v d p)
    {ts : List TypeId} {ds : List (DataW H)} (hsz : (DataW.weightsEach Try.prog ts ds).all (· ≤ reachBytes) = true) {j : Nat} (hj : ts[j]? = some 45) (hdj : ds[j]? = some d) :
    ∃ a : Fl, v = .agg a.cells.toArray ∧ a.Ok W W.heap.size :=
  open_stG Fl.cells (fun a => a.Ok W W.heap.size) Try.underlying45 (fun n cs x hx hw => fall_step n cs x hx hw) hval hd hsz hj hdj
end
end Go.Proofs.Ytlpnoogcdnfllaa
/- wal: a transaction in which the power goes is there whole or not at all. -/
namespace Go.Proofs.Ytlpnoogcdnfllaa
set_option linter.unnecessarySimpa false
open Go.RowKit Rec Pth Dsk Wal
set_option linter.unusedVariables false
set_option linter.unusedSimpArgs false

theorem mod5 (old : Int) : ∃ o : Nat, o ≤ 4 ∧ (Int.tmod (Int.tmod old 5 + 5) 5) = (o : Int) := by
  have h1 : -5 < Int.tmod old 5 := Int.lt_tmod_of_pos old (by decide)
  have h2 : Int.tmod old 5 < 5 := Int.tmod_lt_of_pos old (by decide)
  have h3 : Int.tmod (Int.tmod old 5 + 5) 5 < 5 := Int.tmod_lt_of_pos _ (by decide)
  have h4 : 0 ≤ Int.tmod (Int.tmod old 5 + 5) 5 := Int.tmod_nonneg _ (by omega)
  obtain ⟨o, ho⟩ := Int.eq_ofNat_of_zero_le h4
  exact ⟨o, by omega, ho⟩
set_option maxRecDepth 20000 in
theorem walCrash_s (ls : List (List Nt)) (hok : TxsOk ls) (A : Option Addr) (c : Nat) (old : Int) (o0 : -9223372036854775808 ≤ old) (o1 : old ≤ 9223372036854775807) (f : Fl) (w : World) (C : Nat) (hls : TxsAt w C A ls) (C2 : Nat) (hfl : f.Ok w C2) :
    Ret Try.prog 5 [.slice A ls.length c, .int .i64 old, .agg f.cells.toArray] w fun v w' => v = .bool true ∧ Ext w w' := by
  obtain ⟨vs, hs, ht⟩ := hls
  obtain ⟨fa, ks, fA, fk⟩ := f
  obtain ⟨⟨fa0, fa1⟩, fnil, flen, fsl⟩ := hfl
  dsimp only at fa0 fa1 fnil flen fsl
  have bye : ∀ w', Ext w w' → Ret Try.prog 7 [] w' fun v w'' => v = .bool true ∧ Ext w w'' := fun w' hx => (awake_s w').mono fun _ _ h => ⟨h.1, Ext.trans hx h.2⟩
  refine Ret.enter Try.func5 rfl Try.ntmps5 (by kernel_rfl) rfl ?_
  refine KW.seq (KW.region ?_)
  refine OW.boxS rfl rfl rfl ?_
  rintro fb w0 hge0 hfb0 hx0
  refine OW.val rfl rfl (EX.assign rfl) ?_
  refine OW.nil ?_
  refine KW.seq (KW.seq ?_)
  replace hfb0 : Bk w0 fb 45 [.int .i64 fa, .slice fA ks.length fk] := hfb0
  have fsl0 : Sl w0 C2 fA (boolsV ks) := Sl.ext fsl hx0
  refine KW.region ?_
  refine OW.val rfl rfl (EX.move rfl) ?_
  refine OW.val rfl rfl (EX.lenA Try.underlying22 rfl) ?_
  refine OW.val rfl rfl (by first | exact EX.gtrN (b := 100) rfl rfl | exact EX.gtrZ rfl rfl) ?_
  refine OW.val rfl rfl (EX.move rfl) ?_
  refine OW.splitD 26 rfl (fun q1 => ?_) (fun q1 => ?_)
  · refine OW.pass rfl rfl ?_
    refine OW.pass rfl rfl ?_
    refine OW.pass rfl rfl ?_
    refine OW.val rfl rfl (EX.pickT rfl rfl) ?_
    refine OW.nil ?_
    refine KW.condT rfl (KW.seq (KW.region ?_))
    refine OW.call rfl rfl rfl (bye w0 hx0) ?_
    rintro _ w1 ⟨rfl, hx1⟩
    refine OW.val rfl rfl (EX.assign rfl) ?_
    refine OW.nil ?_
    refine KW.ret (ret1 rfl rfl ?_)
    exact ⟨rfl, hx1⟩
  · refine OW.val rfl rfl (EX.fieldAddr (off := 0) Try.underlying45 rfl rfl ti3 rfl rfl) ?_
    refine OW.val rfl rfl (EX.load Try.underlying3 rfl rfl (hfb0.cell_of rfl)) ?_
    refine OW.val rfl rfl (by first | exact EX.lssN (b := 1) rfl rfl | exact EX.lssZ rfl rfl) ?_
    refine OW.val rfl rfl (EX.pickF rfl rfl) ?_
    refine OW.nil ?_
    refine KW.condD rfl (fun q2 => ?_) (fun q2 => ?_)
    · refine KW.seq (KW.region ?_)
      refine OW.call rfl rfl rfl (bye w0 hx0) ?_
      rintro _ w1 ⟨rfl, hx1⟩
      refine OW.val rfl rfl (EX.assign rfl) ?_
      refine OW.nil ?_
      refine KW.ret (ret1 rfl rfl ?_)
      exact ⟨rfl, hx1⟩
    · refine KW.skip (KW.seq (KW.region ?_))
      refine OW.val rfl rfl (EX.move rfl) ?_
      refine OW.call rfl rfl rfl (may_s ls (by omega) (fun l hl => (hok l hl).1) (fun l hl => (hok l hl).2) vs A c _ C w0 (hs.ext hx0) (ht.ext hx0)) ?_
      rintro _ w1 ⟨⟨vo, vs', rfl, own1, tx1⟩, hx1⟩
      obtain ⟨A1, c1, rfl, _, sl1⟩ := own1.slice
      refine OW.val rfl rfl (EX.move rfl) ?_
      refine OW.val rfl rfl (EX.extract rfl rfl) ?_
      refine OW.val rfl rfl (EX.extract rfl rfl) ?_
      refine OW.val rfl rfl (EX.assign rfl) ?_
      refine OW.val rfl rfl (EX.assign rfl) ?_
      refine OW.nil ?_
      refine KW.seq (KW.seq (KW.region ?_))
      refine OW.val rfl rfl (EX.move rfl) ?_
      refine OW.val rfl rfl (EX.lenA Try.underlying22 rfl) ?_
      refine OW.val rfl rfl (by first | exact EX.eqlN (b := 0) rfl rfl | exact EX.eqlZ rfl rfl) ?_
      refine OW.nil ?_
      have hf := mayT_fine ls
      have hgd := may_goods hok
      have hmo : ∀ l ∈ (mayT ls).1, ∀ n ∈ l, n.mem.Ok := fun l hl => (hok l (mayT_mem ls l hl)).2
      have hmb : ∀ l ∈ (mayT ls).1, l.length ≤ 140737488355328 := fun l hl => (hok l (mayT_mem ls l hl)).1
      generalize (mayT ls).2 = at_ at hf ⊢
      generalize (mayT ls).1 = P at own1 tx1 hf hgd hmo hmb sl1 ⊢
      obtain ⟨hat, hT, hfine⟩ := hf
      subst hat
      have hPl := total_len P
      have x1 := Ext.trans hx0 hx1
      refine KW.condD rfl (fun q3 => ?_) (fun q3 => ?_)
      · refine KW.seq (KW.region ?_)
        refine OW.call rfl rfl rfl (bye w1 x1) ?_
        rintro _ w2 ⟨rfl, hx2⟩
        refine OW.val rfl rfl (EX.assign rfl) ?_
        refine OW.nil ?_
        refine KW.ret (ret1 rfl rfl ?_)
        exact ⟨rfl, hx2⟩
      · obtain ⟨p, hp⟩ : ∃ p, P.length = p + 1 := ⟨P.length - 1, by omega⟩
        have hlast : p < P.length := by omega
        obtain ⟨o, ho4, ho⟩ := mod5 old
        have m1 : -5 < Int.tmod old 5 := Int.lt_tmod_of_pos old (by decide)
        have m2 : Int.tmod old 5 < 5 := Int.tmod_lt_of_pos old (by decide)
        have hlt : P.take p ++ [P[p]] = P := by rw [List.take_append_getElem hlast, List.take_of_length_le (by omega)]
        have hlm : P[p] ∈ P := List.getElem_mem hlast
        generalize hrd0 : onto o P (fun _ => []) = rd0
        have hrdg : ∀ k, k < total P → (decodeR (rd0 k)).1.gen ≠ ((9 : Nat) : Int) := by
          intro k hk
          rw [← hrd0]
          unfold onto
          rw [if_pos hk, lay_at P 0 (by omega) (by omega) hgd k hk]
          omega
        refine KW.skip (KW.seq (KW.region ?_))
        refine OW.val rfl rfl (EX.move rfl) ?_
        refine OW.val rfl rfl (EX.lenA Try.underlying22 rfl) ?_
        refine OW.val rfl rfl (by first | exact EX.subN (b := 1) (m := 9223372036854775807) rfl rfl rfl (by omega) | exact EX.subZ (m := 9223372036854775807) rfl rfl rfl rfl (by omega)) ?_
        refine OW.val rfl rfl (EX.assign rfl) ?_
        refine OW.nil ?_
        refine KW.seq (KW.region ?_)
        refine OW.val rfl rfl (EX.move rfl) ?_
        refine OW.val rfl rfl (by first | exact EX.remN (b := 5) rfl rfl (by omega) | exact EX.remZ rfl rfl (by decide)) ?_
        refine OW.val rfl rfl (by first | exact EX.addN (b := 5) (m := 9223372036854775807) rfl rfl rfl (by omega) | exact EX.addZ (m := 9223372036854775807) rfl rfl rfl rfl (by omega)) ?_
        refine OW.val rfl rfl (by first | exact EX.remN (b := 5) rfl rfl (by omega) | exact EX.remZ rfl rfl (by decide)) ?_
        refine OW.val rfl rfl (EX.move rfl) ?_
        refine OW.as 9 (.int .i64 ((p : Nat) : Int)) rfl (congrArg (Value.int .i64) (by omega)) ?_
        refine OW.as 48 (.int .i64 ((o : Nat) : Int)) rfl (congrArg (Value.int .i64) ho) ?_
        refine OW.call rfl rfl rfl (appended_s o (by omega) P hT hfine hmo vs' A1 c1 _ _ w1 sl1 tx1) ?_
        rintro _ w2 ⟨hx2, b, rfl, D2, hq2, hsm2, hdev2⟩
        refine OW.val rfl rfl (EX.move rfl) ?_
        refine OW.val rfl rfl (EX.extract rfl rfl) ?_
        refine OW.val rfl rfl (EX.extract rfl rfl) ?_
        refine OW.val rfl rfl (EX.assign rfl) ?_
        refine OW.val rfl rfl (EX.assign rfl) ?_
        refine OW.nil ?_
        refine KW.seq (KW.seq (KW.region ?_))
        refine OW.val rfl rfl (EX.move rfl) ?_
        refine OW.val rfl rfl (by first | exact EX.notD rfl | exact EX.notB rfl) ?_
        refine OW.nil ?_
        rw [hrd0] at hq2
        have x2 := Ext.trans x1 hx2
        have own2 := own1.ext hx2
        have hz01 := hx1.size
        refine KW.condF rfl (KW.skip (KW.seq (KW.region ?_)))
        refine OW.val rfl rfl (EX.assign rfl) ?_
        refine OW.nil ?_
        refine KW.seq (KW.seq (KW.region ?_))
        refine OW.val rfl rfl (EX.assign rfl) ?_
        refine OW.nil ?_
        refine KW.block ?_
        refine KW.loop2 (fun (i : Nat) (wr : World) => i ≤ p ∧ Ext w0 wr ∧ Ext w1 wr ∧ Own wr w0.heap.size 48 1 (.slice A1 P.length c1) P.length vs' ∧ ∃ D, Quiet D (onto 9 (P.take i) rd0) (total P) ∧ Sm D (500 + 21 * i) ∧ DevAt wr w1.heap.size b D) (fun (i : Nat) (wr : World) => [(5, .pointer (some ⟨fb, 0, none⟩)), (7, .slice A1 P.length c1), (8, .int .i64 (((total P) : Nat) : Int)), (9, .int .i64 ((p : Nat) : Int)), (10, .pointer (some ⟨b, 0, none⟩)), (12, .int .i64 (((total (P.take i)) : Nat) : Int)), (13, .int .i64 ((i : Nat) : Int))]) (fun (i : Nat) (wr : World) => wr) (fun (i : Nat) (wr : World) => p - i) (0) (w2) ⟨rfl, rfl, rfl, rfl, rfl, rfl, rfl, trivial⟩ rfl ?_ ?_
        · exact ⟨by omega, Ext.trans hx1 hx2, hx2, own2, D2, hq2.as (fun k hk => by unfold onto; rw [if_neg (by simp [total])]), hsm2, hdev2⟩
        · rintro i wr ⟨hi, hx0r, hx1r, ownr, D, hq, hsm, hdev⟩
          have txr := tx1.ext hx1r
          obtain ⟨A1', c1', e1, _, slr⟩ := ownr.slice
          cases e1
          have el := txr.len
          refine KW.seq (KW.seq (KW.region ?_))
          refine OW.val rfl rfl (EX.move rfl) ?_
          refine OW.val rfl rfl (EX.move rfl) ?_
          refine OW.val rfl rfl (by first | exact EX.lssN rfl rfl | exact EX.lssZ rfl rfl) ?_
          refine OW.nil ?_
          refine KW.condD rfl (fun hlt2 => ?_) (fun hlt2 => ?_)
          · have hiP : i < P.length := by omega
            have hsn : P.take (i + 1) = P.take i ++ [P[i]] := (List.take_append_getElem hiP).symm
            obtain ⟨a2, c2, g2, s2⟩ := txr.at_ i hiP
            have hf2 := hfine P[i] (List.getElem_mem hiP)
            have ho2 := hmo P[i] (List.getElem_mem hiP)
            have ht2 := total_take P (i + 1)
            have ht3 := total_take P i
            rw [hsn, total_snoc] at ht2
            have ca := append_q hq hsm (by omega) (by decide) ht3 hf2.1 (by omega) hf2.2 ho2 w1.heap.size b a2 c2 _ wr hdev s2
            have et : max (total P) (total (P.take i) + (P[i]).length + 1) = total P := by omega
            have et2 : total (P.take (i + 1)) = total (P.take i) + (P[i]).length + 1 := by rw [hsn, total_snoc]
            rw [et, ← hsn] at ca
            generalize P[i] = l at g2 s2 hf2 ho2 ht2 ca et2
            obtain ⟨b0, o0', rfl, _, hc0⟩ := slr.at_ (by omega)
            refine KW.skip (KW.seq (KW.block (KW.seq (KW.region ?_))))
            refine OW.val rfl rfl (EX.move rfl) ?_
            refine OW.val rfl rfl (EX.move rfl) ?_
            refine OW.val rfl rfl (EX.move rfl) ?_
            refine OW.val rfl rfl (EX.move rfl) ?_
            refine OW.val rfl rfl (by first | exact EX.indexAddrS0 Try.underlying22 ti48 rfl rfl (by omega) | exact EX.indexAddrS1 Try.underlying22 ti48 rfl rfl (by omega)) ?_
            refine OW.val rfl rfl (EX.load Try.underlying48 rfl rfl (hc0 i _ g2)) ?_
            refine OW.call rfl rfl rfl (ca) ?_
            rintro _ w3 ⟨rfl, tm3, D3, hq3, hsm3, hdev3⟩
            refine OW.val rfl rfl (EX.move rfl) ?_
            refine OW.val rfl rfl (EX.extract rfl rfl) ?_
            refine OW.val rfl rfl (EX.extract rfl rfl) ?_
            refine OW.val rfl rfl (EX.assign rfl) ?_
            refine OW.val rfl rfl (EX.assign rfl) ?_
            refine OW.nil ?_
            refine KW.seq (KW.seq (KW.region ?_))
            refine OW.val rfl rfl (EX.move rfl) ?_
            refine OW.val rfl rfl (by first | exact EX.neqN (b := 0) rfl rfl | exact EX.neqZ rfl rfl) ?_
            refine OW.nil ?_
            have y0 : Ext w0 w3 := Tm.below hx0r tm3 hx0r.size hz01
            have y1 : Ext w1 w3 := Tm.below hx1r tm3 hx1r.size (Nat.le_refl _)
            refine KW.condD rfl (fun hne => ?_) (fun hne => ?_)
            · exact absurd hne (by simp)
            · refine KW.skip (KW.region ?_)
              refine OW.val rfl rfl (EX.move rfl) ?_
              refine OW.val rfl rfl (EX.assign rfl) ?_
              refine OW.nil ?_
              refine KW.leave (KW.region ?_)
              refine OW.val rfl rfl (EX.move rfl) ?_
              refine OW.val rfl rfl (by first | exact EX.addN (b := 1) (m := 9223372036854775807) rfl rfl rfl (by omega) | exact EX.addZ (m := 9223372036854775807) rfl rfl rfl rfl (by omega)) ?_
              refine OW.val rfl rfl (EX.assign rfl) ?_
              refine OW.nil ?_
              refine KW.as 12 (.int .i64 (((total (P.take (i + 1))) : Nat) : Int)) rfl (congrArg (fun q : Nat => Value.int .i64 (q : Int)) et2.symm) ?_
              refine KW.back2 (i + 1) (w3) ⟨rfl, rfl, rfl, rfl, rfl, rfl, rfl, trivial⟩ rfl ?_ (by omega)
              exact ⟨by omega, y0, y1, tm3.own ownr (by decide), D3, hq3, hsm3.more (by omega), hdev3⟩
          · obtain rfl : i = p := by omega
            have hgf : Goods (P.take i) := fun l hl => hgd l (List.mem_of_mem_take hl)
            have hgl := hgd P[i] hlm
            have hol := hmo P[i] hlm
            obtain ⟨a2, c2, g2, s2⟩ := txr.at_ i hlast
            have htn : total P = total (P.take i) + (P[i]).length + 1 := by
              conv => lhs; rw [← hlt]
              rw [total_snoc]
            have hfb := hfb0.ext hx0r
            have fslr := Sl.ext fsl0 hx0r
            generalize hle : P[i] = l at hgl hol g2 s2 htn hlt
            generalize hfe : P.take i = front at hq hgf htn hlt
            have ep : D.plan fa ks = ({ D with at_ := fa.toNat, keep := ks }, 0) := by
              unfold Dv.plan
              rw [hq.dead, if_neg (by decide), if_neg (by omega)]
            have cp := plan_d hdev hq.ok fa fa0 fa1 fA fk _ ks fslr fnil flen
            rw [ep] at cp
            refine KW.exit rfl (KW.seq (KW.seq (KW.region ?_)))
            refine OW.val rfl rfl (EX.move rfl) ?_
            refine OW.val rfl rfl (EX.loadBk Try.underlying45 rfl ti45 rfl (hfb) (rfl)) ?_
            refine OW.call rfl rfl rfl (cp) ?_
            rintro _ w4 ⟨rfl, hdev4, tm4⟩
            refine OW.val rfl rfl (by first | exact EX.neqN (b := 0) rfl rfl | exact EX.neqZ rfl rfl) ?_
            refine OW.nil ?_
            refine KW.condD rfl (fun hp0 => ?_) (fun hp0 => ?_)
            · exact absurd hp0 (by simp)
            · obtain ⟨E, xe, e, happ, hde, hrep⟩ := crash (a := fa.toNat) (ks := ks) hq (by decide) hgf hgl.1 hgl.2 htn hrdg (by omega)
              have hD1 : Dv.Ok { D with at_ := fa.toNat, keep := ks } := ⟨hq.ok.cap, hq.ok.kept, hq.ok.now, hq.ok.keptM, hq.ok.nowM, hq.ok.pend⟩
              have hS1 : Sm { D with at_ := fa.toNat, keep := ks } (500 + 21 * i) := ⟨hsm.calls, hsm.pend, by show fa.toNat ≤ _; omega, by show ks.length ≤ _; omega⟩
              have y40 : Ext w0 w4 := Tm.below hx0r tm4 hx0r.size hz01
              have y41 : Ext w1 w4 := Tm.below hx1r tm4 hx1r.size (Nat.le_refl _)
              have own4 := tm4.own ownr (by decide)
              obtain ⟨A1'', c1'', e1, _, sl4⟩ := own4.slice
              cases e1
              have tx4 := tx1.ext y41
              obtain ⟨a3, c3, g3, s3⟩ := tx4.at_ i hlast
              rw [hle] at g3 s3
              have ca := append_s hD1 hS1 (by omega) w1.heap.size b ((9 : Nat) : Int) (total front : Int) (by decide) (by decide) (by omega) (by omega) l (by omega) hol a3 c3 _ w4 hdev4 s3
              have hEok := append_ok hD1 ((9 : Nat) : Int) (total front : Int) l
              have hEsm := append_sm hS1 ((9 : Nat) : Int) (total front : Int) l
              rw [happ] at ca hEok hEsm
              obtain ⟨b0, o0', rfl, _, hc0⟩ := sl4.at_ (by omega)
              refine KW.skip (KW.seq (KW.region ?_))
              refine OW.val rfl rfl (EX.move rfl) ?_
              refine OW.val rfl rfl (EX.move rfl) ?_
              refine OW.val rfl rfl (EX.move rfl) ?_
              refine OW.val rfl rfl (EX.move rfl) ?_
              refine OW.val rfl rfl (by first | exact EX.indexAddrS0 Try.underlying22 ti48 rfl rfl (by omega) | exact EX.indexAddrS1 Try.underlying22 ti48 rfl rfl (by omega)) ?_
              refine OW.val rfl rfl (EX.load Try.underlying48 rfl rfl (hc0 i _ g3)) ?_
              refine OW.call rfl rfl rfl (ca) ?_
              rintro _ w5 ⟨rfl, hdev5, tm5⟩
              refine OW.val rfl rfl (EX.move rfl) ?_
              refine OW.val rfl rfl (EX.extract rfl rfl) ?_
              refine OW.val rfl rfl (EX.extract rfl rfl) ?_
              refine OW.val rfl rfl (EX.assign rfl) ?_
              refine OW.val rfl rfl (EX.assign rfl) ?_
              refine OW.nil ?_
              refine KW.seq (KW.seq ?_)
              have y50 : Ext w0 w5 := Tm.below y40 tm5 y40.size hz01
              have y51 : Ext w1 w5 := Tm.below y41 tm5 y41.size (Nat.le_refl _)
              have own5 := tm5.own own4 (by decide)
              refine KW.region ?_
              refine OW.val rfl rfl (EX.move rfl) ?_
              refine OW.val rfl rfl (by first | exact EX.eqlN (b := 0) rfl rfl | exact EX.eqlZ rfl rfl) ?_
              refine OW.val rfl rfl (EX.move rfl) ?_
              refine OW.call rfl rfl rfl (dead_d hdev5 hEok) ?_
              rintro _ _ ⟨rfl, rfl⟩
              refine OW.val rfl rfl (by first | exact EX.notD rfl | exact EX.notB rfl) ?_
              refine OW.val rfl rfl (EX.neqB Try.underlying4 rfl rfl) ?_
              refine OW.val rfl rfl (EX.move rfl) ?_
              have hnb : (decide (e = 0) != !E.dead) = false := by
                rcases hE : E.dead with _ | _
                · rw [decide_eq_true (hde.2 hE)]; rfl
                · rw [decide_eq_false (fun q => by have := hde.1 q; rw [hE] at this; cases this)]; rfl
              refine OW.as 93 (.bool false) rfl (congrArg Value.bool hnb) ?_
              refine OW.val rfl rfl (EX.move rfl) ?_
              refine OW.call rfl rfl rfl (up_d hdev5 hEok) ?_
              rintro _ w6 ⟨rfl, hdev6, tm6⟩
              refine OW.val rfl rfl (by first | exact EX.neqN (b := 0) rfl rfl | exact EX.neqZ rfl rfl) ?_
              refine OW.val rfl rfl (EX.pickF rfl rfl) ?_
              refine OW.nil ?_
              have y60 : Ext w0 w6 := Tm.below y50 tm6 y50.size hz01
              have y61 : Ext w1 w6 := Tm.below y51 tm6 y51.size (Nat.le_refl _)
              have own6 := tm6.own own5 (by decide)
              refine KW.condD rfl (fun hu => ?_) (fun hu => ?_)
              · exact absurd hu (by simp)
              · have hUok : Dv.Ok { E with dead := false } := up_ok hEok
                have hUsm : Sm { E with dead := false } (500 + 21 * i + 21) := ⟨hEsm.calls, hEsm.pend, hEsm.at_, hEsm.keep⟩
                have er : replayD { E with dead := false } ((9 : Nat) : Int) = (replay E.now ((9 : Nat) : Int), 0) := by
                  unfold replayD
                  rw [if_neg (by decide), if_neg (by simp)]
                have cr := replay_s hUok hUsm (by omega) w1.heap.size b ((9 : Nat) : Int) w6 hdev6
                rw [er] at cr
                have hfl : front.length = i := by rw [← hfe, List.length_take]; omega
                have hne2 : front ≠ P := by
                  intro q
                  have := congrArg List.length q
                  rw [← hfe, List.length_take] at this
                  omega
                refine KW.skip (KW.seq (KW.region ?_))
                refine OW.val rfl rfl (EX.move rfl) ?_
                rcases hrep with hrep | ⟨hrep, hee⟩
                · rw [hrep, hlt] at cr
                  refine OW.call rfl rfl rfl (cr) ?_
                  rintro _ w7 ⟨⟨vm, vsm, rfl, ownm, txm⟩, hdev7, tm7⟩
                  obtain ⟨Am, cm, rfl, _, slm⟩ := ownm.slice
                  refine OW.val rfl rfl (EX.move rfl) ?_
                  refine OW.val rfl rfl (EX.extract rfl rfl) ?_
                  refine OW.val rfl rfl (EX.extract rfl rfl) ?_
                  refine OW.val rfl rfl (EX.extract rfl rfl) ?_
                  refine OW.val rfl rfl (EX.assign rfl) ?_
                  refine OW.val rfl rfl (EX.assign rfl) ?_
                  refine OW.val rfl rfl (EX.assign rfl) ?_
                  refine OW.nil ?_
                  refine KW.seq ?_
                  have y70 : Ext w0 w7 := Tm.below y60 tm7 y60.size hz01
                  have y71 : Ext w1 w7 := Tm.below y61 tm7 y61.size (Nat.le_refl _)
                  have own7 := tm7.own own6 (by decide)
                  obtain ⟨A7, c7, e1, _, sl7⟩ := own7.slice
                  cases e1
                  have tx7 := tx1.ext y71
                  refine KW.region ?_
                  refine OW.val rfl rfl (EX.move rfl) ?_
                  refine OW.val rfl rfl (EX.move rfl) ?_
                  refine OW.call rfl rfl rfl (same_s P P vsm vs' Am _ cm c1 w7 _ _ _ _ slm sl7 txm.txs tx7 (by omega) hmb) ?_
                  rintro _ w8 ⟨rfl, hx8⟩
                  refine OW.val rfl rfl (EX.move rfl) ?_
                  refine OW.as 107 (.bool true) rfl (congrArg Value.bool (decide_eq_true (rfl))) ?_
                  refine OW.val rfl rfl (EX.move rfl) ?_
                  refine OW.val rfl rfl (EX.move rfl) ?_
                  refine OW.val rfl rfl (by first | exact EX.eqlN rfl rfl | exact EX.eqlZ rfl rfl) ?_
                  refine OW.val rfl rfl (EX.pickT rfl rfl) ?_
                  refine OW.val rfl rfl (EX.assign rfl) ?_
                  refine OW.nil ?_
                  refine KW.seq ?_
                  have own8 := own7.ext hx8
                  refine KW.region ?_
                  refine OW.val rfl rfl (EX.move rfl) ?_
                  refine OW.val rfl rfl (EX.move rfl) ?_
                  refine OW.val rfl rfl (EX.move rfl) ?_
                  refine OW.ownFH rfl rfl Try.underlying22 ti48 rfl rfl (own8) (by omega) ?_
                  rintro v9 own9 hbl9
                  obtain ⟨A9, c9, rfl, _, sl9⟩ := own9.slice
                  have tx9 := (tx7.ext hx8).take i
                  rw [hfe] at tx9
                  have cs := same_s P front vsm (vs'.take i) Am A9 cm c9 w8 _ _ _ _ (slm.ext hx8) sl9 (txm.txs.ext hx8) tx9 (by omega) hmb
                  rw [hfl] at cs
                  refine OW.call rfl rfl rfl (cs) ?_
                  rintro _ w9 ⟨rfl, hx9⟩
                  refine OW.val rfl rfl (EX.move rfl) ?_
                  refine OW.as 117 (.bool false) rfl (congrArg Value.bool (decide_eq_false (fun q => hne2 q.symm))) ?_
                  refine OW.pass rfl rfl ?_
                  refine OW.pass rfl rfl ?_
                  refine OW.pass rfl rfl ?_
                  refine OW.val rfl rfl (EX.pickF rfl rfl) ?_
                  refine OW.val rfl rfl (EX.assign rfl) ?_
                  refine OW.nil ?_
                  refine KW.seq ?_
                  refine KW.region ?_
                  refine OW.val rfl rfl (EX.move rfl) ?_
                  refine OW.val rfl rfl (by first | exact EX.eqlN (b := 0) rfl rfl | exact EX.eqlZ rfl rfl) ?_
                  refine OW.val rfl rfl (EX.move rfl) ?_
                  refine OW.as 124 (.bool true) rfl (congrArg Value.bool (decide_eq_true (rfl))) ?_
                  refine OW.val rfl rfl (EX.move rfl) ?_
                  refine OW.val rfl rfl (EX.move rfl) ?_
                  refine OW.as 126 (.bool true) rfl (congrArg Value.bool (decide_eq_true (rfl))) ?_
                  refine OW.pass rfl rfl ?_
                  refine OW.pass rfl rfl ?_
                  refine OW.pass rfl rfl ?_
                  refine OW.pass rfl rfl ?_
                  refine OW.pass rfl rfl ?_
                  refine OW.val rfl rfl (EX.pickT rfl rfl) ?_
                  refine OW.val rfl rfl (EX.pickT rfl rfl) ?_
                  refine OW.val rfl rfl (EX.move rfl) ?_
                  have y9 := Ext.trans hx0 (Ext.trans (Ext.trans y70 hx8) hx9)
                  refine OW.call rfl rfl rfl (bye w9 y9) ?_
                  rintro _ w10 ⟨rfl, hx10⟩
                  refine OW.val rfl rfl (EX.pickT rfl rfl) ?_
                  refine OW.val rfl rfl (EX.assign rfl) ?_
                  refine OW.nil ?_
                  refine KW.ret (ret1 rfl rfl ?_)
                  exact ⟨rfl, hx10⟩
                · rw [hrep] at cr
                  refine OW.call rfl rfl rfl (cr) ?_
                  rintro _ w7 ⟨⟨vm, vsm, rfl, ownm, txm⟩, hdev7, tm7⟩
                  obtain ⟨Am, cm, rfl, _, slm⟩ := ownm.slice
                  refine OW.val rfl rfl (EX.move rfl) ?_
                  refine OW.val rfl rfl (EX.extract rfl rfl) ?_
                  refine OW.val rfl rfl (EX.extract rfl rfl) ?_
                  refine OW.val rfl rfl (EX.extract rfl rfl) ?_
                  refine OW.val rfl rfl (EX.assign rfl) ?_
                  refine OW.val rfl rfl (EX.assign rfl) ?_
                  refine OW.val rfl rfl (EX.assign rfl) ?_
                  refine OW.nil ?_
                  refine KW.seq ?_
                  have y70 : Ext w0 w7 := Tm.below y60 tm7 y60.size hz01
                  have y71 : Ext w1 w7 := Tm.below y61 tm7 y61.size (Nat.le_refl _)
                  have own7 := tm7.own own6 (by decide)
                  obtain ⟨A7, c7, e1, _, sl7⟩ := own7.slice
                  cases e1
                  have tx7 := tx1.ext y71
                  have hmf : ∀ x ∈ front, x.length ≤ 140737488355328 := fun x hx => hmb x (by rw [← hlt]; exact List.mem_append_left _ hx)
                  have hmf2 := hfl
                  refine KW.region ?_
                  refine OW.val rfl rfl (EX.move rfl) ?_
                  refine OW.val rfl rfl (EX.move rfl) ?_
                  refine OW.call rfl rfl rfl (same_s front P vsm vs' Am _ cm c1 w7 _ _ _ _ slm sl7 txm.txs tx7 (by omega) hmf) ?_
                  rintro _ w8 ⟨rfl, hx8⟩
                  refine OW.val rfl rfl (EX.move rfl) ?_
                  refine OW.as 107 (.bool false) rfl (congrArg Value.bool (decide_eq_false (hne2))) ?_
                  refine OW.pass rfl rfl ?_
                  refine OW.pass rfl rfl ?_
                  refine OW.pass rfl rfl ?_
                  refine OW.val rfl rfl (EX.pickF rfl rfl) ?_
                  refine OW.val rfl rfl (EX.assign rfl) ?_
                  refine OW.nil ?_
                  refine KW.seq ?_
                  have own8 := own7.ext hx8
                  refine KW.region ?_
                  refine OW.val rfl rfl (EX.move rfl) ?_
                  refine OW.val rfl rfl (EX.move rfl) ?_
                  refine OW.val rfl rfl (EX.move rfl) ?_
                  refine OW.ownFH rfl rfl Try.underlying22 ti48 rfl rfl (own8) (by omega) ?_
                  rintro v9 own9 hbl9
                  obtain ⟨A9, c9, rfl, _, sl9⟩ := own9.slice
                  have tx9 := (tx7.ext hx8).take i
                  rw [hfe] at tx9
                  have cs := same_s front front vsm (vs'.take i) Am A9 cm c9 w8 _ _ _ _ (slm.ext hx8) sl9 (txm.txs.ext hx8) tx9 (by omega) hmf
                  rw [hfl] at cs
                  have hlm2 : ((front, total front).1).length = i := hfl
                  refine OW.as 112 (.slice Am i cm) rfl (congrArg (fun q : Nat => Value.slice Am q cm) hlm2) ?_
                  refine OW.call rfl rfl rfl (cs) ?_
                  rintro _ w9 ⟨rfl, hx9⟩
                  refine OW.val rfl rfl (EX.move rfl) ?_
                  refine OW.as 117 (.bool true) rfl (congrArg Value.bool (decide_eq_true (rfl))) ?_
                  refine OW.val rfl rfl (EX.move rfl) ?_
                  refine OW.val rfl rfl (EX.move rfl) ?_
                  refine OW.val rfl rfl (by first | exact EX.eqlN rfl rfl | exact EX.eqlZ rfl rfl) ?_
                  refine OW.val rfl rfl (EX.pickT rfl rfl) ?_
                  refine OW.val rfl rfl (EX.assign rfl) ?_
                  refine OW.nil ?_
                  refine KW.seq ?_
                  refine KW.region ?_
                  refine OW.val rfl rfl (EX.move rfl) ?_
                  refine OW.val rfl rfl (by first | exact EX.eqlN (b := 0) rfl rfl | exact EX.eqlZ rfl rfl) ?_
                  refine OW.val rfl rfl (EX.move rfl) ?_
                  refine OW.as 124 (.bool true) rfl (congrArg Value.bool (decide_eq_true (rfl))) ?_
                  refine OW.val rfl rfl (EX.move rfl) ?_
                  refine OW.val rfl rfl (EX.move rfl) ?_
                  refine OW.val rfl rfl (EX.move rfl) ?_
                  refine OW.val rfl rfl (EX.move rfl) ?_
                  refine OW.as 128 (.bool true) rfl (congrArg Value.bool (decide_eq_true (rfl))) ?_
                  refine OW.val rfl rfl (EX.move rfl) ?_
                  refine OW.val rfl rfl (by first | exact EX.neqN (b := 0) rfl rfl | exact EX.neqZ rfl rfl) ?_
                  refine OW.val rfl rfl (EX.pickT rfl rfl) ?_
                  refine OW.val rfl rfl (EX.pickF rfl rfl) ?_
                  refine OW.val rfl rfl (EX.pickT rfl rfl) ?_
                  refine OW.val rfl rfl (EX.move rfl) ?_
                  refine OW.as 134 (.bool true) rfl (congrArg Value.bool (decide_eq_true (hee))) ?_
                  have y9 := Ext.trans hx0 (Ext.trans (Ext.trans y70 hx8) hx9)
                  refine OW.call rfl rfl rfl (bye w9 y9) ?_
                  rintro _ w10 ⟨rfl, hx10⟩
                  refine OW.val rfl rfl (EX.pickT rfl rfl) ?_
                  refine OW.val rfl rfl (EX.assign rfl) ?_
                  refine OW.nil ?_
                  refine KW.ret (ret1 rfl rfl ?_)
                  exact ⟨rfl, hx10⟩
end Go.Proofs.Ytlpnoogcdnfllaa
