/-
  What the statements rest on, part 5 of 6: many small texts, one behind the other.
-/
import Derived.Test.YtlpnoogcdnfllaaMrgD
/- wal: transactions are found. -/
namespace Go.Proofs.Ytlpnoogcdnfllaa
set_option linter.unnecessarySimpa false
open Go.RowKit Rec Pth Dsk Wal
set_option linter.unusedVariables false
set_option linter.unusedSimpArgs false

abbrev Txl := List (List Nt)
/-- transactions that a call made, each in a block of its own -/
def TxO (w : World) (B : Nat) : List Value → List (List Nt) → Prop
  | [], [] => True
  | v :: vs, l :: ls => Own w B 69 6 v l.length (ntsV l) ∧ TxO w B vs ls
  | _, _ => False
theorem TxO.len {w : World} {B : Nat} : ∀ {vs : List Value} {ls : List (List Nt)}, TxO w B vs ls → vs.length = ls.length
  | [], [], _ => rfl
  | v :: vs, l :: ls, ⟨_, h2⟩ => by simp [TxO.len h2]
  | [], _ :: _, h => h.elim
  | _ :: _, [], h => h.elim
theorem TxO.snoc {w : World} {B : Nat} : ∀ {vs : List Value} {ls : List (List Nt)} {v : Value} {l : List Nt}, TxO w B vs ls → Own w B 69 6 v l.length (ntsV l) → TxO w B (vs ++ [v]) (ls ++ [l])
  | [], [], _, _, _, h => ⟨h, trivial⟩
  | c :: cs, v :: vs, _, _, ⟨h1, h2⟩, h => ⟨h1, TxO.snoc h2 h⟩
  | [], _ :: _, _, _, h, _ => h.elim
  | _ :: _, [], _, _, h, _ => h.elim
theorem TxO.mo {w w' : World} {B : Nat} {S : List Nat} (hm : Mo w w' S) : ∀ {vs : List Value} {ls : List (List Nt)}, (∀ v ∈ vs, ∀ k, v.ownBlock = some k → k ∉ S) → TxO w B vs ls → TxO w' B vs ls
  | [], [], _, h => h
  | v :: vs, l :: ls, hS, ⟨h1, h2⟩ => ⟨h1.mo hm (hS v (by simp)), TxO.mo hm (fun x hx => hS x (by simp [hx])) h2⟩
  | [], _ :: _, _, h => h.elim
  | _ :: _, [], _, h => h.elim
theorem TxO.ext {w w' : World} {B : Nat} (hx : Ext w w') : ∀ {vs : List Value} {ls : List (List Nt)}, TxO w B vs ls → TxO w' B vs ls
  | [], [], h => h
  | v :: vs, l :: ls, ⟨h1, h2⟩ => ⟨h1.ext hx, TxO.ext hx h2⟩
  | [], _ :: _, h => h.elim
  | _ :: _, [], h => h.elim
theorem TxO.tm {w w' : World} {B C : Nat} {p : TypeId → Bool} (h : Tm w w' C p) (hp : p 69 = false) : ∀ {vs : List Value} {ls : List (List Nt)}, TxO w B vs ls → TxO w' B vs ls
  | [], [], h => h
  | v :: vs, l :: ls, ⟨h1, h2⟩ => ⟨h.own h1 hp, TxO.tm h hp h2⟩
  | [], _ :: _, h => h.elim
  | _ :: _, [], h => h.elim
theorem TxO.lt {w : World} {B : Nat} : ∀ {vs : List Value} {ls : List (List Nt)}, TxO w B vs ls → ∀ v ∈ vs, ∀ k, v.ownBlock = some k → B ≤ k ∧ k < w.heap.size ∧ ∃ l, Bk w k 69 l
  | v :: vs, l :: ls, ⟨h1, h2⟩, u, hu, k, hk => by
    rcases List.mem_cons.1 hu with rfl | hu
    · exact ⟨(h1.lt k hk).1, (h1.lt k hk).2, (h1.blkT k hk).2⟩
    · exact TxO.lt h2 u hu k hk
  | [], _ :: _, h, _, _, _, _ => h.elim
  | _ :: _, [], h, _, _, _, _ => h.elim
  | [], [], _, u, hu, _, _ => by simp at hu
theorem TxO.one {w : World} {B : Nat} : ∀ {vs : List Value} {ls : List (List Nt)}, TxO w B vs ls → ∀ v ∈ vs, v.oneCell' = true
  | v :: vs, l :: ls, ⟨h1, h2⟩, u, hu => by
    rcases List.mem_cons.1 hu with rfl | hu
    · exact h1.one
    · exact TxO.one h2 u hu
  | [], _ :: _, h, _, _ => h.elim
  | _ :: _, [], h, _, _ => h.elim
  | [], [], _, u, hu => by simp at hu
theorem DevAt.tm {w w' : World} {B b C : Nat} {D : Dv} {p : TypeId → Bool} (h : DevAt w B b D) (t : Tm w w' C p) (p1 : p 85 = false) (p2 : p 5 = false) (p3 : p 143 = false) (p4 : p 4 = false) (p5 : p 3 = false) (p6 : p 9 = false) : DevAt w' B b D := by
  obtain ⟨vk, vn, vp, vq, vs, h1, h2, h3, h4, h5, h6, h7, h8⟩ := h
  exact ⟨vk, vn, vp, vq, vs, h1, t.bk h2 p1, t.own h3 p2, t.own h4 p2, h5, t.own h6 p3, h7.tm t p5 p6, t.own h8 p4⟩
theorem dec_bounds (s : List UInt8) (hs : s.length ≤ 512) : (decodeR s).1.kind ≤ 255 ∧ (decodeR s).1.data.length ≤ 512 := by
  unfold decodeR
  split
  · refine ⟨?_, ?_⟩
    · have := (s.getD 4 0).toNat_lt
      show (s.getD 4 0).toNat ≤ 255
      omega
    · show ((s.drop 19).take _).length ≤ 512
      rw [List.length_take, List.length_drop]
      omega
  · exact ⟨by decide, by decide⟩
theorem sec_le (s : List UInt8) (i : Nat) : (sec s i).length ≤ 512 := by unfold sec; rw [List.length_take]; omega
theorem logN_lt (s : List UInt8) (i : Nat) : i < logN s ↔ i < 20 ∧ 10 + i < s.length / 512 := by unfold logN; omega
/-- what is told of transactions that were found -/
def Found (w : World) (B : Nat) (r : List (List Nt) × Nat) (e : Nat) (v : Value) : Prop :=
  ∃ vt vs, v = .tuple #[vt, .int .i64 (r.2 : Int), .int .i64 (e : Int)] ∧ Own w B 48 1 vt r.1.length vs ∧ TxO w B vs r.1
theorem found_nil (w : World) (B e : Nat) : Found w B ([], 0) e (.tuple #[.slice none 0 0, .int .i64 0, .int .i64 (e : Int)]) := ⟨_, [], rfl, Own.nil _ _ _ _, trivial⟩
set_option maxRecDepth 20000 in
theorem replay_s {D : Dv} (hD : D.Ok) {k : Nat} (hsm : Sm D k) (hk : k ≤ 900000) (B b : Nat) (gen : Int) (w : World) (h : DevAt w B b D) :
    Ret Try.prog 10 [.pointer (some ⟨b, 0, none⟩), .int .i64 gen] w fun v w' => Found w' w.heap.size (replayD D gen).1 (replayD D gen).2 v ∧ DevAt w' B b (replayed D gen) ∧ Tm w w' B dty := by
  have hcap := hD.cap
  have hno : readsD D gen = 0 → replayed D gen = D := fun e => by unfold replayed; rw [e]; rfl
  refine Ret.enter Try.func10 rfl Try.ntmps10 (by kernel_rfl) rfl ?_
  refine KW.seq (KW.region ?_)
  refine OW.val rfl rfl (EX.assign rfl) ?_
  refine OW.val rfl rfl (EX.assign rfl) ?_
  refine OW.val rfl rfl (EX.assign rfl) ?_
  refine OW.nil ?_
  refine KW.scope (KW.seq (KW.seq (KW.region ?_)))
  refine OW.val rfl rfl (EX.move rfl) ?_
  refine OW.call rfl rfl rfl (capacity_d h hD) ?_
  rintro _ _ ⟨rfl, rfl⟩
  refine OW.val rfl rfl (by first | exact EX.eqlN (b := 0) rfl rfl | exact EX.eqlZ rfl rfl) ?_
  refine OW.nil ?_
  refine KW.condD rfl (fun h0 => ?_) (fun h0 => ?_)
  · omega
  · refine KW.skip (KW.seq (KW.seq (KW.region ?_)))
    refine OW.val rfl rfl (EX.move rfl) ?_
    refine OW.call rfl rfl rfl (right_s gen w) ?_
    rintro _ _ ⟨rfl, rfl⟩
    refine OW.val rfl rfl (by first | exact EX.notD rfl | exact EX.notB rfl) ?_
    refine OW.nil ?_
    refine KW.condD rfl (fun hg => ?_) (fun hg => ?_)
    · have hb : badG gen := Classical.not_not.1 hg
      have e1 : replayD D gen = (([], 0), 210) := by unfold replayD; rw [if_pos hb]
      have e2 : readsD D gen = 0 := by unfold readsD; rw [if_pos hb]
      refine KW.seq (KW.region ?_)
      refine OW.val rfl rfl (EX.assign rfl) ?_
      refine OW.val rfl rfl (EX.assign rfl) ?_
      refine OW.val rfl rfl (EX.assign rfl) ?_
      refine OW.nil ?_
      refine KW.ret (ret3 rfl rfl rfl rfl ?_)
      rw [e1, hno e2]
      exact ⟨found_nil _ _ 210, h, Tm.refl _ _ _⟩
    · have hb : ¬ badG gen := fun q => hg (not_not_intro q)
      refine KW.skip (KW.seq (KW.seq (KW.region ?_)))
      refine OW.val rfl rfl (EX.move rfl) ?_
      refine OW.call rfl rfl rfl (dead_d h hD) ?_
      rintro _ _ ⟨rfl, rfl⟩
      refine OW.nil ?_
      refine KW.cond rfl (fun hd => ?_) (fun hd => ?_)
      · have e1 : replayD D gen = (([], 0), 190) := by unfold replayD; rw [if_neg hb, hd]; rfl
        have e2 : readsD D gen = 0 := by unfold readsD; rw [if_neg hb, hd]; rfl
        refine KW.seq (KW.region ?_)
        refine OW.val rfl rfl (EX.assign rfl) ?_
        refine OW.val rfl rfl (EX.assign rfl) ?_
        refine OW.val rfl rfl (EX.assign rfl) ?_
        refine OW.nil ?_
        refine KW.ret (ret3 rfl rfl rfl rfl ?_)
        rw [e1, hno e2]
        exact ⟨found_nil _ _ 190, h, Tm.refl _ _ _⟩
      · have e1 : replayD D gen = (rep gen (fun i => sec D.now (10 + i)) (logN D.now) 21 0 [] [] 0, 0) := by unfold replayD; rw [if_neg hb, hd]; rfl
        have e2 : readsD D gen = repN gen (fun i => sec D.now (10 + i)) (logN D.now) 21 0 [] := by unfold readsD; rw [if_neg hb, hd]; rfl
        generalize hM : logN D.now = m at e1 e2
        have hM2 := fun i => logN_lt D.now i
        rw [hM] at hM2
        have hm20 : m ≤ 20 := by rw [← hM]; unfold logN; omega
        generalize hR : (fun i => sec D.now (10 + i)) = rd at e1 e2
        have hrd : ∀ i, sec D.now (10 + i) = rd i := fun i => by rw [← hR]
        have fin : ∀ (wr : World) (out : List (List Nt)) (bh j : Nat) (vt : Value) (vs : List Value), rep gen rd m 21 0 [] [] 0 = (out, bh) → repN gen rd m 21 0 [] = j → DevAt wr B b { D with calls := D.calls + j } → Own wr w.heap.size 48 1 vt out.length vs → TxO wr w.heap.size vs out → Tm w wr B dty → (Found wr w.heap.size (replayD D gen).1 (replayD D gen).2 (.tuple #[vt, .int .i64 (bh : Int), .int .i64 0]) ∧ DevAt wr B b (replayed D gen) ∧ Tm w wr B dty) := by
          intro wr out bh j vt vs h1 h2 h3 h4 h5 h6
          rw [e1, h1]
          refine ⟨⟨vt, vs, rfl, h4, h5⟩, ?_, h6⟩
          have e : replayed D gen = { D with calls := D.calls + j } := by unfold replayed; rw [e2, h2]
          rw [e]
          exact h3
        refine KW.skip (KW.seq (KW.region ?_))
        refine OW.val rfl rfl (EX.assign rfl) ?_
        refine OW.nil ?_
        refine KW.seq (KW.region ?_)
        refine OW.val rfl rfl (EX.assign rfl) ?_
        refine OW.nil ?_
        refine KW.seq (KW.region ?_)
        refine OW.val rfl rfl (EX.assign rfl) ?_
        refine OW.nil ?_
        refine KW.seq (KW.label (KW.seq (KW.seq (KW.region ?_))))
        refine OW.val rfl rfl (EX.assign rfl) ?_
        refine OW.nil ?_
        refine KW.block ?_
        refine KW.loop7 (fun (i : Nat) (op : (List Nt)) (out : Txl) (bh : Nat) (vo : Value) (vt : Value) (wr : World) => i ≤ 20 ∧ bh ≤ 20 ∧ op.length ≤ i ∧ out.length ≤ i ∧ rep gen rd m 21 0 [] [] 0 = rep gen rd m (21 - i) i op out bh ∧ repN gen rd m 21 0 [] = repN gen rd m (21 - i) i op + i ∧ DevAt wr B b { D with calls := D.calls + i } ∧ Own wr w.heap.size 69 6 vo op.length (ntsV op) ∧ Tm w wr B dty ∧ ∃ vs, Own wr w.heap.size 48 1 vt out.length vs ∧ TxO wr w.heap.size vs out ∧ (∀ k, vo.ownBlock = some k → ∀ v ∈ vs, v.ownBlock ≠ some k)) (fun (i : Nat) (op : (List Nt)) (out : Txl) (bh : Nat) (vo : Value) (vt : Value) (wr : World) => [(0, .pointer (some ⟨b, 0, none⟩)), (1, .int .i64 (gen : Int)), (7, vt), (8, vo), (9, .int .i64 ((bh : Nat) : Int)), (10, .int .i64 ((i : Nat) : Int))]) (fun (i : Nat) (op : (List Nt)) (out : Txl) (bh : Nat) (vo : Value) (vt : Value) (wr : World) => wr) (fun (i : Nat) (op : (List Nt)) (out : Txl) (bh : Nat) (vo : Value) (vt : Value) (wr : World) => 21 - i) (0) ([]) ([]) (0) (.slice none 0 0) (.slice none 0 0) (w) ⟨rfl, rfl, rfl, rfl, rfl, rfl, trivial⟩ rfl ?_ ?_
        · exact ⟨by omega, by omega, by simp, by simp, rfl, rfl, h, Own.nil _ _ _ _, Tm.refl _ _ _, [], Own.nil _ _ _ _, trivial, fun k hk => by simp [Value.ownBlock] at hk⟩
        · rintro i op out bh vo vt wr ⟨hi, hbh, hol, hul, hrp, hrn, hdev, hown, htm, vs, hout, htx, hap⟩
          have hE : Dv.Ok { D with calls := D.calls + i } := ⟨hD.cap, hD.kept, hD.now, hD.keptM, hD.nowM, hD.pend⟩
          have hsE : Sm { D with calls := D.calls + i } (k + 20) := ⟨by have := hsm.calls; show D.calls + i ≤ _; omega, by have := hsm.pend; show D.pend.length ≤ _; omega, hsm.at_, hsm.keep⟩
          obtain ⟨f, hf⟩ : ∃ f, 21 - i = f + 1 := ⟨20 - i, by omega⟩
          have hf2 : f = 21 - (i + 1) := by omega
          rw [hf] at hrp hrn
          have over : ¬ i < m → (rep gen rd m 21 0 [] [] 0 = (out, bh) ∧ repN gen rd m 21 0 [] = i) := fun q => by
            obtain ⟨q1, q2⟩ := rep_0 (gen := gen) (rd := rd) (f := f) (op := op) (out := out) (b := bh) q
            rw [hrp, hrn, q1, q2]
            exact ⟨rfl, by omega⟩
          refine KW.seq (KW.seq ?_)
          refine KW.region ?_
          refine OW.val rfl rfl (EX.move rfl) ?_
          refine OW.val rfl rfl (by first | exact EX.lssN (b := 20) rfl rfl | exact EX.lssZ rfl rfl) ?_
          refine OW.val rfl rfl (EX.move rfl) ?_
          refine OW.splitD 26 rfl (fun c1 => ?_) (fun c1 => ?_)
          · refine OW.val rfl rfl (EX.move rfl) ?_
            refine OW.val rfl rfl (by first | exact EX.addN (a := 10) (m := 9223372036854775807) rfl rfl rfl (by omega) | exact EX.addZ (m := 9223372036854775807) rfl rfl rfl rfl (by omega)) ?_
            refine OW.val rfl rfl (EX.move rfl) ?_
            refine OW.call rfl rfl rfl (len_d hdev hE) ?_
            rintro _ _ ⟨rfl, rfl⟩
            refine OW.val rfl rfl (by first | exact EX.lssN rfl rfl | exact EX.lssZ rfl rfl) ?_
            refine OW.val rfl rfl (EX.pickT rfl rfl) ?_
            refine OW.nil ?_
            refine KW.condD rfl (fun c2 => ?_) (fun c2 => ?_)
            · have him : i < m := (hM2 i).2 ⟨by omega, c2⟩
              have er : Dv.read { D with calls := D.calls + i } ((10 + i : Nat) : Int) = ({ D with calls := D.calls + (i + 1) }, rd i, 0) := by
                unfold Dv.read
                rw [if_neg (by rw [hd]; decide), if_neg (by show ¬ (_ ∨ ((D.now.length / 512 : Nat) : Int) ≤ _); have : 10 + i < D.now.length / 512 := c2; omega), ← hrd]
                rfl
              have cr := read_d hdev hE (hsE.small (by omega)) ((10 + i : Nat) : Int) (by omega) (by omega)
              rw [er] at cr
              have hrl : (rd i).length ≤ 512 := by rw [← hrd]; exact sec_le _ _
              refine KW.skip (KW.seq (KW.block (KW.seq (KW.region ?_))))
              refine OW.val rfl rfl (EX.move rfl) ?_
              refine OW.val rfl rfl (EX.move rfl) ?_
              refine OW.val rfl rfl (by first | exact EX.addN (a := 10) (m := 9223372036854775807) rfl rfl rfl (by omega) | exact EX.addZ (m := 9223372036854775807) rfl rfl rfl rfl (by omega)) ?_
              refine OW.call rfl rfl rfl (cr) ?_
              rintro _ w5 ⟨rfl, hdev5, htm5⟩
              refine OW.val rfl rfl (EX.move rfl) ?_
              refine OW.val rfl rfl (EX.extract rfl rfl) ?_
              refine OW.val rfl rfl (EX.extract rfl rfl) ?_
              refine OW.val rfl rfl (EX.assign rfl) ?_
              refine OW.val rfl rfl (EX.assign rfl) ?_
              refine OW.nil ?_
              refine KW.seq (KW.seq (KW.region ?_))
              refine OW.val rfl rfl (EX.move rfl) ?_
              refine OW.val rfl rfl (by first | exact EX.neqN (b := 0) rfl rfl | exact EX.neqZ rfl rfl) ?_
              refine OW.nil ?_
              have hown5 := htm5.own hown rfl
              have hout5 := htm5.own hout rfl
              have htx5 := htx.tm htm5 rfl
              have tm5 := htm.trans htm5
              have z5 := tm5.size
              have cd := decode_s (rd i) w5
              have hdb := dec_bounds (rd i) hrl
              rcases hde : decodeR (rd i) with ⟨x, ee⟩
              rw [hde] at cd hdb
              have stop : (ee ≠ 0 ∨ x.gen ≠ gen ∨ x.index ≠ i) → (rep gen rd m 21 0 [] [] 0 = (out, bh) ∧ repN gen rd m 21 0 [] = i + 1) := fun q => by
                obtain ⟨q1, q2⟩ := rep_1 (f := f) (op := op) (out := out) (b := bh) him hde q
                rw [hrp, hrn, q1, q2]
                exact ⟨rfl, by omega⟩
              refine KW.as 43 (.bool false) rfl (congrArg Value.bool (decide_eq_false (by simp))) ?_
              refine KW.condF rfl (KW.skip (KW.seq (KW.region ?_)))
              refine OW.val rfl rfl (EX.move rfl) ?_
              refine OW.call rfl rfl rfl (cd) ?_
              rintro _ w6 ⟨rfl, hx6⟩
              refine OW.val rfl rfl (EX.move rfl) ?_
              refine OW.val rfl rfl (EX.extract rfl rfl) ?_
              refine OW.val rfl rfl (EX.extract rfl rfl) ?_
              have hb1 : x.kind ≤ 255 := hdb.1
              have hb2 : x.data.length ≤ 512 := hdb.2
              refine OW.allocB (l := [.int .u8 0, .int .i64 0, .int .i64 0, str []]) rfl rfl ti77 rfl ?_
              rintro xb w7 hge7 hx7b hx7
              refine OW.storeS rfl ti77 rfl rfl rfl (by first | rfl | (simp only [List.all_cons, List.all_nil, Bool.and_true, Bool.true_and, Bool.and_eq_true, Value.oneCell']; repeat (first | assumption | exact Own.one (by assumption) | constructor))) (hx7b) (Nat.le_refl _) ?_
              rintro w8 hb8 hm8
              refine OW.val rfl rfl (EX.assign rfl) ?_
              refine OW.nil ?_
              refine KW.seq (KW.seq ?_)
              replace hb8 : Bk w8 xb 77 x.cells := hb8
              have x8 : Ext w5 w8 := below_mo (hx6.trans hx7) hm8 (hx6.trans hx7).size (fun k hk => by simp at hk; have := hx6.size; omega)
              have hown8 := hown5.ext x8
              have hout8 := hout5.ext x8
              have htx8 := htx5.ext x8
              have hdev8 := hdev5.ext x8
              have tm8 := tm5.trans (Tm.of_ext x8 B dty)
              have z8 := tm8.size
              refine KW.region ?_
              refine OW.val rfl rfl (EX.move rfl) ?_
              refine OW.val rfl rfl (by first | exact EX.neqN (b := 0) rfl rfl | exact EX.neqZ rfl rfl) ?_
              refine OW.val rfl rfl (EX.move rfl) ?_
              refine OW.splitD 52 rfl (fun s1 => ?_) (fun s1 => ?_)
              · refine OW.pass rfl rfl ?_
                refine OW.pass rfl rfl ?_
                refine OW.pass rfl rfl ?_
                refine OW.pass rfl rfl ?_
                refine OW.val rfl rfl (EX.pickT rfl rfl) ?_
                refine OW.val rfl rfl (EX.move rfl) ?_
                refine OW.pass rfl rfl ?_
                refine OW.pass rfl rfl ?_
                refine OW.pass rfl rfl ?_
                refine OW.pass rfl rfl ?_
                refine OW.val rfl rfl (EX.pickT rfl rfl) ?_
                refine OW.nil ?_
                refine KW.condT rfl (KW.exit rfl (KW.seq (KW.region ?_)))
                refine OW.val rfl rfl (EX.move rfl) ?_
                refine OW.val rfl rfl (EX.move rfl) ?_
                refine OW.val rfl rfl (EX.assign rfl) ?_
                refine OW.val rfl rfl (EX.assign rfl) ?_
                refine OW.val rfl rfl (EX.assign rfl) ?_
                refine OW.nil ?_
                refine KW.ret (ret3 rfl rfl rfl rfl ?_)
                obtain ⟨q1, q2⟩ := stop (.inl (by omega))
                exact fin w8 out bh (i + 1) vt vs q1 q2 hdev8 hout8 htx8 tm8
              · refine OW.val rfl rfl (EX.fieldAddr (off := 1) Try.underlying77 rfl rfl ti3 rfl rfl) ?_
                refine OW.val rfl rfl (EX.load Try.underlying3 rfl rfl (hb8.cell_of rfl)) ?_
                refine OW.val rfl rfl (EX.move rfl) ?_
                refine OW.val rfl rfl (by first | exact EX.neqN rfl rfl | exact EX.neqZ rfl rfl) ?_
                refine OW.val rfl rfl (EX.pickF rfl rfl) ?_
                refine OW.val rfl rfl (EX.move rfl) ?_
                refine OW.splitD 58 rfl (fun s2 => ?_) (fun s2 => ?_)
                · refine OW.pass rfl rfl ?_
                  refine OW.pass rfl rfl ?_
                  refine OW.pass rfl rfl ?_
                  refine OW.pass rfl rfl ?_
                  refine OW.val rfl rfl (EX.pickT rfl rfl) ?_
                  refine OW.nil ?_
                  refine KW.condT rfl (KW.exit rfl (KW.seq (KW.region ?_)))
                  refine OW.val rfl rfl (EX.move rfl) ?_
                  refine OW.val rfl rfl (EX.move rfl) ?_
                  refine OW.val rfl rfl (EX.assign rfl) ?_
                  refine OW.val rfl rfl (EX.assign rfl) ?_
                  refine OW.val rfl rfl (EX.assign rfl) ?_
                  refine OW.nil ?_
                  refine KW.ret (ret3 rfl rfl rfl rfl ?_)
                  obtain ⟨q1, q2⟩ := stop (.inr (.inl s2))
                  exact fin w8 out bh (i + 1) vt vs q1 q2 hdev8 hout8 htx8 tm8
                · refine OW.val rfl rfl (EX.fieldAddr (off := 2) Try.underlying77 rfl rfl ti3 rfl rfl) ?_
                  refine OW.val rfl rfl (EX.load Try.underlying3 rfl rfl (hb8.cell_of rfl)) ?_
                  refine OW.val rfl rfl (EX.move rfl) ?_
                  refine OW.val rfl rfl (by first | exact EX.neqN rfl rfl | exact EX.neqZ rfl rfl) ?_
                  refine OW.val rfl rfl (EX.pickF rfl rfl) ?_
                  refine OW.nil ?_
                  refine KW.condD rfl (fun s3 => ?_) (fun s3 => ?_)
                  · refine KW.exit rfl (KW.seq (KW.region ?_))
                    refine OW.val rfl rfl (EX.move rfl) ?_
                    refine OW.val rfl rfl (EX.move rfl) ?_
                    refine OW.val rfl rfl (EX.assign rfl) ?_
                    refine OW.val rfl rfl (EX.assign rfl) ?_
                    refine OW.val rfl rfl (EX.assign rfl) ?_
                    refine OW.nil ?_
                    refine KW.ret (ret3 rfl rfl rfl rfl ?_)
                    obtain ⟨q1, q2⟩ := stop (.inr (.inr s3))
                    exact fin w8 out bh (i + 1) vt vs q1 q2 hdev8 hout8 htx8 tm8
                  · have go_ : ¬ (ee ≠ 0 ∨ x.gen ≠ gen ∨ x.index ≠ i) := by omega
                    refine KW.skip (KW.seq (KW.seq (KW.region ?_)))
                    refine OW.val rfl rfl (EX.fieldAddr (off := 0) Try.underlying77 rfl rfl ti5 rfl rfl) ?_
                    refine OW.val rfl rfl (EX.load Try.underlying5 rfl rfl (hb8.cell_of rfl)) ?_
                    refine OW.val rfl rfl (by first | exact EX.convN (m := 9223372036854775807) Try.underlying5 Try.underlying3 rfl rfl (by omega) | exact EX.convZ Try.underlying5 Try.underlying3 rfl) ?_
                    refine OW.val rfl rfl (by first | exact EX.eqlN (b := 3) rfl rfl | exact EX.eqlZ rfl rfl) ?_
                    refine OW.nil ?_
                    refine KW.condD rfl (fun k3 => ?_) (fun k3 => ?_)
                    · have k3' : x.kind = 3 := by omega
                      have stop2 : (op = [] ∨ x.data ≠ [UInt8.ofNat op.length]) → (rep gen rd m 21 0 [] [] 0 = (out, bh) ∧ repN gen rd m 21 0 [] = i + 1) := fun q => by
                        obtain ⟨q1, q2⟩ := rep_2 (f := f) (op := op) (out := out) (b := bh) him hde go_ k3' q
                        rw [hrp, hrn, q1, q2]
                        exact ⟨rfl, by omega⟩
                      obtain ⟨Ao, co, rfl, _, _⟩ := hown8.slice
                      refine KW.seq (KW.seq ?_)
                      refine KW.region ?_
                      refine OW.val rfl rfl (EX.move rfl) ?_
                      refine OW.val rfl rfl (EX.lenA Try.underlying48 rfl) ?_
                      refine OW.val rfl rfl (by first | exact EX.eqlN (b := 0) rfl rfl | exact EX.eqlZ rfl rfl) ?_
                      refine OW.val rfl rfl (EX.move rfl) ?_
                      refine OW.splitD 71 rfl (fun t1 => ?_) (fun t1 => ?_)
                      · refine OW.pass rfl rfl ?_
                        refine OW.pass rfl rfl ?_
                        refine OW.pass rfl rfl ?_
                        refine OW.pass rfl rfl ?_
                        refine OW.pass rfl rfl ?_
                        refine OW.pass rfl rfl ?_
                        refine OW.pass rfl rfl ?_
                        refine OW.pass rfl rfl ?_
                        refine OW.val rfl rfl (EX.pickT rfl rfl) ?_
                        refine OW.nil ?_
                        refine KW.condT rfl (KW.exit rfl (KW.seq (KW.region ?_)))
                        refine OW.val rfl rfl (EX.move rfl) ?_
                        refine OW.val rfl rfl (EX.move rfl) ?_
                        refine OW.val rfl rfl (EX.assign rfl) ?_
                        refine OW.val rfl rfl (EX.assign rfl) ?_
                        refine OW.val rfl rfl (EX.assign rfl) ?_
                        refine OW.nil ?_
                        refine KW.ret (ret3 rfl rfl rfl rfl ?_)
                        obtain ⟨q1, q2⟩ := stop2 (.inl (List.eq_nil_of_length_eq_zero (by omega)))
                        exact fin w8 out bh (i + 1) vt vs q1 q2 hdev8 hout8 htx8 tm8
                      · refine OW.val rfl rfl (EX.fieldAddr (off := 3) Try.underlying77 rfl rfl ti9 rfl rfl) ?_
                        refine OW.val rfl rfl (EX.load Try.underlying9 rfl rfl (hb8.cell_of rfl)) ?_
                        refine OW.val rfl rfl (EX.move rfl) ?_
                        refine OW.val rfl rfl (EX.lenA Try.underlying48 rfl) ?_
                        refine OW.val rfl rfl (by first | exact EX.convN (m := 255) Try.underlying3 Try.underlying5 rfl rfl (by omega) | exact EX.convW (m := 256) Try.underlying3 Try.underlying5 rfl rfl (by decide) | exact EX.convZ Try.underlying3 Try.underlying5 rfl) ?_
                        refine OW.buildB 1 rfl rfl Try.underlying80 ti5 rfl rfl rfl rfl (by first | rfl | (simp only [List.all_cons, List.all_nil, Bool.and_true, Bool.and_eq_true]; assumption)) (by decide) ?_
                        rintro sb w9 hge9 hsb9 hx9
                        have hown9 := hown8.ext hx9
                        have hout9 := hout8.ext hx9
                        have htx9 := htx8.ext hx9
                        have hdev9 := hdev8.ext hx9
                        have tm9 := tm8.trans (Tm.of_ext hx9 B dty)
                        have z9 := tm9.size
                        refine OW.val rfl rfl (EX.strOf Try.underlying80 Try.underlying5 Try.underlying9 rfl (oneB hsb9 (by omega)) (rfl)) ?_
                        refine OW.val rfl rfl (EX.neqS rfl rfl) ?_
                        refine OW.val rfl rfl (EX.pickF rfl rfl) ?_
                        refine OW.nil ?_
                        refine KW.condD rfl (fun t2 => ?_) (fun t2 => ?_)
                        · refine KW.exit rfl (KW.seq (KW.region ?_))
                          refine OW.val rfl rfl (EX.move rfl) ?_
                          refine OW.val rfl rfl (EX.move rfl) ?_
                          refine OW.val rfl rfl (EX.assign rfl) ?_
                          refine OW.val rfl rfl (EX.assign rfl) ?_
                          refine OW.val rfl rfl (EX.assign rfl) ?_
                          refine OW.nil ?_
                          refine KW.ret (ret3 rfl rfl rfl rfl ?_)
                          obtain ⟨q1, q2⟩ := stop2 (.inr t2)
                          exact fin w9 out bh (i + 1) vt vs q1 q2 hdev9 hout9 htx9 tm9
                        · have hno : ¬ (op = [] ∨ x.data ≠ [UInt8.ofNat op.length]) := by
                            rintro (q | q)
                            · rw [q] at t1; exact t1 rfl
                            · exact t2 q
                          obtain ⟨r1, r2⟩ := rep_3 (f := f) (op := op) (out := out) (b := bh) him hde go_ k3' hno
                          refine KW.skip (KW.seq (KW.region ?_))
                          refine OW.val rfl rfl (EX.move rfl) ?_
                          refine OW.val rfl rfl (EX.move rfl) ?_
                          refine OW.pushB (w.heap.size) rfl rfl (fun _ => rfl) rfl Try.underlying22 ti48 rfl rfl (fun _ => rfl) (by first | rfl | assumption | exact Own.one (by assumption)) (z9) (hout9) (by simp only [maxLen]; omega) (by omega) ?_
                          rintro _ v10 w10 hout10 hm10 hbl10
                          refine OW.val rfl rfl (EX.move rfl) ?_
                          refine OW.val rfl rfl (by first | exact EX.addN (b := 1) (m := 9223372036854775807) rfl rfl rfl (by omega) | exact EX.addZ (m := 9223372036854775807) rfl rfl rfl rfl (by omega)) ?_
                          refine OW.val rfl rfl (EX.assign rfl) ?_
                          refine OW.val rfl rfl (EX.assign rfl) ?_
                          refine OW.val rfl rfl (EX.assign rfl) ?_
                          refine OW.nil ?_
                          refine KW.exit rfl (KW.region ?_)
                          refine OW.val rfl rfl (EX.move rfl) ?_
                          refine OW.val rfl rfl (by first | exact EX.addN (b := 1) (m := 9223372036854775807) rfl rfl rfl (by omega) | exact EX.addZ (m := 9223372036854775807) rfl rfl rfl rfl (by omega)) ?_
                          refine OW.val rfl rfl (EX.assign rfl) ?_
                          refine OW.nil ?_
                          have t10 := Tm.ownMo hout9 hm10
                          have hown10 := t10.own hown9 (by decide)
                          have htx10 := htx9.tm t10 (by decide)
                          have hdev10 := hdev9.tm t10 (by decide) (by decide) (by decide) (by decide) (by decide) (by decide)
                          have tm10 := tm9.fresh hm10 (fun k hk => (hout9.lt k (Option.mem_toList.1 hk)).1)
                          refine KW.back7 (i + 1) ([]) (out ++ [op]) (i + 1) (.slice none 0 0) (v10) (w10) ⟨rfl, rfl, rfl, rfl, rfl, rfl, trivial⟩ rfl ?_ (by omega)
                          refine ⟨by omega, by omega, by simp, by simp; omega, ?_, ?_, hdev10, Own.nil _ _ _ _, tm10, vs ++ [_], ?_, htx10.snoc hown10, fun k hk => by simp [Value.ownBlock] at hk⟩
                          · rw [hrp, r1, hf2]
                          · rw [hrn, r2, hf2]; omega
                          · rw [List.length_append, List.length_singleton]; exact hout10
                    · have k3' : ¬ x.kind = 3 := by omega
                      refine KW.skip (KW.seq (KW.region ?_))
                      refine OW.val rfl rfl (EX.loadBk Try.underlying77 rfl ti77 rfl (hb8) (rfl)) ?_
                      refine OW.call rfl rfl rfl (note_s x hb1 (by omega) w8) ?_
                      rintro _ w9 ⟨⟨n, rfl, hn⟩, hx9⟩
                      refine OW.val rfl rfl (EX.move rfl) ?_
                      refine OW.val rfl rfl (EX.extract rfl rfl) ?_
                      refine OW.val rfl rfl (EX.extract rfl rfl) ?_
                      refine OW.allocB (l := [.int .i64 0, str [], .int .i64 0, .int .i64 0, .int .i64 0, .int .u32 0]) rfl rfl ti69 rfl ?_
                      rintro nb w10 hge10 hn10 hx10
                      refine OW.storeS rfl ti69 rfl rfl rfl (by first | rfl | (simp only [List.all_cons, List.all_nil, Bool.and_true, Bool.true_and, Bool.and_eq_true, Value.oneCell']; repeat (first | assumption | exact Own.one (by assumption) | constructor))) (hn10) (Nat.le_refl _) ?_
                      rintro w11 hn11 hm11
                      refine OW.val rfl rfl (EX.assign rfl) ?_
                      refine OW.nil ?_
                      refine KW.seq (KW.seq (KW.region ?_))
                      refine OW.val rfl rfl (EX.move rfl) ?_
                      refine OW.val rfl rfl (by first | exact EX.notD rfl | exact EX.notB rfl) ?_
                      refine OW.nil ?_
                      replace hn11 : Bk w11 nb 69 n.cells := hn11
                      have x11 : Ext w8 w11 := below_mo (hx9.trans hx10) hm11 (hx9.trans hx10).size (fun k hk => by simp at hk; have := hx9.size; omega)
                      have hown11 := hown8.ext x11
                      have hout11 := hout8.ext x11
                      have htx11 := htx8.ext x11
                      have hdev11 := hdev8.ext x11
                      have tm11 := tm8.trans (Tm.of_ext x11 B dty)
                      have z11 := tm11.size
                      rcases hno : noteOf x with _ | n'
                      · obtain ⟨r1, r2⟩ := rep_4 (f := f) (op := op) (out := out) (b := bh) him hde go_ k3' hno
                        refine KW.condT rfl (KW.exit rfl (KW.seq (KW.region ?_)))
                        refine OW.val rfl rfl (EX.move rfl) ?_
                        refine OW.val rfl rfl (EX.move rfl) ?_
                        refine OW.val rfl rfl (EX.assign rfl) ?_
                        refine OW.val rfl rfl (EX.assign rfl) ?_
                        refine OW.val rfl rfl (EX.assign rfl) ?_
                        refine OW.nil ?_
                        refine KW.ret (ret3 rfl rfl rfl rfl ?_)
                        exact fin w11 out bh (i + 1) vt vs (by rw [hrp, r1]) (by rw [hrn, r2]; omega) hdev11 hout11 htx11 tm11
                      · obtain ⟨r1, r2⟩ := rep_5 (f := f) (op := op) (out := out) (b := bh) him hde go_ k3' hno
                        obtain rfl := hn n' hno
                        refine KW.condF rfl (KW.skip (KW.region ?_))
                        refine OW.val rfl rfl (EX.move rfl) ?_
                        refine OW.val rfl rfl (EX.loadBk Try.underlying69 rfl ti69 rfl (hn11) (rfl)) ?_
                        refine OW.pushSB (w.heap.size) rfl rfl (fun _ => rfl) rfl Try.underlying48 ti69 rfl (by decide) (by decide) rfl rfl (fun _ => rfl) (by first | rfl | assumption | (simp only [List.all_cons, List.all_nil, Bool.and_true, Bool.true_and, Bool.and_eq_true, Value.oneCell']; repeat (first | assumption | constructor))) (z11) (hown11) (by simp only [maxLen]; omega) (by omega) ?_
                        rintro _ v12 w12 hown12 hm12 hbl12
                        refine OW.val rfl rfl (EX.assign rfl) ?_
                        refine OW.nil ?_
                        refine KW.leave (KW.region ?_)
                        refine OW.val rfl rfl (EX.move rfl) ?_
                        refine OW.val rfl rfl (by first | exact EX.addN (b := 1) (m := 9223372036854775807) rfl rfl rfl (by omega) | exact EX.addZ (m := 9223372036854775807) rfl rfl rfl rfl (by omega)) ?_
                        refine OW.val rfl rfl (EX.assign rfl) ?_
                        refine OW.nil ?_
                        have t12 := Tm.ownMo hown11 hm12
                        have hout12 := t12.own hout11 (by decide)
                        have htx12 := htx11.mo hm12 (fun v hv k hk q => hap k (Option.mem_toList.1 q) v hv hk)
                        have hdev12 := hdev11.tm t12 (by decide) (by decide) (by decide) (by decide) (by decide) (by decide)
                        have tm12 := tm11.fresh hm12 (fun k hk => (hown11.lt k (Option.mem_toList.1 hk)).1)
                        have en : ntsV (op ++ [n']) = ntsV op ++ n'.cells := by simp
                        refine KW.back7 (i + 1) (op ++ [n']) (out) (bh) (v12) (vt) (w12) ⟨rfl, rfl, rfl, rfl, rfl, rfl, trivial⟩ rfl ?_ (by omega)
                        refine ⟨by omega, by omega, by simp; omega, by omega, ?_, ?_, hdev12, ?_, tm12, vs, hout12, htx12, ?_⟩
                        · rw [hrp, r1, hf2]
                        · rw [hrn, r2, hf2]; omega
                        · rw [List.length_append, List.length_singleton, en]; exact hown12
                        · intro k hk v hv q
                          rcases hbl12 with e | ⟨g, e, hg⟩
                          · rw [e] at hk
                            exact hap k hk v hv q
                          · rw [e] at hk
                            cases hk
                            have := (htx11.lt v hv _ q).2.1
                            omega
            · refine KW.exit rfl (KW.seq (KW.region ?_))
              refine OW.val rfl rfl (EX.move rfl) ?_
              refine OW.val rfl rfl (EX.move rfl) ?_
              refine OW.val rfl rfl (EX.assign rfl) ?_
              refine OW.val rfl rfl (EX.assign rfl) ?_
              refine OW.val rfl rfl (EX.assign rfl) ?_
              refine OW.nil ?_
              refine KW.ret (ret3 rfl rfl rfl rfl ?_)
              obtain ⟨q1, q2⟩ := over (fun q => c2 ((hM2 i).1 q).2)
              exact fin wr out bh i vt vs q1 q2 hdev hout htx htm
          · refine OW.pass rfl rfl ?_
            refine OW.pass rfl rfl ?_
            refine OW.pass rfl rfl ?_
            refine OW.pass rfl rfl ?_
            refine OW.pass rfl rfl ?_
            refine OW.val rfl rfl (EX.pickF rfl rfl) ?_
            refine OW.nil ?_
            refine KW.condF rfl (KW.exit rfl (KW.seq (KW.region ?_)))
            refine OW.val rfl rfl (EX.move rfl) ?_
            refine OW.val rfl rfl (EX.move rfl) ?_
            refine OW.val rfl rfl (EX.assign rfl) ?_
            refine OW.val rfl rfl (EX.assign rfl) ?_
            refine OW.val rfl rfl (EX.assign rfl) ?_
            refine OW.nil ?_
            refine KW.ret (ret3 rfl rfl rfl rfl ?_)
            obtain ⟨q1, q2⟩ := over (fun q => c1 (by have := ((hM2 i).1 q).1; omega))
            exact fin wr out bh i vt vs q1 q2 hdev hout htx htm
end Go.Proofs.Ytlpnoogcdnfllaa
/- disk, in plain words: the sectors of a text. No program is spoken of. -/
namespace Go.Proofs.Ytlpnoogcdnfllaa.Dsk
set_option linter.unnecessarySimpa false
open Go.RowKit
set_option linter.unusedSimpArgs false
set_option linter.unusedVariables false
def scr (s : List UInt8) (i : Nat) : List UInt8 := (s.drop (i * 512)).take 512
def scrs (s : List UInt8) : List (List UInt8) := (List.range (s.length / 512)).map (scr s)
theorem scrs_length (s : List UInt8) : (scrs s).length = s.length / 512 := by simp [scrs]
theorem scrs_get (s : List UInt8) {i : Nat} (h : i < s.length / 512) : (scrs s)[i]? = some (scr s i) := by simp [scrs, h]
theorem scr_length {s : List UInt8} {i : Nat} (h : i < s.length / 512) : (scr s i).length = 512 := by
  unfold scr
  rw [List.length_take, List.length_drop]
  omega
theorem scrs_take_succ (s : List UInt8) {i : Nat} (h : i < s.length / 512) : (scrs s).take (i + 1) = (scrs s).take i ++ [scr s i] := by
  rw [List.take_add_one, scrs_get s h]
  rfl
theorem blkPut {s t : List UInt8} {a b n : Nat} (ht : t.length = n) (ha : a + n ≤ s.length) (h : b + n ≤ a ∨ b = a ∨ a + n ≤ b) : ((s.take a ++ t ++ s.drop (a + n)).drop b).take n = if b = a then t else (s.drop b).take n := by
  have l1 : (s.take a).length = a := by rw [List.length_take]; omega
  rcases h with h1 | h1 | h1
  · by_cases h2 : b = a
    · have : n = 0 := by omega
      subst this
      rw [if_pos h2, List.take_zero, List.eq_nil_of_length_eq_zero ht]
    · rw [if_neg h2, List.append_assoc, List.drop_append_of_le_length (by omega), List.take_append_of_le_length (by rw [List.length_drop]; omega), List.drop_take, List.take_take, Nat.min_eq_left (by omega)]
  · subst h1
    rw [if_pos rfl, List.append_assoc, List.drop_left' l1, List.take_left' ht]
  · have l2 : (s.take a ++ t).length = a + n := by rw [List.length_append, l1, ht]
    have e : (s.take a ++ t ++ s.drop (a + n)).drop b = s.drop b := by
      rw [List.drop_append, List.drop_eq_nil_of_le (by omega), List.nil_append, List.drop_drop, l2, show a + n + (b - (a + n)) = b by omega]
    rw [e]
    by_cases h2 : b = a
    · have : n = 0 := by omega
      subst this
      rw [if_pos h2, List.take_zero, List.eq_nil_of_length_eq_zero ht]
    · rw [if_neg h2]
theorem apWrite (i : Nat) (t s : List UInt8) : (Ch.write i t).ap s = (s ++ zeros ((i + 1) * 512 - s.length)).take (i * 512) ++ t ++ (s ++ zeros ((i + 1) * 512 - s.length)).drop (i * 512 + t.length) := rfl
theorem lenWrite {s t : List UInt8} {i : Nat} (ht : t.length = 512) (hm : s.length % 512 = 0) : ((Ch.write i t).ap s).length = max s.length ((i + 1) * 512) := by
  rw [apWrite]
  simp only [List.length_append, List.length_take, List.length_drop, zeros_length, ht]
  omega
theorem zerosPart {k a b : Nat} (h : a + b ≤ k) : ((zeros k).drop a).take b = zeros b := by
  unfold zeros
  rw [List.drop_replicate, List.take_replicate, Nat.min_eq_left (by omega)]
set_option maxRecDepth 20000 in
theorem scrZ (s : List UInt8) (k j : Nat) (hm : s.length % 512 = 0) (hj : (j + 1) * 512 ≤ s.length + k) : scr (s ++ zeros k) j = if j < s.length / 512 then scr s j else zeros 512 := by
  by_cases h : j < s.length / 512
  · have q1 : j * 512 ≤ s.length := by omega
    have q2 : 512 ≤ (s.drop (j * 512)).length := by rw [List.length_drop]; omega
    unfold scr
    rw [if_pos h, List.drop_append_of_le_length q1, List.take_append_of_le_length q2]
  · have q1 : s.length ≤ j * 512 := by omega
    have q2 : j * 512 - s.length + 512 ≤ k := by omega
    unfold scr
    rw [if_neg h, List.drop_append, List.drop_eq_nil_of_le q1, List.nil_append]
    exact zerosPart q2
set_option maxRecDepth 20000 in
theorem scr_write {s t : List UInt8} {i j : Nat} (hm : s.length % 512 = 0) (ht : t.length = 512) (hj : j < max (s.length / 512) (i + 1)) : scr ((Ch.write i t).ap s) j = if j = i then t else if j < s.length / 512 then scr s j else zeros 512 := by
  have e := blkPut (s := s ++ zeros ((i + 1) * 512 - s.length)) (t := t) (a := i * 512) (b := j * 512) (n := 512) ht (by rw [List.length_append, zeros_length]; omega) (by omega)
  have e2 : scr ((Ch.write i t).ap s) j = if j * 512 = i * 512 then t else scr (s ++ zeros ((i + 1) * 512 - s.length)) j := by
    rw [apWrite, ht]
    exact e
  rw [e2]
  by_cases h : j = i
  · rw [if_pos h, if_pos (by rw [h])]
  · rw [if_neg h, if_neg (by omega), scrZ s _ j hm (by omega)]
set_option maxRecDepth 20000 in
theorem scrs_write {s t : List UInt8} {i : Nat} (hm : s.length % 512 = 0) (ht : t.length = 512) : scrs ((Ch.write i t).ap s) = (scrs s ++ List.replicate (i + 1 - s.length / 512) (zeros 512)).set i t := by
  have hl : ((Ch.write i t).ap s).length / 512 = max (s.length / 512) (i + 1) := by rw [lenWrite ht hm]; omega
  apply List.ext_getElem?
  intro j
  by_cases hj : j < max (s.length / 512) (i + 1)
  · rw [scrs_get _ (by rw [hl]; exact hj), scr_write hm ht hj, List.getElem?_set]
    by_cases h : i = j
    · subst h
      rw [if_pos rfl, if_pos rfl, if_pos (by rw [List.length_append, scrs_length, List.length_replicate]; omega)]
    · rw [if_neg (fun q => h q.symm), if_neg h, List.getElem?_append]
      by_cases h2 : j < s.length / 512
      · rw [if_pos h2, if_pos (by rw [scrs_length]; exact h2), scrs_get s h2]
      · rw [if_neg h2, if_neg (by rw [scrs_length]; exact h2), List.getElem?_replicate, if_pos (by rw [scrs_length]; omega)]
  · rw [List.getElem?_eq_none (by rw [scrs_length, hl]; omega), List.getElem?_eq_none (by rw [List.length_set, List.length_append, scrs_length, List.length_replicate]; omega)]
set_option maxRecDepth 20000 in
theorem scrs_cut {s : List UInt8} {n : Nat} (hm : s.length % 512 = 0) : scrs ((Ch.cut n).ap s) = (scrs s).take n := by
  have e : (Ch.cut n).ap s = s.take (min s.length (n * 512)) := rfl
  rw [e]
  apply List.ext_getElem?
  intro j
  rw [List.getElem?_take]
  have hl : (s.take (min s.length (n * 512))).length / 512 = min (s.length / 512) n := by rw [List.length_take]; omega
  by_cases hj : j < min (s.length / 512) n
  · rw [scrs_get _ (by rw [hl]; exact hj), if_pos (by omega), scrs_get s (by omega)]
    unfold scr
    rw [List.drop_take, List.take_take, Nat.min_eq_left (by omega)]
  · rw [List.getElem?_eq_none (by rw [scrs_length, hl]; omega)]
    split
    · rw [List.getElem?_eq_none (by rw [scrs_length]; omega)]
    · rfl
/-- does the power go at this call? -/
def Dv.falls (D : Dv) : Dv × Bool :=
  if D.at_ = 1 then ({ D with kept := fallen D.pend D.keep D.kept, now := fallen D.pend D.keep D.kept, pend := [], at_ := 0, keep := [], dead := true }, true) else ({ D with at_ := D.at_ - 1 }, false)
theorem does_falls (D : Dv) (c : Option Ch) : D.does c = if (D.pushed c).falls.2 = true then ((D.pushed c).falls.1, 190) else ((D.pushed c).falls.1.done c, 0) := by
  unfold Dv.falls
  by_cases h : (D.pushed c).at_ = 1
  · rw [does_fall h, if_pos h, if_pos rfl]
  · rw [does_go h, if_neg h, if_neg (by simp)]
theorem falls_ok {D : Dv} (h : D.Ok) : D.falls.1.Ok := by
  unfold Dv.falls
  split
  · obtain ⟨h1, h2⟩ := fallen_length D.pend D.keep D.kept h.pend h.kept h.keptM
    exact ⟨h.cap, h1, h1, h2, h2, fun c hc => by simp at hc⟩
  · exact ⟨h.cap, h.kept, h.now, h.keptM, h.nowM, h.pend⟩
end Go.Proofs.Ytlpnoogcdnfllaa.Dsk
/- disk: the document's device: made of a text, and read. -/
namespace Go.Proofs.Ytlpnoogcdnfllaa
set_option linter.unnecessarySimpa false
open Go.RowKit Dsk
set_option linter.unusedVariables false
set_option linter.unusedSimpArgs false

abbrev secsV (s : List UInt8) : List Value := (scrs s).map str
def chV : Ch → List Value
  | .write i s => [.bool false, .int .i64 (i : Int), str s]
  | .cut n => [.bool true, .int .i64 (n : Int), str []]
abbrev chsV (l : List Ch) : List Value := l.flatMap chV
theorem chsV_length (l : List Ch) : (chsV l).length = l.length * 3 := by
  induction l with
  | nil => rfl
  | cons c l ih => simp only [chsV, List.flatMap_cons, List.length_append] at ih ⊢; rw [ih]; cases c <;> simp [chV] <;> omega
/-- the document's device in memory -/
structure RDev (w : World) (B b : Nat) (D : Dv) (vS vN vP vK : Value) : Prop where
  lo : B ≤ b
  cells : Bk w b 64 [.int .i64 (D.cap : Int), vS, vN, vP, .int .i64 (D.at_ : Int), vK, .bool D.dead, .int .i64 (D.calls : Int)]
  synced : Own w B 9 1 vS (D.kept.length / 512) (secsV D.kept)
  now : Own w B 9 1 vN (D.now.length / 512) (secsV D.now)
  pend : Own w B 124 3 vP D.pend.length (chsV D.pend)
  keep : Own w B 4 1 vK D.keep.length (boolsV D.keep)
def RDevAt (w : World) (B b : Nat) (D : Dv) : Prop := ∃ vS vN vP vK, RDev w B b D vS vN vP vK
/-- the types of what the document's device's call changes -/
def rty (T : TypeId) : Bool := T == 64 || T == 124
theorem RDevAt.ext {w w' : World} {B b : Nat} {D : Dv} (h : RDevAt w B b D) (hx : Ext w w') : RDevAt w' B b D := by
  obtain ⟨vS, vN, vP, vK, h1, h2, h3, h4, h5, h6⟩ := h
  exact ⟨vS, vN, vP, vK, h1, h2.ext hx, h3.ext hx, h4.ext hx, h5.ext hx, h6.ext hx⟩
theorem RDevAt.tm {w w' : World} {B b C : Nat} {D : Dv} {p : TypeId → Bool} (h : RDevAt w B b D) (t : Tm w w' C p) (p1 : p 64 = false) (p2 : p 9 = false) (p3 : p 124 = false) (p4 : p 4 = false) : RDevAt w' B b D := by
  obtain ⟨vS, vN, vP, vK, h1, h2, h3, h4, h5, h6⟩ := h
  exact ⟨vS, vN, vP, vK, h1, t.bk h2 p1, t.own h3 p2, t.own h4 p2, t.own h5 p3, t.own h6 p4⟩
theorem RDev.after {w w' : World} {B b : Nat} {D' : Dv} {vS' vN' vP' vK' : Value} {l0 : List Value} (hlo : B ≤ b) (h0 : Bk w b 64 l0) (hm : Mo w w' [b])
    (hb : Bk w' b 64 [.int .i64 (D'.cap : Int), vS', vN', vP', .int .i64 (D'.at_ : Int), vK', .bool D'.dead, .int .i64 (D'.calls : Int)])
    (hs : Own w B 9 1 vS' (D'.kept.length / 512) (secsV D'.kept)) (hn : Own w B 9 1 vN' (D'.now.length / 512) (secsV D'.now)) (hp : Own w B 124 3 vP' D'.pend.length (chsV D'.pend)) (hk : Own w B 4 1 vK' D'.keep.length (boolsV D'.keep)) : RDev w' B b D' vS' vN' vP' vK' := by
  have tm := Tm.set h0 hm hlo
  exact ⟨hlo, hb, tm.own hs rfl, tm.own hn rfl, tm.own hp rfl, tm.own hk rfl⟩
theorem RDev.tmD {w w' : World} {B b : Nat} {l0 : List Value} (hlo : B ≤ b) (h0 : Bk w b 64 l0) (hm : Mo w w' [b]) : Tm w w' B rty := (Tm.set h0 hm hlo).mono fun T hT => by simp at hT; simp [rty, hT]
set_option maxRecDepth 20000 in
theorem rsectors_s (s : List UInt8) (hs : s.length ≤ 1000000000) (w : World) : Ret Try.prog 35 [str s] w fun v w' => Own w' w.heap.size 9 1 v (s.length / 512) (secsV s) ∧ Ext w w' := by
  have hsl := scrs_length s
  refine Ret.enter Try.func35 rfl Try.ntmps35 (by kernel_rfl) rfl ?_
  refine KW.seq (KW.region ?_)
  refine OW.val rfl rfl (EX.assign rfl) ?_
  refine OW.nil ?_
  refine KW.seq (KW.region ?_)
  refine OW.val rfl rfl (EX.assign rfl) ?_
  refine OW.nil ?_
  refine KW.seq (KW.block ?_)
  refine KW.loop4 (fun (n : Nat) (l : (List UInt8)) (v : Value) (wr : World) => n * 512 ≤ s.length ∧ l = s.drop (n * 512) ∧ Own wr w.heap.size 9 1 v n (((scrs s).take n).map str) ∧ Ext w wr) (fun (n : Nat) (l : (List UInt8)) (v : Value) (wr : World) => [(0, str (l)), (3, v)]) (fun (n : Nat) (l : (List UInt8)) (v : Value) (wr : World) => wr) (fun (n : Nat) (l : (List UInt8)) (v : Value) (wr : World) => s.length - n * 512) (0) (s) (.slice none 0 0) (w) ⟨rfl, rfl, trivial⟩ rfl ?_ ?_
  · exact ⟨by omega, rfl, Own.nil _ _ _ _, Ext.refl _⟩
  · rintro n l v wr ⟨hn, hl, hown, hx⟩
    have hll : l.length = s.length - n * 512 := by rw [hl, List.length_drop]
    refine KW.seq (KW.seq (KW.region ?_))
    refine OW.val rfl rfl (EX.move rfl) ?_
    refine OW.val rfl rfl (EX.lenS Try.underlying9 rfl) ?_
    refine OW.val rfl rfl (by first | exact EX.geqN (b := 512) rfl rfl | exact EX.geqZ rfl rfl) ?_
    refine OW.nil ?_
    refine KW.condD rfl (fun h => ?_) (fun h => ?_)
    · have hdl : l.drop 512 = s.drop ((n + 1) * 512) := by rw [hl, List.drop_drop]; congr 1; omega
      have htl : l.take 512 = scr s n := by rw [hl]; rfl
      have hnl : n < s.length / 512 := by omega
      have hts := scrs_take_succ s hnl
      have h512 : 512 ≤ l.length := h
      refine KW.skip (KW.block (KW.seq (KW.region ?_)))
      refine OW.val rfl rfl (EX.move rfl) ?_
      refine OW.val rfl rfl (EX.move rfl) ?_
      refine OW.val rfl rfl (EX.sliceFH (j := 512) Try.underlying9 rfl rfl (by omega)) ?_
      refine OW.push rfl rfl (fun _ => rfl) rfl Try.underlying61 ti9 rfl rfl (fun _ => rfl) rfl (hx) (hown) (by simp only [maxLen]; omega) (by omega) ?_
      rintro _ v' w' hown' hx' _ _
      refine OW.val rfl rfl (EX.assign rfl) ?_
      refine OW.nil ?_
      refine KW.region ?_
      refine OW.val rfl rfl (EX.move rfl) ?_
      refine OW.val rfl rfl (EX.sliceLE (i := 512) Try.underlying9 rfl rfl (by omega)) ?_
      refine OW.val rfl rfl (EX.assign rfl) ?_
      refine OW.nil ?_
      refine KW.leave ?_
      generalize l.take 512 = l5 at hown' htl
      generalize l.drop 512 = l6 at hdl ⊢
      refine KW.back4 (n + 1) (l6) (v') (w') ⟨rfl, rfl, trivial⟩ rfl ?_ (by clear h hown hown' hx hx' hsl; omega)
      refine ⟨by clear h hown hown' hx hx' hsl; omega, hdl, ?_, hx'⟩
      rw [hts, List.map_append, ← htl]
      exact hown'
    · have hnl : n = s.length / 512 := by omega
      refine KW.exit rfl (KW.seq (KW.region ?_))
      refine OW.val rfl rfl (EX.move rfl) ?_
      refine OW.val rfl rfl (EX.assign rfl) ?_
      refine OW.nil ?_
      refine KW.ret (ret1 rfl rfl ?_)
      rw [hnl, List.take_of_length_le (by omega)] at hown
      exact ⟨hown, hx⟩
theorem rload_s (c : Int) (c0 : -9223372036854775808 ≤ c) (c1 : c ≤ 9223372036854775807) (s : List UInt8) (hs : s.length ≤ 140737488355328) (w : World) :
    Ret Try.prog 13 [.int .i64 c, str s] w fun v w' => ∃ (p : Value) (e : Nat), v = .tuple #[p, .int .i64 (e : Int)] ∧ Ext w w' ∧ ((¬ may c s ∧ p = .pointer none ∧ e = 2) ∨ (may c s ∧ ∃ b, p = .pointer (some ⟨b, 0, none⟩) ∧ e = 0 ∧ RDevAt w' w.heap.size b (fresh c.toNat s))) := by
  refine Ret.enter Try.func13 rfl Try.ntmps13 (by kernel_rfl) rfl ?_
  refine KW.seq (KW.region ?_)
  refine OW.val rfl rfl (EX.assign rfl) ?_
  refine OW.val rfl rfl (EX.assign rfl) ?_
  refine OW.nil ?_
  refine KW.seq (KW.seq ?_)
  refine KW.cut1 (fun (_u : Unit) => True) (fun (_u : Unit) => [(0, .int .i64 (c : Int)), (1, str (s)), (24, .bool (decide (¬ (1 ≤ c ∧ c ≤ 4096 ∧ s.length % 512 = 0 ∧ ((s.length / 512 : Nat) : Int) ≤ c))))]) (fun (_u : Unit) => w) ?_ ?_
  · refine KW.region ?_
    refine OW.val rfl rfl (EX.move rfl) ?_
    refine OW.val rfl rfl (by first | exact EX.lssN (b := 1) rfl rfl | exact EX.lssZ rfl rfl) ?_
    refine OW.val rfl rfl (EX.move rfl) ?_
    refine OW.splitD 8 rfl (fun a1 => ?_) (fun a1 => ?_)
    · refine OW.pass rfl rfl ?_
      refine OW.pass rfl rfl ?_
      refine OW.val rfl rfl (EX.pickT rfl rfl) ?_
      refine OW.val rfl rfl (EX.move rfl) ?_
      refine OW.pass rfl rfl ?_
      refine OW.pass rfl rfl ?_
      refine OW.pass rfl rfl ?_
      refine OW.pass rfl rfl ?_
      refine OW.val rfl rfl (EX.pickT rfl rfl) ?_
      refine OW.val rfl rfl (EX.move rfl) ?_
      refine OW.pass rfl rfl ?_
      refine OW.pass rfl rfl ?_
      refine OW.pass rfl rfl ?_
      refine OW.pass rfl rfl ?_
      refine OW.pass rfl rfl ?_
      refine OW.val rfl rfl (EX.pickT rfl rfl) ?_
      refine OW.nil ?_
      refine KW.as 24 (.bool (decide (¬ (1 ≤ c ∧ c ≤ 4096 ∧ s.length % 512 = 0 ∧ ((s.length / 512 : Nat) : Int) ≤ c)))) rfl (by rw [decide_eq_true]; omega) ?_
      refine KW.meet1 (()) ⟨rfl, rfl, rfl, trivial⟩ rfl ?_
      trivial
    · refine OW.val rfl rfl (EX.move rfl) ?_
      refine OW.val rfl rfl (by first | exact EX.gtrN (b := 4096) rfl rfl | exact EX.gtrZ rfl rfl) ?_
      refine OW.val rfl rfl (EX.pickF rfl rfl) ?_
      refine OW.val rfl rfl (EX.move rfl) ?_
      refine OW.splitD 12 rfl (fun a2 => ?_) (fun a2 => ?_)
      · refine OW.pass rfl rfl ?_
        refine OW.pass rfl rfl ?_
        refine OW.pass rfl rfl ?_
        refine OW.pass rfl rfl ?_
        refine OW.val rfl rfl (EX.pickT rfl rfl) ?_
        refine OW.val rfl rfl (EX.move rfl) ?_
        refine OW.pass rfl rfl ?_
        refine OW.pass rfl rfl ?_
        refine OW.pass rfl rfl ?_
        refine OW.pass rfl rfl ?_
        refine OW.pass rfl rfl ?_
        refine OW.val rfl rfl (EX.pickT rfl rfl) ?_
        refine OW.nil ?_
        refine KW.as 24 (.bool (decide (¬ (1 ≤ c ∧ c ≤ 4096 ∧ s.length % 512 = 0 ∧ ((s.length / 512 : Nat) : Int) ≤ c)))) rfl (by rw [decide_eq_true]; omega) ?_
        refine KW.meet1 (()) ⟨rfl, rfl, rfl, trivial⟩ rfl ?_
        trivial
      · refine OW.val rfl rfl (EX.move rfl) ?_
        refine OW.val rfl rfl (EX.lenS Try.underlying9 rfl) ?_
        refine OW.val rfl rfl (by first | exact EX.remN (b := 512) rfl rfl (by omega) | exact EX.remZ rfl rfl (by decide)) ?_
        refine OW.val rfl rfl (by first | exact EX.neqN (b := 0) rfl rfl | exact EX.neqZ rfl rfl) ?_
        refine OW.val rfl rfl (EX.pickF rfl rfl) ?_
        refine OW.val rfl rfl (EX.move rfl) ?_
        refine OW.splitD 18 rfl (fun a3 => ?_) (fun a3 => ?_)
        · refine OW.pass rfl rfl ?_
          refine OW.pass rfl rfl ?_
          refine OW.pass rfl rfl ?_
          refine OW.pass rfl rfl ?_
          refine OW.pass rfl rfl ?_
          refine OW.val rfl rfl (EX.pickT rfl rfl) ?_
          refine OW.nil ?_
          refine KW.as 24 (.bool (decide (¬ (1 ≤ c ∧ c ≤ 4096 ∧ s.length % 512 = 0 ∧ ((s.length / 512 : Nat) : Int) ≤ c)))) rfl (by rw [decide_eq_true]; omega) ?_
          refine KW.meet1 (()) ⟨rfl, rfl, rfl, trivial⟩ rfl ?_
          trivial
        · refine OW.val rfl rfl (EX.move rfl) ?_
          refine OW.val rfl rfl (EX.lenS Try.underlying9 rfl) ?_
          refine OW.val rfl rfl (EX.move rfl) ?_
          refine OW.val rfl rfl (by first | exact EX.mulN (a := 512) (m := 9223372036854775807) rfl rfl rfl (by omega) | exact EX.mulZ (m := 9223372036854775807) rfl rfl rfl rfl (by omega)) ?_
          refine OW.val rfl rfl (by first | exact EX.gtrN rfl rfl | exact EX.gtrZ rfl rfl) ?_
          refine OW.val rfl rfl (EX.pickF rfl rfl) ?_
          refine OW.nil ?_
          refine KW.as 24 (.bool (decide (¬ (1 ≤ c ∧ c ≤ 4096 ∧ s.length % 512 = 0 ∧ ((s.length / 512 : Nat) : Int) ≤ c)))) rfl (congrArg Value.bool (decide_eq_decide.2 (by omega))) ?_
          refine KW.meet1 (()) ⟨rfl, rfl, rfl, trivial⟩ rfl ?_
          trivial
  · rintro _ _
    refine KW.condD rfl (fun hm => ?_) (fun hm => ?_)
    · refine KW.seq (KW.region ?_)
      refine OW.val rfl rfl (EX.assign rfl) ?_
      refine OW.val rfl rfl (EX.assign rfl) ?_
      refine OW.nil ?_
      refine KW.ret (ret2 rfl rfl rfl ?_)
      exact ⟨_, 2, rfl, Ext.refl _, .inl ⟨hm, rfl, rfl⟩⟩
    · have hmay : may c s := Classical.not_not.1 hm
      obtain ⟨m1, m2, m3, m4⟩ := id hmay
      obtain ⟨j, rfl⟩ := Int.eq_ofNat_of_zero_le (show 0 ≤ c by omega)
      refine KW.skip (KW.seq (KW.region ?_))
      refine OW.val rfl rfl (EX.move rfl) ?_
      refine OW.val rfl rfl (EX.move rfl) ?_
      refine OW.call rfl rfl rfl (rsectors_s s (by omega) w) ?_
      rintro v1 w1 ⟨hown1, hx1⟩
      refine OW.val rfl rfl (EX.move rfl) ?_
      refine OW.call rfl rfl rfl (rsectors_s s (by omega) w1) ?_
      rintro v2 w2 ⟨hown2, hx2⟩
      refine OW.val rfl rfl (EX.buildS (pl := [(0, 1), (1, 1), (2, 1), (3, 1), (4, 1), (5, 1), (6, 1), (7, 1)]) (ks := [0, 1, 2]) (is := [0, 1, 2]) (zs := [.int .i64 0, .slice none 0 0, .slice none 0 0, .slice none 0 0, .int .i64 0, .slice none 0 0, .bool false, .int .i64 0]) Try.underlying64 ti64 (by kernel_rfl) rfl rfl rfl (by first | rfl | (simp only [List.all_cons, List.all_nil, Bool.and_true, Bool.true_and, Bool.and_eq_true, Value.oneCell']; repeat (first | assumption | exact Own.one (by assumption) | constructor))) (by simp only [setAll, List.set_cons_zero, List.set_cons_succ]; rfl)) ?_
      refine OW.boxS rfl rfl rfl ?_
      rintro b w3 hge hb3 hx3
      refine OW.val rfl rfl (EX.assign rfl) ?_
      refine OW.val rfl rfl (EX.assign rfl) ?_
      refine OW.nil ?_
      refine KW.ret (ret2 rfl rfl rfl ?_)
      have z1 := hx1.size
      have z2 := hx2.size
      refine ⟨_, 0, rfl, (hx1.trans hx2).trans hx3, .inr ⟨hmay, b, rfl, rfl, v1, v2, .slice none 0 0, .slice none 0 0, ⟨by omega, hb3, (hown1.ext hx2).ext hx3, (hown2.more z1).ext hx3, Own.nil _ _ _ _, Own.nil _ _ _ _⟩⟩⟩
section
variable {w : World} {B b : Nat} {D : Dv}
set_option maxRecDepth 20000 in
theorem rread_d (h : RDevAt w B b D) (hD : D.Ok) (hc : D.calls ≤ 1000000) (i : Int) (i0 : -9223372036854775808 ≤ i) (i1 : i ≤ 9223372036854775807) :
    Ret Try.prog 36 [.pointer (some ⟨b, 0, none⟩), .int .i64 i] w fun v w' => v = .tuple #[str (D.read i).2.1, .int .i64 (((D.read i).2.2 : Nat) : Int)] ∧ RDevAt w' B b (D.read i).1 ∧ Tm w w' B rty := by
  have q1 := hD.now
  have q2 := hD.cap
  have h0 := h
  obtain ⟨vS, vN, vP, vK, hv⟩ := h
  obtain ⟨An, cn, rfl, hcn, hsln⟩ := hv.now.slice
  refine Ret.enter Try.func36 rfl Try.ntmps36 (by kernel_rfl) rfl ?_
  refine KW.seq (KW.region ?_)
  refine OW.val rfl rfl (EX.assign rfl) ?_
  refine OW.val rfl rfl (EX.assign rfl) ?_
  refine OW.nil ?_
  refine KW.seq (KW.seq (KW.region ?_))
  refine OW.val rfl rfl (EX.move rfl) ?_
  refine OW.val rfl rfl (by first | exact EX.eqlP1 Try.underlying36 rfl rfl | exact EX.eqlP0 Try.underlying36 rfl rfl) ?_
  refine OW.nil ?_
  refine KW.condF rfl (KW.skip (KW.seq (KW.seq (KW.region ?_))))
  refine OW.val rfl rfl (EX.move rfl) ?_
  refine OW.val rfl rfl (EX.nilCheck rfl) ?_
  refine OW.val rfl rfl (EX.fieldAddr (off := 6) Try.underlying64 rfl rfl ti4 rfl rfl) ?_
  refine OW.val rfl rfl (EX.load Try.underlying4 rfl rfl (hv.cells.cell_of rfl)) ?_
  refine OW.nil ?_
  refine KW.cond rfl (fun hd => ?_) (fun hd => ?_)
  · have e : D.read i = (D, [], 190) := by unfold Dv.read; rw [hd]; rfl
    refine KW.seq (KW.region ?_)
    refine OW.val rfl rfl (EX.assign rfl) ?_
    refine OW.val rfl rfl (EX.assign rfl) ?_
    refine OW.nil ?_
    refine KW.ret (ret2 rfl rfl rfl ?_)
    rw [e]
    exact ⟨rfl, h0, Tm.refl _ _ _⟩
  · refine KW.skip (KW.seq (KW.seq ?_))
    refine KW.region ?_
    refine OW.val rfl rfl (EX.move rfl) ?_
    refine OW.val rfl rfl (by first | exact EX.lssN (b := 0) rfl rfl | exact EX.lssZ rfl rfl) ?_
    refine OW.val rfl rfl (EX.move rfl) ?_
    refine OW.splitD 14 rfl (fun a1 => ?_) (fun a1 => ?_)
    · have e : D.read i = (D, [], 191) := by unfold Dv.read; rw [hd, if_neg (by simp), if_pos (.inl a1)]
      refine OW.pass rfl rfl ?_
      refine OW.pass rfl rfl ?_
      refine OW.pass rfl rfl ?_
      refine OW.pass rfl rfl ?_
      refine OW.pass rfl rfl ?_
      refine OW.pass rfl rfl ?_
      refine OW.pass rfl rfl ?_
      refine OW.val rfl rfl (EX.pickT rfl rfl) ?_
      refine OW.nil ?_
      refine KW.condT rfl (KW.seq (KW.region ?_))
      refine OW.val rfl rfl (EX.assign rfl) ?_
      refine OW.val rfl rfl (EX.assign rfl) ?_
      refine OW.nil ?_
      refine KW.ret (ret2 rfl rfl rfl ?_)
      rw [e]
      exact ⟨rfl, h0, Tm.refl _ _ _⟩
    · refine OW.val rfl rfl (EX.move rfl) ?_
      refine OW.val rfl rfl (EX.move rfl) ?_
      refine OW.val rfl rfl (EX.nilCheck rfl) ?_
      refine OW.val rfl rfl (EX.fieldAddr (off := 2) Try.underlying64 rfl rfl ti61 rfl rfl) ?_
      refine OW.val rfl rfl (EX.load Try.underlying61 rfl rfl (hv.cells.cell_of rfl)) ?_
      refine OW.val rfl rfl (EX.lenA Try.underlying61 rfl) ?_
      refine OW.val rfl rfl (by first | exact EX.geqN rfl rfl | exact EX.geqZ rfl rfl) ?_
      refine OW.val rfl rfl (EX.pickF rfl rfl) ?_
      refine OW.nil ?_
      refine KW.condD rfl (fun a2 => ?_) (fun a2 => ?_)
      · have e : D.read i = (D, [], 191) := by unfold Dv.read; rw [hd, if_neg (by simp), if_pos (.inr a2)]
        refine KW.seq (KW.region ?_)
        refine OW.val rfl rfl (EX.assign rfl) ?_
        refine OW.val rfl rfl (EX.assign rfl) ?_
        refine OW.nil ?_
        refine KW.ret (ret2 rfl rfl rfl ?_)
        rw [e]
        exact ⟨rfl, h0, Tm.refl _ _ _⟩
      · obtain ⟨j, rfl⟩ := Int.eq_ofNat_of_zero_le (show 0 ≤ i by omega)
        have hj : j < D.now.length / 512 := by omega
        have e : D.read (j : Int) = ({ D with calls := D.calls + 1 }, scr D.now j, 0) := by unfold Dv.read; rw [hd, if_neg (by simp), if_neg (by omega)]; rfl
        refine KW.skip (KW.seq (KW.region ?_))
        refine OW.val rfl rfl (EX.move rfl) ?_
        refine OW.val rfl rfl (EX.nilCheck rfl) ?_
        refine OW.val rfl rfl (EX.fieldAddr (off := 7) Try.underlying64 rfl rfl ti3 rfl rfl) ?_
        refine OW.val rfl rfl (EX.load Try.underlying3 rfl rfl (hv.cells.cell_of rfl)) ?_
        refine OW.val rfl rfl (by first | exact EX.addN (b := 1) (m := 9223372036854775807) rfl rfl rfl (by omega) | exact EX.addZ (m := 9223372036854775807) rfl rfl rfl rfl (by omega)) ?_
        refine OW.val rfl rfl (EX.nilCheck rfl) ?_
        refine OW.val rfl rfl (EX.fieldAddr (off := 7) Try.underlying64 rfl rfl ti3 rfl rfl) ?_
        refine OW.storeB rfl ti3 rfl rfl (by first | rfl | assumption | exact Own.one (by assumption)) (hv.cells) (by simp) ?_
        rintro w2 hb2 hm2
        refine OW.nil ?_
        refine KW.seq (KW.region ?_)
        refine OW.val rfl rfl (EX.move rfl) ?_
        refine OW.val rfl rfl (EX.nilCheck rfl) ?_
        refine OW.val rfl rfl (EX.fieldAddr (off := 2) Try.underlying64 rfl rfl ti61 rfl rfl) ?_
        have hv2 := RDev.after (D' := { D with calls := D.calls + 1 }) hv.lo hv.cells hm2 hb2 hv.synced hv.now hv.pend hv.keep
        obtain ⟨A2, c2, e2, hc2, hsl2⟩ := hv2.now.slice
        cases e2
        have hg : (secsV D.now)[j]? = some (str (scr D.now j)) := by rw [List.getElem?_map, scrs_get _ hj]; rfl
        obtain ⟨b0, o0, rfl, _, hc0⟩ := hsl2.at_ (by rw [List.length_map, scrs_length]; exact Nat.lt_of_le_of_lt (Nat.zero_le _) hj)
        refine OW.val rfl rfl (EX.load Try.underlying61 rfl rfl (hv2.cells.cell_of rfl)) ?_
        refine OW.val rfl rfl (EX.move rfl) ?_
        refine OW.val rfl rfl (by first | exact EX.indexAddrS0 Try.underlying61 ti9 rfl rfl (by omega) | exact EX.indexAddrS1 Try.underlying61 ti9 rfl rfl (by omega)) ?_
        refine OW.val rfl rfl (EX.load Try.underlying9 rfl rfl (hc0 j _ hg)) ?_
        refine OW.val rfl rfl (EX.assign rfl) ?_
        refine OW.val rfl rfl (EX.assign rfl) ?_
        refine OW.nil ?_
        refine KW.ret (ret2 rfl rfl rfl ?_)
        rw [e]
        exact ⟨rfl, ⟨_, _, _, _, hv2⟩, RDev.tmD hv.lo hv.cells hm2⟩
end
end Go.Proofs.Ytlpnoogcdnfllaa
/- wal: transactions are found, by the document. -/
namespace Go.Proofs.Ytlpnoogcdnfllaa
set_option linter.unnecessarySimpa false
open Go.RowKit Rec Pth Dsk Wal
set_option linter.unusedVariables false
set_option linter.unusedSimpArgs false

theorem memL_fine : ∀ (f : Nat) (s : List UInt8) (out : List M), (∀ m ∈ out, mayM m ∧ m.sum ≤ 4294967295) → ∀ m ∈ (memL f s out).1, mayM m ∧ m.sum ≤ 4294967295
  | 0, s, out, h => by rw [memL]; exact h
  | f + 1, s, out, h => by
    rw [memL]
    split
    · exact h
    · split
      · simp
      · split
        · rename_i hm
          refine memL_fine f _ _ (fun m hm2 => ?_)
          rcases List.mem_append.1 hm2 with q | q
          · exact h m q
          · rw [List.mem_singleton.1 q]
            exact ⟨hm, nb_le _ 4 (by omega)⟩
        · simp
theorem mayN1 {m : M} (h : mayM m) : mayN ⟨1, m⟩ := by unfold mayN; rw [data1, if_pos h]; simp
theorem mayN_bare {k : Int} (h1 : k ≠ 1) (d : List UInt8) : mayN ⟨k, bare d⟩ ↔ k = 2 ∧ checkP d = 0 := by
  unfold mayN
  by_cases h2 : k = 2
  · subst h2
    rw [data2]
    have e : bare (bare d).path = bare d := rfl
    by_cases h3 : checkP d = 0
    · rw [if_pos ⟨h3, e.symm⟩]; simp [h3]
    · rw [if_neg (fun q => h3 q.1)]; simp [h3]
  · rw [data3 h1 h2]; simp [h2]
theorem rtm_dev {w w' : World} {B b C : Nat} {D : Dv} {T : TypeId} (h : RDevAt w B b D) (t : Tm w w' C (fun U => U == T)) (hT : T = 69 ∨ T = 48) : RDevAt w' B b D := by
  rcases hT with rfl | rfl <;> exact h.tm t (by decide) (by decide) (by decide) (by decide)
set_option maxRecDepth 20000 in
theorem rreplay_s {D : Dv} (hD : D.Ok) {k : Nat} (hsm : D.calls ≤ k) (hk : k ≤ 900000) (B b : Nat) (gen : Int) (w : World) (h : RDevAt w B b D) :
    Ret Try.prog 14 [.pointer (some ⟨b, 0, none⟩), .int .i64 gen] w fun v w' => Found w' w.heap.size (replayD D gen).1 (replayD D gen).2 v ∧ RDevAt w' B b (replayed D gen) ∧ Tm w w' B rty := by
  have hcap := hD.cap
  have hnowL := hD.now
  have hno : readsD D gen = 0 → replayed D gen = D := fun e => by unfold replayed; rw [e]; rfl
  have yes2 : badG gen → (Found w w.heap.size (replayD D gen).1 (replayD D gen).2 (.tuple #[.slice none 0 0, .int .i64 0, .int .i64 ((210 : Nat) : Int)]) ∧ RDevAt w B b (replayed D gen) ∧ Tm w w B rty) := fun hb => by
    have e1 : replayD D gen = (([], 0), 210) := by unfold replayD; rw [if_pos hb]
    have e2 : readsD D gen = 0 := by unfold readsD; rw [if_pos hb]
    rw [e1, hno e2]
    exact ⟨found_nil _ _ 210, h, Tm.refl _ _ _⟩
  obtain ⟨vS, vN, vP, vK, hv⟩ := id h
  refine Ret.enter Try.func14 rfl Try.ntmps14 (by kernel_rfl) rfl ?_
  refine KW.seq (KW.region ?_)
  refine OW.val rfl rfl (EX.assign rfl) ?_
  refine OW.val rfl rfl (EX.assign rfl) ?_
  refine OW.val rfl rfl (EX.assign rfl) ?_
  refine OW.nil ?_
  refine KW.seq (KW.seq (KW.region ?_))
  refine OW.val rfl rfl (EX.move rfl) ?_
  refine OW.val rfl rfl (by first | exact EX.eqlP1 Try.underlying36 rfl rfl | exact EX.eqlP0 Try.underlying36 rfl rfl) ?_
  refine OW.nil ?_
  refine KW.condF rfl (KW.skip (KW.seq (KW.seq ?_)))
  refine KW.region ?_
  refine OW.val rfl rfl (EX.move rfl) ?_
  refine OW.val rfl rfl (by first | exact EX.lssN (b := 0) rfl rfl | exact EX.lssZ rfl rfl) ?_
  refine OW.val rfl rfl (EX.move rfl) ?_
  refine OW.splitD 24 rfl (fun g1 => ?_) (fun g1 => ?_)
  · refine OW.pass rfl rfl ?_
    refine OW.pass rfl rfl ?_
    refine OW.val rfl rfl (EX.pickT rfl rfl) ?_
    refine OW.nil ?_
    refine KW.condT rfl (KW.seq (KW.region ?_))
    refine OW.val rfl rfl (EX.assign rfl) ?_
    refine OW.val rfl rfl (EX.assign rfl) ?_
    refine OW.val rfl rfl (EX.assign rfl) ?_
    refine OW.nil ?_
    refine KW.ret (ret3 rfl rfl rfl rfl ?_)
    exact yes2 (.inl g1)
  · refine OW.val rfl rfl (EX.move rfl) ?_
    refine OW.val rfl rfl (by first | exact EX.gtrN (b := 4611686018427387904) rfl rfl | exact EX.gtrZ rfl rfl) ?_
    refine OW.val rfl rfl (EX.pickF rfl rfl) ?_
    refine OW.nil ?_
    refine KW.condD rfl (fun g2 => ?_) (fun g2 => ?_)
    · refine KW.seq (KW.region ?_)
      refine OW.val rfl rfl (EX.assign rfl) ?_
      refine OW.val rfl rfl (EX.assign rfl) ?_
      refine OW.val rfl rfl (EX.assign rfl) ?_
      refine OW.nil ?_
      refine KW.ret (ret3 rfl rfl rfl rfl ?_)
      exact yes2 (.inr g2)
    · have hb : ¬ badG gen := by unfold badG; omega
      refine KW.skip (KW.seq (KW.seq (KW.region ?_)))
      refine OW.val rfl rfl (EX.move rfl) ?_
      refine OW.val rfl rfl (EX.nilCheck rfl) ?_
      refine OW.val rfl rfl (EX.fieldAddr (off := 6) Try.underlying64 rfl rfl ti4 rfl rfl) ?_
      refine OW.val rfl rfl (EX.load Try.underlying4 rfl rfl (hv.cells.cell_of rfl)) ?_
      refine OW.nil ?_
      refine KW.cond rfl (fun hd => ?_) (fun hd => ?_)
      · have e1 : replayD D gen = (([], 0), 190) := by unfold replayD; rw [if_neg hb, hd]; rfl
        have e2 : readsD D gen = 0 := by unfold readsD; rw [if_neg hb, hd]; rfl
        refine KW.seq (KW.region ?_)
        refine OW.val rfl rfl (EX.assign rfl) ?_
        refine OW.val rfl rfl (EX.assign rfl) ?_
        refine OW.val rfl rfl (EX.assign rfl) ?_
        refine OW.nil ?_
        refine KW.ret (ret3 rfl rfl rfl rfl ?_)
        rw [e1, hno e2]
        exact ⟨found_nil _ _ 190, h, Tm.refl _ _ _⟩
      · have e1 : replayD D gen = (rep gen (fun i => sec D.now (10 + i)) (logN D.now) 21 0 [] [] 0, 0) := by unfold replayD; rw [if_neg hb, hd]; rfl
        have e2 : readsD D gen = repN gen (fun i => sec D.now (10 + i)) (logN D.now) 21 0 [] := by unfold readsD; rw [if_neg hb, hd]; rfl
        generalize hM : logN D.now = m at e1 e2
        have hM2 := fun i => logN_lt D.now i
        rw [hM] at hM2
        have hm20 : m ≤ 20 := by rw [← hM]; unfold logN; omega
        generalize hR : (fun i => sec D.now (10 + i)) = rd at e1 e2
        have hrd : ∀ i, sec D.now (10 + i) = rd i := fun i => by rw [← hR]
        have fin : ∀ (wr : World) (out : List (List Nt)) (bh j : Nat) (vt : Value) (vs : List Value), rep gen rd m 21 0 [] [] 0 = (out, bh) → repN gen rd m 21 0 [] = j → RDevAt wr B b { D with calls := D.calls + j } → Own wr w.heap.size 48 1 vt out.length vs → TxO wr w.heap.size vs out → Tm w wr B rty → (Found wr w.heap.size (replayD D gen).1 (replayD D gen).2 (.tuple #[vt, .int .i64 (bh : Int), .int .i64 0]) ∧ RDevAt wr B b (replayed D gen) ∧ Tm w wr B rty) := by
          intro wr out bh j vt vs h1 h2 h3 h4 h5 h6
          rw [e1, h1]
          refine ⟨⟨vt, vs, rfl, h4, h5⟩, ?_, h6⟩
          have e : replayed D gen = { D with calls := D.calls + j } := by unfold replayed; rw [e2, h2]
          rw [e]
          exact h3
        refine KW.skip (KW.seq (KW.region ?_))
        refine OW.val rfl rfl (EX.assign rfl) ?_
        refine OW.nil ?_
        refine KW.seq (KW.region ?_)
        refine OW.val rfl rfl (EX.assign rfl) ?_
        refine OW.nil ?_
        refine KW.seq (KW.region ?_)
        refine OW.val rfl rfl (EX.assign rfl) ?_
        refine OW.nil ?_
        refine KW.seq (KW.seq (KW.region ?_))
        refine OW.val rfl rfl (EX.assign rfl) ?_
        refine OW.nil ?_
        refine KW.block ?_
        refine KW.loop7 (fun (i : Nat) (op : (List Nt)) (out : Txl) (bh : Nat) (vo : Value) (vt : Value) (wr : World) => i ≤ 20 ∧ bh ≤ 20 ∧ op.length ≤ i ∧ out.length ≤ i ∧ rep gen rd m 21 0 [] [] 0 = rep gen rd m (21 - i) i op out bh ∧ repN gen rd m 21 0 [] = repN gen rd m (21 - i) i op + i ∧ RDevAt wr B b { D with calls := D.calls + i } ∧ Own wr w.heap.size 69 6 vo op.length (ntsV op) ∧ Tm w wr B rty ∧ ∃ vs, Own wr w.heap.size 48 1 vt out.length vs ∧ TxO wr w.heap.size vs out ∧ (∀ k, vo.ownBlock = some k → ∀ v ∈ vs, v.ownBlock ≠ some k)) (fun (i : Nat) (op : (List Nt)) (out : Txl) (bh : Nat) (vo : Value) (vt : Value) (wr : World) => [(0, .pointer (some ⟨b, 0, none⟩)), (1, .int .i64 (gen : Int)), (7, vt), (8, vo), (9, .int .i64 ((bh : Nat) : Int)), (10, .int .i64 ((i : Nat) : Int))]) (fun (i : Nat) (op : (List Nt)) (out : Txl) (bh : Nat) (vo : Value) (vt : Value) (wr : World) => wr) (fun (i : Nat) (op : (List Nt)) (out : Txl) (bh : Nat) (vo : Value) (vt : Value) (wr : World) => 21 - i) (0) ([]) ([]) (0) (.slice none 0 0) (.slice none 0 0) (w) ⟨rfl, rfl, rfl, rfl, rfl, rfl, trivial⟩ rfl ?_ ?_
        · exact ⟨by omega, by omega, by simp, by simp, rfl, rfl, h, Own.nil _ _ _ _, Tm.refl _ _ _, [], Own.nil _ _ _ _, trivial, fun k hk => by simp [Value.ownBlock] at hk⟩
        · rintro i op out bh vo vt wr ⟨hi, hbh, hol, hul, hrp, hrn, hdev, hown, htm, vs, hout, htx, hap⟩
          have hE : Dv.Ok { D with calls := D.calls + i } := ⟨hD.cap, hD.kept, hD.now, hD.keptM, hD.nowM, hD.pend⟩
          obtain ⟨f, hf⟩ : ∃ f, 21 - i = f + 1 := ⟨20 - i, by omega⟩
          have hf2 : f = 21 - (i + 1) := by omega
          rw [hf] at hrp hrn
          have over : ¬ i < m → (rep gen rd m 21 0 [] [] 0 = (out, bh) ∧ repN gen rd m 21 0 [] = i) := fun q => by
            obtain ⟨q1, q2⟩ := rep_0 (gen := gen) (rd := rd) (f := f) (op := op) (out := out) (b := bh) q
            rw [hrp, hrn, q1, q2]
            exact ⟨rfl, by omega⟩
          obtain ⟨uS, uN, uP, uK, hvr⟩ := id hdev
          obtain ⟨An, cn, rfl, hcn, hsln⟩ := hvr.now.slice
          refine KW.seq (KW.seq ?_)
          refine KW.region ?_
          refine OW.val rfl rfl (EX.move rfl) ?_
          refine OW.val rfl rfl (by first | exact EX.lssN (b := 20) rfl rfl | exact EX.lssZ rfl rfl) ?_
          refine OW.val rfl rfl (EX.move rfl) ?_
          refine OW.splitD 34 rfl (fun c1 => ?_) (fun c1 => ?_)
          · refine OW.val rfl rfl (EX.move rfl) ?_
            refine OW.val rfl rfl (by first | exact EX.addN (a := 10) (m := 9223372036854775807) rfl rfl rfl (by omega) | exact EX.addZ (m := 9223372036854775807) rfl rfl rfl rfl (by omega)) ?_
            refine OW.val rfl rfl (EX.move rfl) ?_
            refine OW.val rfl rfl (EX.nilCheck rfl) ?_
            refine OW.val rfl rfl (EX.fieldAddr (off := 2) Try.underlying64 rfl rfl ti61 rfl rfl) ?_
            refine OW.val rfl rfl (EX.load Try.underlying61 rfl rfl (hvr.cells.cell_of rfl)) ?_
            refine OW.val rfl rfl (EX.lenA Try.underlying61 rfl) ?_
            refine OW.val rfl rfl (by first | exact EX.lssN rfl rfl | exact EX.lssZ rfl rfl) ?_
            refine OW.val rfl rfl (EX.pickT rfl rfl) ?_
            refine OW.nil ?_
            refine KW.condD rfl (fun c2 => ?_) (fun c2 => ?_)
            · have c2' : 10 + i < D.now.length / 512 := c2
              have him : i < m := (hM2 i).2 ⟨by omega, c2'⟩
              have er : Dv.read { D with calls := D.calls + i } ((10 + i : Nat) : Int) = ({ D with calls := D.calls + (i + 1) }, rd i, 0) := by
                unfold Dv.read
                rw [if_neg (by rw [hd]; decide), if_neg (by show ¬ (_ ∨ ((D.now.length / 512 : Nat) : Int) ≤ _); omega), ← hrd]
                rfl
              have cr := rread_d hdev hE (by show D.calls + i ≤ _; omega) ((10 + i : Nat) : Int) (by omega) (by omega)
              rw [er] at cr
              have hrl : (rd i).length ≤ 512 := by rw [← hrd]; exact sec_le _ _
              refine KW.skip (KW.seq (KW.block (KW.seq (KW.region ?_))))
              refine OW.val rfl rfl (EX.move rfl) ?_
              refine OW.val rfl rfl (EX.move rfl) ?_
              refine OW.val rfl rfl (by first | exact EX.addN (a := 10) (m := 9223372036854775807) rfl rfl rfl (by omega) | exact EX.addZ (m := 9223372036854775807) rfl rfl rfl rfl (by omega)) ?_
              refine OW.call rfl rfl rfl (cr) ?_
              rintro _ w5 ⟨rfl, hdev5, htm5⟩
              refine OW.val rfl rfl (EX.move rfl) ?_
              refine OW.val rfl rfl (EX.extract rfl rfl) ?_
              refine OW.val rfl rfl (EX.extract rfl rfl) ?_
              refine OW.val rfl rfl (EX.assign rfl) ?_
              refine OW.val rfl rfl (EX.assign rfl) ?_
              refine OW.nil ?_
              refine KW.seq (KW.region ?_)
              refine OW.val rfl rfl (EX.move rfl) ?_
              have hown5 := htm5.own hown rfl
              have hout5 := htm5.own hout rfl
              have htx5 := htx.tm htm5 rfl
              have tm5 := htm.trans htm5
              have z5 := tm5.size
              have cd := rdecode_s (rd i) w5
              have hdb := dec_bounds (rd i) hrl
              rcases hde : decodeR (rd i) with ⟨x, ee⟩
              rw [hde] at cd hdb
              have stop : (ee ≠ 0 ∨ x.gen ≠ gen ∨ x.index ≠ i) → (rep gen rd m 21 0 [] [] 0 = (out, bh) ∧ repN gen rd m 21 0 [] = i + 1) := fun q => by
                obtain ⟨q1, q2⟩ := rep_1 (f := f) (op := op) (out := out) (b := bh) him hde q
                rw [hrp, hrn, q1, q2]
                exact ⟨rfl, by omega⟩
              refine OW.call rfl rfl rfl (cd) ?_
              rintro _ w6 ⟨rfl, hx6⟩
              refine OW.val rfl rfl (EX.move rfl) ?_
              refine OW.val rfl rfl (EX.extract rfl rfl) ?_
              refine OW.val rfl rfl (EX.extract rfl rfl) ?_
              have hb1 : x.kind ≤ 255 := hdb.1
              have hb2 : x.data.length ≤ 512 := hdb.2
              refine OW.allocB (l := [.int .u8 0, .int .i64 0, .int .i64 0, str []]) rfl rfl ti89 rfl ?_
              rintro xb w7 hge7 hx7b hx7
              refine OW.storeS rfl ti89 rfl rfl rfl (by first | rfl | (simp only [List.all_cons, List.all_nil, Bool.and_true, Bool.true_and, Bool.and_eq_true, Value.oneCell']; repeat (first | assumption | exact Own.one (by assumption) | constructor))) (hx7b) (Nat.le_refl _) ?_
              rintro w8 hb8 hm8
              refine OW.val rfl rfl (EX.assign rfl) ?_
              refine OW.nil ?_
              refine KW.seq (KW.seq ?_)
              replace hb8 : Bk w8 xb 89 x.cells := hb8
              have x8 : Ext w5 w8 := below_mo (hx6.trans hx7) hm8 (hx6.trans hx7).size (fun k hk => by simp at hk; have := hx6.size; omega)
              have hown8 := hown5.ext x8
              have hout8 := hout5.ext x8
              have htx8 := htx5.ext x8
              have hdev8 := hdev5.ext x8
              have tm8 := tm5.trans (Tm.of_ext x8 B rty)
              have z8 := tm8.size
              refine KW.region ?_
              refine OW.val rfl rfl (EX.move rfl) ?_
              refine OW.val rfl rfl (by first | exact EX.neqN (b := 0) rfl rfl | exact EX.neqZ rfl rfl) ?_
              refine OW.val rfl rfl (EX.move rfl) ?_
              refine OW.splitD 60 rfl (fun s1 => ?_) (fun s1 => ?_)
              · refine OW.pass rfl rfl ?_
                refine OW.pass rfl rfl ?_
                refine OW.pass rfl rfl ?_
                refine OW.pass rfl rfl ?_
                refine OW.val rfl rfl (EX.pickT rfl rfl) ?_
                refine OW.val rfl rfl (EX.move rfl) ?_
                refine OW.pass rfl rfl ?_
                refine OW.pass rfl rfl ?_
                refine OW.pass rfl rfl ?_
                refine OW.pass rfl rfl ?_
                refine OW.val rfl rfl (EX.pickT rfl rfl) ?_
                refine OW.nil ?_
                refine KW.condT rfl (KW.exit rfl (KW.seq (KW.region ?_)))
                refine OW.val rfl rfl (EX.move rfl) ?_
                refine OW.val rfl rfl (EX.move rfl) ?_
                refine OW.val rfl rfl (EX.assign rfl) ?_
                refine OW.val rfl rfl (EX.assign rfl) ?_
                refine OW.val rfl rfl (EX.assign rfl) ?_
                refine OW.nil ?_
                refine KW.ret (ret3 rfl rfl rfl rfl ?_)
                obtain ⟨q1, q2⟩ := stop (.inl (by omega))
                exact fin w8 out bh (i + 1) vt vs q1 q2 hdev8 hout8 htx8 tm8
              · refine OW.val rfl rfl (EX.fieldAddr (off := 1) Try.underlying89 rfl rfl ti3 rfl rfl) ?_
                refine OW.val rfl rfl (EX.load Try.underlying3 rfl rfl (hb8.cell_of rfl)) ?_
                refine OW.val rfl rfl (EX.move rfl) ?_
                refine OW.val rfl rfl (by first | exact EX.neqN rfl rfl | exact EX.neqZ rfl rfl) ?_
                refine OW.val rfl rfl (EX.pickF rfl rfl) ?_
                refine OW.val rfl rfl (EX.move rfl) ?_
                refine OW.splitD 66 rfl (fun s2 => ?_) (fun s2 => ?_)
                · refine OW.pass rfl rfl ?_
                  refine OW.pass rfl rfl ?_
                  refine OW.pass rfl rfl ?_
                  refine OW.pass rfl rfl ?_
                  refine OW.val rfl rfl (EX.pickT rfl rfl) ?_
                  refine OW.nil ?_
                  refine KW.condT rfl (KW.exit rfl (KW.seq (KW.region ?_)))
                  refine OW.val rfl rfl (EX.move rfl) ?_
                  refine OW.val rfl rfl (EX.move rfl) ?_
                  refine OW.val rfl rfl (EX.assign rfl) ?_
                  refine OW.val rfl rfl (EX.assign rfl) ?_
                  refine OW.val rfl rfl (EX.assign rfl) ?_
                  refine OW.nil ?_
                  refine KW.ret (ret3 rfl rfl rfl rfl ?_)
                  obtain ⟨q1, q2⟩ := stop (.inr (.inl s2))
                  exact fin w8 out bh (i + 1) vt vs q1 q2 hdev8 hout8 htx8 tm8
                · refine OW.val rfl rfl (EX.fieldAddr (off := 2) Try.underlying89 rfl rfl ti3 rfl rfl) ?_
                  refine OW.val rfl rfl (EX.load Try.underlying3 rfl rfl (hb8.cell_of rfl)) ?_
                  refine OW.val rfl rfl (EX.move rfl) ?_
                  refine OW.val rfl rfl (by first | exact EX.neqN rfl rfl | exact EX.neqZ rfl rfl) ?_
                  refine OW.val rfl rfl (EX.pickF rfl rfl) ?_
                  refine OW.nil ?_
                  refine KW.condD rfl (fun s3 => ?_) (fun s3 => ?_)
                  · refine KW.exit rfl (KW.seq (KW.region ?_))
                    refine OW.val rfl rfl (EX.move rfl) ?_
                    refine OW.val rfl rfl (EX.move rfl) ?_
                    refine OW.val rfl rfl (EX.assign rfl) ?_
                    refine OW.val rfl rfl (EX.assign rfl) ?_
                    refine OW.val rfl rfl (EX.assign rfl) ?_
                    refine OW.nil ?_
                    refine KW.ret (ret3 rfl rfl rfl rfl ?_)
                    obtain ⟨q1, q2⟩ := stop (.inr (.inr s3))
                    exact fin w8 out bh (i + 1) vt vs q1 q2 hdev8 hout8 htx8 tm8
                  · have go_ : ¬ (ee ≠ 0 ∨ x.gen ≠ gen ∨ x.index ≠ i) := by omega
                    refine KW.skip (KW.seq (KW.seq (KW.region ?_)))
                    refine OW.val rfl rfl (EX.fieldAddr (off := 0) Try.underlying89 rfl rfl ti5 rfl rfl) ?_
                    refine OW.val rfl rfl (EX.load Try.underlying5 rfl rfl (hb8.cell_of rfl)) ?_
                    refine OW.val rfl rfl (by first | exact EX.eqlN (b := 3) rfl rfl | exact EX.eqlZ rfl rfl) ?_
                    refine OW.nil ?_
                    refine KW.condD rfl (fun k3 => ?_) (fun k3 => ?_)
                    · have k3' : x.kind = 3 := by omega
                      have stop2 : (op = [] ∨ x.data ≠ [UInt8.ofNat op.length]) → (rep gen rd m 21 0 [] [] 0 = (out, bh) ∧ repN gen rd m 21 0 [] = i + 1) := fun q => by
                        obtain ⟨q1, q2⟩ := rep_2 (f := f) (op := op) (out := out) (b := bh) him hde go_ k3' q
                        rw [hrp, hrn, q1, q2]
                        exact ⟨rfl, by omega⟩
                      obtain ⟨Ao, co, rfl, _, _⟩ := hown8.slice
                      have hof : (UInt8.ofNat op.length).toNat = op.length := by simp; omega
                      refine KW.seq (KW.seq ?_)
                      refine KW.region ?_
                      refine OW.val rfl rfl (EX.move rfl) ?_
                      refine OW.val rfl rfl (EX.lenA Try.underlying48 rfl) ?_
                      refine OW.val rfl rfl (by first | exact EX.eqlN (b := 0) rfl rfl | exact EX.eqlZ rfl rfl) ?_
                      refine OW.val rfl rfl (EX.move rfl) ?_
                      refine OW.splitD 78 rfl (fun t1 => ?_) (fun t1 => ?_)
                      · refine OW.pass rfl rfl ?_
                        refine OW.pass rfl rfl ?_
                        refine OW.pass rfl rfl ?_
                        refine OW.pass rfl rfl ?_
                        refine OW.val rfl rfl (EX.pickT rfl rfl) ?_
                        refine OW.val rfl rfl (EX.move rfl) ?_
                        refine OW.pass rfl rfl ?_
                        refine OW.pass rfl rfl ?_
                        refine OW.pass rfl rfl ?_
                        refine OW.pass rfl rfl ?_
                        refine OW.pass rfl rfl ?_
                        refine OW.pass rfl rfl ?_
                        refine OW.pass rfl rfl ?_
                        refine OW.val rfl rfl (EX.pickT rfl rfl) ?_
                        refine OW.nil ?_
                        refine KW.condT rfl (KW.exit rfl (KW.seq (KW.region ?_)))
                        refine OW.val rfl rfl (EX.move rfl) ?_
                        refine OW.val rfl rfl (EX.move rfl) ?_
                        refine OW.val rfl rfl (EX.assign rfl) ?_
                        refine OW.val rfl rfl (EX.assign rfl) ?_
                        refine OW.val rfl rfl (EX.assign rfl) ?_
                        refine OW.nil ?_
                        refine KW.ret (ret3 rfl rfl rfl rfl ?_)
                        obtain ⟨q1, q2⟩ := stop2 (.inl (List.eq_nil_of_length_eq_zero (by omega)))
                        exact fin w8 out bh (i + 1) vt vs q1 q2 hdev8 hout8 htx8 tm8
                      · refine OW.val rfl rfl (EX.fieldAddr (off := 3) Try.underlying89 rfl rfl ti9 rfl rfl) ?_
                        refine OW.val rfl rfl (EX.load Try.underlying9 rfl rfl (hb8.cell_of rfl)) ?_
                        refine OW.val rfl rfl (EX.lenS Try.underlying9 rfl) ?_
                        refine OW.val rfl rfl (by first | exact EX.neqN (b := 1) rfl rfl | exact EX.neqZ rfl rfl) ?_
                        refine OW.val rfl rfl (EX.pickF rfl rfl) ?_
                        refine OW.val rfl rfl (EX.move rfl) ?_
                        refine OW.splitD 84 rfl (fun t2 => ?_) (fun t2 => ?_)
                        · refine OW.pass rfl rfl ?_
                          refine OW.pass rfl rfl ?_
                          refine OW.pass rfl rfl ?_
                          refine OW.pass rfl rfl ?_
                          refine OW.pass rfl rfl ?_
                          refine OW.pass rfl rfl ?_
                          refine OW.pass rfl rfl ?_
                          refine OW.val rfl rfl (EX.pickT rfl rfl) ?_
                          refine OW.nil ?_
                          refine KW.condT rfl (KW.exit rfl (KW.seq (KW.region ?_)))
                          refine OW.val rfl rfl (EX.move rfl) ?_
                          refine OW.val rfl rfl (EX.move rfl) ?_
                          refine OW.val rfl rfl (EX.assign rfl) ?_
                          refine OW.val rfl rfl (EX.assign rfl) ?_
                          refine OW.val rfl rfl (EX.assign rfl) ?_
                          refine OW.nil ?_
                          refine KW.ret (ret3 rfl rfl rfl rfl ?_)
                          obtain ⟨q1, q2⟩ := stop2 (.inr (fun q => t2 (by rw [q]; rfl)))
                          exact fin w8 out bh (i + 1) vt vs q1 q2 hdev8 hout8 htx8 tm8
                        · obtain ⟨c, hc⟩ := List.length_eq_one_iff.1 (show x.data.length = 1 by omega)
                          have hb8' : Bk w8 xb 89 [.int .u8 (x.kind : Int), .int .i64 x.gen, .int .i64 x.index, str [c]] := by rw [← hc]; exact hb8
                          have hcl : 0 < ([c] : List UInt8).length := Nat.zero_lt_succ _
                          have hct : (([c] : List UInt8)[0]).toNat < 256 := UInt8.toNat_lt _
                          refine OW.val rfl rfl (EX.fieldAddr (off := 3) Try.underlying89 rfl rfl ti9 rfl rfl) ?_
                          refine OW.val rfl rfl (EX.load Try.underlying9 rfl rfl (hb8'.cell_of rfl)) ?_
                          refine OW.val rfl rfl (EX.indexS (i := 0) Try.underlying9 rfl rfl (List.getElem?_eq_getElem (by omega))) ?_
                          refine OW.val rfl rfl (by first | exact EX.convN (m := 9223372036854775807) Try.underlying5 Try.underlying3 rfl rfl (by omega) | exact EX.convZ Try.underlying5 Try.underlying3 rfl) ?_
                          refine OW.val rfl rfl (EX.move rfl) ?_
                          refine OW.val rfl rfl (EX.lenA Try.underlying48 rfl) ?_
                          refine OW.val rfl rfl (by first | exact EX.neqN rfl rfl | exact EX.neqZ rfl rfl) ?_
                          refine OW.val rfl rfl (EX.pickF rfl rfl) ?_
                          refine OW.nil ?_
                          refine KW.condD rfl (fun t3 => ?_) (fun t3 => ?_)
                          · refine KW.exit rfl (KW.seq (KW.region ?_))
                            refine OW.val rfl rfl (EX.move rfl) ?_
                            refine OW.val rfl rfl (EX.move rfl) ?_
                            refine OW.val rfl rfl (EX.assign rfl) ?_
                            refine OW.val rfl rfl (EX.assign rfl) ?_
                            refine OW.val rfl rfl (EX.assign rfl) ?_
                            refine OW.nil ?_
                            refine KW.ret (ret3 rfl rfl rfl rfl ?_)
                            obtain ⟨q1, q2⟩ := stop2 (.inr (fun q => by rw [hc] at q; cases q; exact t3 (show (UInt8.ofNat op.length).toNat = _ from hof)))
                            exact fin w8 out bh (i + 1) vt vs q1 q2 hdev8 hout8 htx8 tm8
                          · have hcn : (([c] : List UInt8)[0]).toNat = op.length := by omega
                            have hcn2 : c.toNat = op.length := hcn
                            have hcc : c = UInt8.ofNat op.length := UInt8.toNat_inj.1 (by omega)
                            have hno : ¬ (op = [] ∨ x.data ≠ [UInt8.ofNat op.length]) := by
                              rintro (q | q)
                              · rw [q] at t1; exact t1 rfl
                              · exact q (by rw [hc, hcc])
                            obtain ⟨r1, r2⟩ := rep_3 (f := f) (op := op) (out := out) (b := bh) him hde go_ k3' hno
                            refine KW.skip (KW.seq (KW.region ?_))
                            refine OW.val rfl rfl (EX.move rfl) ?_
                            refine OW.val rfl rfl (EX.move rfl) ?_
                            refine OW.pushB (w.heap.size) rfl rfl (fun _ => rfl) rfl Try.underlying22 ti48 rfl rfl (fun _ => rfl) (by first | rfl | assumption | exact Own.one (by assumption)) (z8) (hout8) (by simp only [maxLen]; omega) (by omega) ?_
                            rintro _ v10 w10 hout10 hm10 hbl10
                            refine OW.val rfl rfl (EX.assign rfl) ?_
                            refine OW.nil ?_
                            refine KW.seq (KW.region ?_)
                            refine OW.val rfl rfl (EX.assign rfl) ?_
                            refine OW.nil ?_
                            refine KW.seq (KW.region ?_)
                            refine OW.val rfl rfl (EX.move rfl) ?_
                            refine OW.val rfl rfl (by first | exact EX.addN (b := 1) (m := 9223372036854775807) rfl rfl rfl (by omega) | exact EX.addZ (m := 9223372036854775807) rfl rfl rfl rfl (by omega)) ?_
                            refine OW.val rfl rfl (EX.assign rfl) ?_
                            refine OW.nil ?_
                            refine KW.exit rfl (KW.region ?_)
                            refine OW.val rfl rfl (EX.move rfl) ?_
                            refine OW.val rfl rfl (by first | exact EX.addN (b := 1) (m := 9223372036854775807) rfl rfl rfl (by omega) | exact EX.addZ (m := 9223372036854775807) rfl rfl rfl rfl (by omega)) ?_
                            refine OW.val rfl rfl (EX.assign rfl) ?_
                            refine OW.nil ?_
                            have t10 := Tm.ownMo hout8 hm10
                            have hown10 := t10.own hown8 (by decide)
                            have htx10 := htx8.tm t10 (by decide)
                            have hdev10 := rtm_dev hdev8 t10 (.inr rfl)
                            have tm10 := tm8.fresh hm10 (fun k hk => (hout8.lt k (Option.mem_toList.1 hk)).1)
                            refine KW.back7 (i + 1) ([]) (out ++ [op]) (i + 1) (.slice none 0 0) (v10) (w10) ⟨rfl, rfl, rfl, rfl, rfl, rfl, trivial⟩ rfl ?_ (by omega)
                            refine ⟨by omega, by omega, by simp, by simp; omega, ?_, ?_, hdev10, Own.nil _ _ _ _, tm10, vs ++ [_], ?_, htx10.snoc hown10, fun k hk => by simp [Value.ownBlock] at hk⟩
                            · rw [hrp, r1, hf2]
                            · rw [hrn, r2, hf2]; omega
                            · rw [List.length_append, List.length_singleton]; exact hout10
                    · have k3' : ¬ x.kind = 3 := by omega
                      have stop4 : noteOf x = none → (rep gen rd m 21 0 [] [] 0 = (out, bh) ∧ repN gen rd m 21 0 [] = i + 1) := fun q => by
                        obtain ⟨r1, r2⟩ := rep_4 (f := f) (op := op) (out := out) (b := bh) him hde go_ k3' q
                        rw [hrp, hrn, r1, r2]
                        exact ⟨rfl, by omega⟩
                      refine KW.skip (KW.seq (KW.region ?_))
                      refine OW.val rfl rfl (EX.fieldAddr (off := 0) Try.underlying89 rfl rfl ti5 rfl rfl) ?_
                      refine OW.val rfl rfl (EX.load Try.underlying5 rfl rfl (hb8.cell_of rfl)) ?_
                      refine OW.val rfl rfl (by first | exact EX.convN (m := 9223372036854775807) Try.underlying5 Try.underlying3 rfl rfl (by omega) | exact EX.convZ Try.underlying5 Try.underlying3 rfl) ?_
                      refine OW.val rfl rfl (EX.buildS (pl := [(0, 1), (1, 5)]) (ks := [0]) (is := [0]) (zs := [.int .i64 0, str [], .int .i64 0, .int .i64 0, .int .i64 0, .int .u32 0]) Try.underlying69 ti69 (by kernel_rfl) rfl rfl rfl (by first | rfl | (simp only [List.all_cons, List.all_nil, Bool.and_true, Bool.true_and, Bool.and_eq_true, Value.oneCell']; repeat (first | assumption | exact Own.one (by assumption) | constructor))) (by simp only [setAll, List.set_cons_zero, List.set_cons_succ]; rfl)) ?_
                      refine OW.allocB (l := [.int .i64 0, str [], .int .i64 0, .int .i64 0, .int .i64 0, .int .u32 0]) rfl rfl ti69 rfl ?_
                      rintro nb w9 hge9 hn9 hx9
                      refine OW.storeS rfl ti69 rfl rfl rfl (by first | rfl | (simp only [List.all_cons, List.all_nil, Bool.and_true, Bool.true_and, Bool.and_eq_true, Value.oneCell']; repeat (first | assumption | exact Own.one (by assumption) | constructor))) (hn9) (Nat.le_refl _) ?_
                      rintro w10 hn10 hm10
                      refine OW.nil ?_
                      refine KW.seq (KW.seq ?_)
                      replace hn10 : Bk w10 nb 69 (Nt.cells ⟨(x.kind : Int), bare []⟩) := hn10
                      have x10 : Ext w8 w10 := below_mo hx9 hm10 hx9.size (fun k hk => by simp at hk; omega)
                      have hb10 := hb8.ext x10
                      -- the note is there, whatever it is
                      refine KW.cutd2 (fun (n : Nt) (wq : World) => Ext w8 wq ∧ Bk wq nb 69 n.cells ∧ n.mem.Ok ∧ (noteOf x = if mayN n then some n else none)) (fun (n : Nt) (wq : World) => [(0, .pointer (some ⟨b, 0, none⟩)), (1, .int .i64 (gen : Int)), (7, vt), (8, vo), (9, .int .i64 ((bh : Nat) : Int)), (10, .int .i64 ((i : Nat) : Int)), (15, .pointer (some ⟨nb, 0, none⟩))]) (fun (n : Nt) (wq : World) => wq) ?_ ?_
                      · refine KW.region ?_
                        refine OW.val rfl rfl (EX.fieldAddr (off := 0) Try.underlying89 rfl rfl ti5 rfl rfl) ?_
                        refine OW.val rfl rfl (EX.load Try.underlying5 rfl rfl (hb10.cell_of rfl)) ?_
                        refine OW.val rfl rfl (by first | exact EX.eqlN (b := 1) rfl rfl | exact EX.eqlZ rfl rfl) ?_
                        refine OW.nil ?_
                        refine KW.condD rfl (fun k1 => ?_) (fun k1 => ?_)
                        · have k1' : x.kind = 1 := by omega
                          have hnx : noteOf x = if (memL (x.data.length + 1) x.data []).2 = 0 ∧ (memL (x.data.length + 1) x.data []).1.length = 1 then some ⟨1, (memL (x.data.length + 1) x.data []).1.getD 0 (bare [])⟩ else none := by
                            obtain ⟨xk, xg, xi, xd⟩ := x
                            cases k1'
                            exact noteOf1
                          have hfm := memL_fine (x.data.length + 1) x.data [] (by simp)
                          refine KW.seq (KW.region ?_)
                          refine OW.val rfl rfl (EX.fieldAddr (off := 3) Try.underlying89 rfl rfl ti9 rfl rfl) ?_
                          refine OW.val rfl rfl (EX.load Try.underlying9 rfl rfl (hb10.cell_of rfl)) ?_
                          refine OW.call rfl rfl rfl (rmembers_s x.data (by omega) w10) ?_
                          rintro _ w11 ⟨ml, rfl, hml, hx11⟩
                          obtain ⟨Am, cm, rfl, _, hsm2⟩ := hml.slice
                          refine OW.val rfl rfl (EX.move rfl) ?_
                          refine OW.val rfl rfl (EX.extract rfl rfl) ?_
                          refine OW.val rfl rfl (EX.extract rfl rfl) ?_
                          refine OW.val rfl rfl (EX.assign rfl) ?_
                          refine OW.val rfl rfl (EX.assign rfl) ?_
                          refine OW.nil ?_
                          refine KW.seq (KW.seq ?_)
                          have x11 := Ext.trans x10 hx11
                          have hn11 := hn10.ext hx11
                          generalize (memL (x.data.length + 1) x.data []).2 = er at hnx
                          generalize (memL (x.data.length + 1) x.data []).1 = ms at hnx hfm hml hsm2
                          have out11 := hout8.ext x11
                          have tx11 := htx8.ext x11
                          have dev11 := hdev8.ext x11
                          have tm11 := tm8.trans (Tm.of_ext x11 B rty)
                          refine KW.region ?_
                          refine OW.val rfl rfl (EX.move rfl) ?_
                          refine OW.val rfl rfl (by first | exact EX.neqN (b := 0) rfl rfl | exact EX.neqZ rfl rfl) ?_
                          refine OW.val rfl rfl (EX.move rfl) ?_
                          refine OW.splitD 114 rfl (fun e1 => ?_) (fun e1 => ?_)
                          · refine OW.pass rfl rfl ?_
                            refine OW.pass rfl rfl ?_
                            refine OW.pass rfl rfl ?_
                            refine OW.val rfl rfl (EX.pickT rfl rfl) ?_
                            refine OW.nil ?_
                            refine KW.condT rfl (KW.exit rfl (KW.seq (KW.region ?_)))
                            refine OW.val rfl rfl (EX.move rfl) ?_
                            refine OW.val rfl rfl (EX.move rfl) ?_
                            refine OW.val rfl rfl (EX.assign rfl) ?_
                            refine OW.val rfl rfl (EX.assign rfl) ?_
                            refine OW.val rfl rfl (EX.assign rfl) ?_
                            refine OW.nil ?_
                            refine KW.ret (ret3 rfl rfl rfl rfl ?_)
                            obtain ⟨q1, q2⟩ := stop4 (by rw [hnx, if_neg (by omega)])
                            exact fin w11 out bh (i + 1) vt vs q1 q2 dev11 out11 tx11 tm11
                          · refine OW.val rfl rfl (EX.move rfl) ?_
                            refine OW.val rfl rfl (EX.lenA Try.underlying92 rfl) ?_
                            refine OW.val rfl rfl (by first | exact EX.neqN (b := 1) rfl rfl | exact EX.neqZ rfl rfl) ?_
                            refine OW.val rfl rfl (EX.pickF rfl rfl) ?_
                            refine OW.nil ?_
                            refine KW.condD rfl (fun e2 => ?_) (fun e2 => ?_)
                            · refine KW.exit rfl (KW.seq (KW.region ?_))
                              refine OW.val rfl rfl (EX.move rfl) ?_
                              refine OW.val rfl rfl (EX.move rfl) ?_
                              refine OW.val rfl rfl (EX.assign rfl) ?_
                              refine OW.val rfl rfl (EX.assign rfl) ?_
                              refine OW.val rfl rfl (EX.assign rfl) ?_
                              refine OW.nil ?_
                              refine KW.ret (ret3 rfl rfl rfl rfl ?_)
                              obtain ⟨q1, q2⟩ := stop4 (by rw [hnx, if_neg (by omega)])
                              exact fin w11 out bh (i + 1) vt vs q1 q2 dev11 out11 tx11 tm11
                            · obtain ⟨mm, rfl⟩ := List.length_eq_one_iff.1 (show ms.length = 1 by omega)
                              obtain ⟨mm1, mm2⟩ := hfm mm (by simp)
                              obtain ⟨b6, o6, rfl, _, hcell⟩ := Sl.flat (cells := M.cells) hsm2 (c := 5) (fun _ => rfl) (by decide) (Nat.zero_lt_succ _ : 0 < [mm].length)
                              refine KW.skip (KW.region ?_)
                              refine OW.val rfl rfl (EX.move rfl) ?_
                              refine OW.val rfl rfl (EX.indexAddrS (i := 0) Try.underlying92 ti67 rfl rfl (by omega)) ?_
                              refine OW.val rfl rfl (EX.loadA (l := mm.cells) Try.underlying67 rfl ti67 rfl rfl hcell) ?_
                              refine OW.val rfl rfl (EX.fieldAddr (off := 1) Try.underlying69 rfl rfl ti67 rfl rfl) ?_
                              refine OW.storeS rfl ti67 rfl rfl rfl (by first | rfl | (simp only [List.all_cons, List.all_nil, Bool.and_true, Bool.true_and, Bool.and_eq_true, Value.oneCell']; repeat (first | assumption | exact Own.one (by assumption) | constructor))) (hn11) (Nat.le_refl _) ?_
                              rintro w12 hn12 hm12
                              refine OW.nil ?_
                              have ek : ((x.kind : Nat) : Int) = 1 := by omega
                              have hn12' : Bk w12 nb 69 (Nt.cells ⟨1, mm⟩) := by rw [ek] at hn12; exact hn12
                              have x12 : Ext w8 w12 := below_mo x11 hm12 x11.size (fun k hk => by simp at hk; omega)
                              refine KW.meet2 (⟨1, mm⟩) (w12) ⟨rfl, rfl, rfl, rfl, rfl, rfl, rfl, trivial⟩ rfl ?_
                              refine ⟨x12, hn12', ⟨by have := (may_path mm1).1; show mm.path.length ≤ _; omega, mm2⟩, ?_⟩
                              rw [hnx, if_pos ⟨by omega, rfl⟩, if_pos (mayN1 mm1)]
                              rfl
                        · have k1' : x.kind ≠ 1 := by omega
                          refine KW.region ?_
                          refine OW.val rfl rfl (EX.fieldAddr (off := 3) Try.underlying89 rfl rfl ti9 rfl rfl) ?_
                          refine OW.val rfl rfl (EX.load Try.underlying9 rfl rfl (hb10.cell_of rfl)) ?_
                          refine OW.val rfl rfl (EX.fieldAddr (off := 1) Try.underlying69 rfl rfl ti67 rfl rfl) ?_
                          refine OW.val rfl rfl (EX.fieldAddr (off := 0) Try.underlying67 rfl rfl ti9 rfl rfl) ?_
                          refine OW.storeB rfl ti9 rfl rfl (by first | rfl | assumption | exact Own.one (by assumption)) (hn10) (by show (1 : Nat) < 6; decide) ?_
                          rintro w12 hn12 hm12
                          refine OW.nil ?_
                          replace hn12 : Bk w12 nb 69 (Nt.cells ⟨(x.kind : Int), bare x.data⟩) := hn12
                          have x12 : Ext w8 w12 := below_mo x10 hm12 x10.size (fun k hk => by simp at hk; omega)
                          refine KW.meet2 (⟨(x.kind : Int), bare x.data⟩) (w12) ⟨rfl, rfl, rfl, rfl, rfl, rfl, rfl, trivial⟩ rfl ?_
                          refine ⟨x12, hn12, ⟨by show x.data.length ≤ _; omega, Nat.zero_le _⟩, ?_⟩
                          have hmb := mayN_bare (k := (x.kind : Int)) (by omega) x.data
                          obtain ⟨xk, xg, xi, xd⟩ := x
                          dsimp only at hmb k1' ⊢
                          by_cases h2 : xk = 2
                          · subst h2
                            rw [noteOf2]
                            by_cases h3 : checkP xd = 0
                            · rw [if_pos h3, if_pos (hmb.2 ⟨rfl, h3⟩)]
                              rfl
                            · rw [if_neg h3, if_neg (fun q => h3 (hmb.1 q).2)]
                          · rw [noteOf3 k1' h2, if_neg (fun q => h2 (by have := (hmb.1 q).1; omega))]
                      · rintro n wq ⟨hxq, hnq, hnok, hnx⟩
                        have hownq := hown8.ext hxq
                        have houtq := hout8.ext hxq
                        have htxq := htx8.ext hxq
                        have hdevq := hdev8.ext hxq
                        have tmq := tm8.trans (Tm.of_ext hxq B rty)
                        refine KW.seq (KW.region ?_)
                        refine OW.val rfl rfl (EX.loadBk Try.underlying69 rfl ti69 rfl (hnq) (rfl)) ?_
                        refine OW.call rfl rfl rfl (rmay_s n hnok wq) ?_
                        rintro _ w11 ⟨⟨sm, rfl, _⟩, hx11⟩
                        refine OW.val rfl rfl (EX.move rfl) ?_
                        refine OW.val rfl rfl (EX.extract rfl rfl) ?_
                        refine OW.val rfl rfl (EX.extract rfl rfl) ?_
                        refine OW.val rfl rfl (EX.assign rfl) ?_
                        refine OW.val rfl rfl (EX.assign rfl) ?_
                        refine OW.nil ?_
                        refine KW.seq (KW.seq (KW.region ?_))
                        refine OW.val rfl rfl (EX.move rfl) ?_
                        refine OW.val rfl rfl (by first | exact EX.notD rfl | exact EX.notB rfl) ?_
                        refine OW.nil ?_
                        have hown11 := hownq.ext hx11
                        have hout11 := houtq.ext hx11
                        have htx11 := htxq.ext hx11
                        have hdev11 := hdevq.ext hx11
                        have tm11 := tmq.trans (Tm.of_ext hx11 B rty)
                        have z11 := tm11.size
                        have hn11 := hnq.ext hx11
                        refine KW.condD rfl (fun hmay => ?_) (fun hmay => ?_)
                        · refine KW.exit rfl (KW.seq (KW.region ?_))
                          refine OW.val rfl rfl (EX.move rfl) ?_
                          refine OW.val rfl rfl (EX.move rfl) ?_
                          refine OW.val rfl rfl (EX.assign rfl) ?_
                          refine OW.val rfl rfl (EX.assign rfl) ?_
                          refine OW.val rfl rfl (EX.assign rfl) ?_
                          refine OW.nil ?_
                          refine KW.ret (ret3 rfl rfl rfl rfl ?_)
                          obtain ⟨q1, q2⟩ := stop4 (by rw [hnx, if_neg hmay])
                          exact fin w11 out bh (i + 1) vt vs q1 q2 hdev11 hout11 htx11 tm11
                        · rw [if_pos (Classical.not_not.1 hmay)] at hnx
                          obtain ⟨r1, r2⟩ := rep_5 (f := f) (op := op) (out := out) (b := bh) him hde go_ k3' hnx
                          refine KW.skip (KW.region ?_)
                          refine OW.val rfl rfl (EX.move rfl) ?_
                          refine OW.val rfl rfl (EX.loadBk Try.underlying69 rfl ti69 rfl (hn11) (rfl)) ?_
                          refine OW.pushSB (w.heap.size) rfl rfl (fun _ => rfl) rfl Try.underlying48 ti69 rfl (by decide) (by decide) rfl rfl (fun _ => rfl) (by first | rfl | assumption | (simp only [List.all_cons, List.all_nil, Bool.and_true, Bool.true_and, Bool.and_eq_true, Value.oneCell']; repeat (first | assumption | constructor))) (z11) (hown11) (by simp only [maxLen]; omega) (by omega) ?_
                          rintro _ v12 w12 hown12 hm12 hbl12
                          refine OW.val rfl rfl (EX.assign rfl) ?_
                          refine OW.nil ?_
                          refine KW.leave (KW.region ?_)
                          refine OW.val rfl rfl (EX.move rfl) ?_
                          refine OW.val rfl rfl (by first | exact EX.addN (b := 1) (m := 9223372036854775807) rfl rfl rfl (by omega) | exact EX.addZ (m := 9223372036854775807) rfl rfl rfl rfl (by omega)) ?_
                          refine OW.val rfl rfl (EX.assign rfl) ?_
                          refine OW.nil ?_
                          have t12 := Tm.ownMo hown11 hm12
                          have hout12 := t12.own hout11 (by decide)
                          have htx12 := htx11.mo hm12 (fun v hv k hk q => hap k (Option.mem_toList.1 q) v hv hk)
                          have hdev12 := rtm_dev hdev11 t12 (.inl rfl)
                          have tm12 := tm11.fresh hm12 (fun k hk => (hown11.lt k (Option.mem_toList.1 hk)).1)
                          have en : ntsV (op ++ [n]) = ntsV op ++ n.cells := by simp
                          refine KW.back7 (i + 1) (op ++ [n]) (out) (bh) (v12) (vt) (w12) ⟨rfl, rfl, rfl, rfl, rfl, rfl, trivial⟩ rfl ?_ (by omega)
                          refine ⟨by omega, by omega, by simp; omega, by omega, ?_, ?_, hdev12, ?_, tm12, vs, hout12, htx12, ?_⟩
                          · rw [hrp, r1, hf2]
                          · rw [hrn, r2, hf2]; omega
                          · rw [List.length_append, List.length_singleton, en]; exact hown12
                          · intro k hk v hv q
                            rcases hbl12 with e | ⟨g, e, hg⟩
                            · rw [e] at hk
                              exact hap k hk v hv q
                            · rw [e] at hk
                              cases hk
                              have := (htx11.lt v hv _ q).2.1
                              omega
            · refine KW.exit rfl (KW.seq (KW.region ?_))
              refine OW.val rfl rfl (EX.move rfl) ?_
              refine OW.val rfl rfl (EX.move rfl) ?_
              refine OW.val rfl rfl (EX.assign rfl) ?_
              refine OW.val rfl rfl (EX.assign rfl) ?_
              refine OW.val rfl rfl (EX.assign rfl) ?_
              refine OW.nil ?_
              refine KW.ret (ret3 rfl rfl rfl rfl ?_)
              obtain ⟨q1, q2⟩ := over (fun q => c2 ((hM2 i).1 q).2)
              exact fin wr out bh i vt vs q1 q2 hdev hout htx htm
          · refine OW.pass rfl rfl ?_
            refine OW.pass rfl rfl ?_
            refine OW.pass rfl rfl ?_
            refine OW.pass rfl rfl ?_
            refine OW.pass rfl rfl ?_
            refine OW.pass rfl rfl ?_
            refine OW.pass rfl rfl ?_
            refine OW.pass rfl rfl ?_
            refine OW.val rfl rfl (EX.pickF rfl rfl) ?_
            refine OW.nil ?_
            refine KW.condF rfl (KW.exit rfl (KW.seq (KW.region ?_)))
            refine OW.val rfl rfl (EX.move rfl) ?_
            refine OW.val rfl rfl (EX.move rfl) ?_
            refine OW.val rfl rfl (EX.assign rfl) ?_
            refine OW.val rfl rfl (EX.assign rfl) ?_
            refine OW.val rfl rfl (EX.assign rfl) ?_
            refine OW.nil ?_
            refine KW.ret (ret3 rfl rfl rfl rfl ?_)
            obtain ⟨q1, q2⟩ := over (fun q => c1 (by have := ((hM2 i).1 q).1; omega))
            exact fin wr out bh i vt vs q1 q2 hdev hout htx htm
end Go.Proofs.Ytlpnoogcdnfllaa
/- wal: lists of transactions are compared; those that may be. -/
namespace Go.Proofs.Ytlpnoogcdnfllaa
set_option linter.unnecessarySimpa false
open Go.RowKit Rec Pth Dsk Wal
set_option linter.unusedVariables false
set_option linter.unusedSimpArgs false

/-- transactions, wherever they lie below C -/
def TxS (w : World) (C : Nat) : List Value → List (List Nt) → Prop
  | [], [] => True
  | v :: vs, l :: ls => (∃ A c, v = .slice A l.length c ∧ Sl w C A (ntsV l)) ∧ TxS w C vs ls
  | _, _ => False
theorem TxS.len {w : World} {B : Nat} : ∀ {vs : List Value} {ls : List (List Nt)}, TxS w B vs ls → vs.length = ls.length
  | [], [], _ => rfl
  | v :: vs, l :: ls, ⟨_, h2⟩ => by simp [TxS.len h2]
  | [], _ :: _, h => h.elim
  | _ :: _, [], h => h.elim
theorem TxS.at_ {w : World} {B : Nat} : ∀ {vs : List Value} {ls : List (List Nt)}, TxS w B vs ls → ∀ (i : Nat) (hi : i < ls.length), ∃ A c, vs[i]? = some (.slice A (ls[i]).length c) ∧ Sl w B A (ntsV ls[i])
  | [], [], _, i, hi => by simp at hi
  | v :: vs, l :: ls, ⟨⟨A, c, e, h1⟩, h2⟩, 0, hi => ⟨A, c, by simp [e], h1⟩
  | v :: vs, l :: ls, ⟨h1, h2⟩, i + 1, hi => by
    obtain ⟨A, c, h3, h4⟩ := TxS.at_ h2 i (by simpa using hi)
    exact ⟨A, c, by simpa using h3, by simpa using h4⟩
  | [], _ :: _, h, _, _ => h.elim
  | _ :: _, [], h, _, _ => h.elim
theorem TxS.snoc {w : World} {B : Nat} : ∀ {vs : List Value} {ls : List (List Nt)} {A : Option Addr} {c : Nat} {l : List Nt}, TxS w B vs ls → Sl w B A (ntsV l) → TxS w B (vs ++ [.slice A l.length c]) (ls ++ [l])
  | [], [], _, _, _, _, h => ⟨⟨_, _, rfl, h⟩, trivial⟩
  | v :: vs, l :: ls, _, _, _, ⟨h1, h2⟩, h => ⟨h1, TxS.snoc h2 h⟩
  | [], _ :: _, _, _, _, h, _ => h.elim
  | _ :: _, [], _, _, _, h, _ => h.elim
theorem TxS.below {w w' : World} {B C : Nat} (hx : Below C w w') (hB : B ≤ C) : ∀ {vs : List Value} {ls : List (List Nt)}, TxS w B vs ls → TxS w' B vs ls
  | [], [], h => h
  | v :: vs, l :: ls, ⟨⟨A, c, e, h1⟩, h2⟩ => ⟨⟨A, c, e, h1.keep fun p hp => hx.cell (Nat.lt_of_lt_of_le hp hB)⟩, TxS.below hx hB h2⟩
  | [], _ :: _, h => h.elim
  | _ :: _, [], h => h.elim
theorem TxS.ext {w w' : World} {B : Nat} (hx : Ext w w') : ∀ {vs : List Value} {ls : List (List Nt)}, TxS w B vs ls → TxS w' B vs ls
  | [], [], h => h
  | v :: vs, l :: ls, ⟨⟨A, c, e, h1⟩, h2⟩ => ⟨⟨A, c, e, h1.ext hx⟩, TxS.ext hx h2⟩
  | [], _ :: _, h => h.elim
  | _ :: _, [], h => h.elim
theorem TxO.txs {w : World} {B : Nat} : ∀ {vs : List Value} {ls : List (List Nt)}, TxO w B vs ls → TxS w w.heap.size vs ls
  | [], [], _ => trivial
  | v :: vs, l :: ls, ⟨h1, h2⟩ => by
    obtain ⟨A, c, e, _, h3⟩ := h1.slice
    exact ⟨⟨A, c, e, h3⟩, TxO.txs h2⟩
  | [], _ :: _, h => h.elim
  | _ :: _, [], h => h.elim
theorem TxS.take {w : World} {B : Nat} : ∀ {vs : List Value} {ls : List (List Nt)} (n : Nat), TxS w B vs ls → TxS w B (vs.take n) (ls.take n)
  | [], [], n, h => by simp [TxS]
  | v :: vs, l :: ls, 0, h => by simp [TxS]
  | v :: vs, l :: ls, n + 1, ⟨h1, h2⟩ => ⟨h1, TxS.take n h2⟩
  | [], _ :: _, _, h => h.elim
  | _ :: _, [], _, h => h.elim
set_option maxRecDepth 20000 in
theorem same_s (ls1 ls2 : List (List Nt)) (vs1 vs2 : List Value) (A1 A2 : Option Addr) (k1 k2 : Nat) (w : World) (B1 B2 C1 C2 : Nat) (h1 : Sl w B1 A1 vs1) (h2 : Sl w B2 A2 vs2) (x1 : TxS w C1 vs1 ls1) (x2 : TxS w C2 vs2 ls2) (hn : ls1.length ≤ 1000000000000) (hb : ∀ l ∈ ls1, l.length ≤ 140737488355328) :
    Ret Try.prog 11 [.slice A1 ls1.length k1, .slice A2 ls2.length k2] w fun v w' => v = .bool (decide (ls1 = ls2)) ∧ Ext w w' := by
  have e1 := x1.len
  have e2 := x2.len
  refine Ret.enter Try.func11 rfl Try.ntmps11 (by kernel_rfl) rfl ?_
  refine KW.seq (KW.region ?_)
  refine OW.val rfl rfl (EX.assign rfl) ?_
  refine OW.nil ?_
  refine KW.seq (KW.seq (KW.region ?_))
  refine OW.val rfl rfl (EX.move rfl) ?_
  refine OW.val rfl rfl (EX.lenA Try.underlying22 rfl) ?_
  refine OW.val rfl rfl (EX.move rfl) ?_
  refine OW.val rfl rfl (EX.lenA Try.underlying22 rfl) ?_
  refine OW.val rfl rfl (by first | exact EX.neqN rfl rfl | exact EX.neqZ rfl rfl) ?_
  refine OW.nil ?_
  refine KW.condD rfl (fun hl => ?_) (fun hl => ?_)
  · refine KW.seq (KW.region ?_)
    refine OW.val rfl rfl (EX.assign rfl) ?_
    refine OW.nil ?_
    refine KW.ret (ret1 rfl rfl ?_)
    refine ⟨congrArg Value.bool (decide_eq_false (fun e => hl (by rw [e]))).symm, Ext.refl _⟩
  · have hll : ls1.length = ls2.length := by omega
    refine KW.skip (KW.seq (KW.seq (KW.region ?_)))
    refine OW.val rfl rfl (EX.assign rfl) ?_
    refine OW.nil ?_
    refine KW.block ?_
    refine KW.loop2 (fun (i : Nat) (wr : World) => i ≤ ls1.length ∧ (∀ j, j < i → ls1[j]? = ls2[j]?) ∧ Ext w wr) (fun (i : Nat) (wr : World) => [(0, .slice A1 ls1.length k1), (1, .slice A2 ls2.length k2), (5, .int .i64 ((i : Nat) : Int))]) (fun (i : Nat) (wr : World) => wr) (fun (i : Nat) (wr : World) => ls1.length - i) (0) (w) ⟨rfl, rfl, rfl, trivial⟩ rfl ?_ ?_
    · exact ⟨by omega, fun j hj => by omega, Ext.refl _⟩
    · rintro i wr ⟨hi, he, hx⟩
      refine KW.seq (KW.seq (KW.region ?_))
      refine OW.val rfl rfl (EX.move rfl) ?_
      refine OW.val rfl rfl (EX.move rfl) ?_
      refine OW.val rfl rfl (EX.lenA Try.underlying22 rfl) ?_
      refine OW.val rfl rfl (by first | exact EX.lssN rfl rfl | exact EX.lssZ rfl rfl) ?_
      refine OW.nil ?_
      refine KW.condD rfl (fun hlt => ?_) (fun hlt => ?_)
      · have hlt2 : i < ls2.length := by omega
        obtain ⟨a1, c1, g1, s1⟩ := (x1.ext hx).at_ i hlt
        obtain ⟨a2, c2, g2, s2⟩ := (x2.ext hx).at_ i hlt2
        obtain ⟨b1, o1, rfl, _, hc1⟩ := (h1.ext hx).at_ (by omega)
        obtain ⟨b2, o2, rfl, _, hc2⟩ := (h2.ext hx).at_ (by omega)
        have hbi := hb ls1[i] (List.getElem_mem hlt)
        have hi1 : ls1[i]? = some ls1[i] := List.getElem?_eq_getElem hlt
        have hi2 : ls2[i]? = some ls2[i] := List.getElem?_eq_getElem hlt2
        generalize ls1[i] = l1 at g1 s1 hbi hi1
        generalize ls2[i] = l2 at g2 s2 hi2
        refine KW.skip (KW.seq (KW.block (KW.seq (KW.seq ?_))))
        refine KW.regionQ (by kernel_rfl) (by kernel_rfl) ?_
        refine QW.val rfl rfl (fun _ => EX.move rfl) ?_
        refine QW.val rfl rfl (fun _ => EX.move rfl) ?_
        refine QW.val rfl rfl (fun _ => by first | exact EX.indexAddrS0 Try.underlying22 ti48 rfl rfl (by omega) | exact EX.indexAddrS1 Try.underlying22 ti48 rfl rfl (by omega)) ?_
        refine QW.val rfl rfl (fun _ => EX.load Try.underlying48 rfl rfl (hc1 i _ g1)) ?_
        refine QW.val rfl rfl (fun _ => EX.lenA Try.underlying48 rfl) ?_
        refine QW.val rfl rfl (fun _ => EX.move rfl) ?_
        refine QW.val rfl rfl (fun _ => EX.move rfl) ?_
        refine QW.val rfl rfl (fun _ => by first | exact EX.indexAddrS0 Try.underlying22 ti48 rfl rfl (by omega) | exact EX.indexAddrS1 Try.underlying22 ti48 rfl rfl (by omega)) ?_
        refine QW.val rfl rfl (fun _ => EX.load Try.underlying48 rfl rfl (hc2 i _ g2)) ?_
        refine QW.val rfl rfl (fun _ => EX.lenA Try.underlying48 rfl) ?_
        refine QW.val rfl rfl (fun _ => by first | exact EX.neqN rfl rfl | exact EX.neqZ rfl rfl) ?_
        refine QW.nil (fun nq => ?_)
        refine KW.condD rfl (fun hlen => ?_) (fun hlen => ?_)
        · refine KW.seq (KW.region ?_)
          refine OW.val rfl rfl (EX.assign rfl) ?_
          refine OW.nil ?_
          refine KW.ret (ret1 rfl rfl ?_)
          refine ⟨congrArg Value.bool (decide_eq_false (fun e => hlen ?_)).symm, hx.trans (Ext.drewN wr nq)⟩
          rw [e, hi2] at hi1
          cases hi1
          rfl
        · have hll2 : l1.length = l2.length := by omega
          refine KW.skip (KW.seq (KW.region ?_))
          refine OW.val rfl rfl (EX.assign rfl) ?_
          refine OW.nil ?_
          refine KW.block ?_
          refine KW.loop2 (fun (k : Nat) (wq : World) => k ≤ l1.length ∧ (∀ j, j < k → l1[j]? = l2[j]?) ∧ Ext wr wq) (fun (k : Nat) (wq : World) => [(0, .slice (some ⟨b1, o1, none⟩) ls1.length k1), (1, .slice (some ⟨b2, o2, none⟩) ls2.length k2), (5, .int .i64 ((i : Nat) : Int)), (6, .int .i64 ((k : Nat) : Int))]) (fun (k : Nat) (wq : World) => wq) (fun (k : Nat) (wq : World) => l1.length - k) (0) (wr.drewN nq) ⟨rfl, rfl, rfl, rfl, trivial⟩ rfl ?_ ?_
          · exact ⟨by omega, fun j hj => by omega, Ext.drewN wr nq⟩
          · rintro k wq ⟨hk, hek, hxq⟩
            have hc1q : ∀ j u, vs1[j]? = some u → wq.cell? ⟨b1, o1 + j, none⟩ = some u := by
              obtain ⟨b1', o1', e', _, hc⟩ := ((h1.ext hx).ext hxq).at_ (by omega)
              cases e'
              exact hc
            have hc2q : ∀ j u, vs2[j]? = some u → wq.cell? ⟨b2, o2 + j, none⟩ = some u := by
              obtain ⟨b1', o1', e', _, hc⟩ := ((h2.ext hx).ext hxq).at_ (by omega)
              cases e'
              exact hc
            refine KW.seq (KW.seq (KW.region ?_))
            refine OW.val rfl rfl (EX.move rfl) ?_
            refine OW.val rfl rfl (EX.move rfl) ?_
            refine OW.val rfl rfl (EX.move rfl) ?_
            refine OW.val rfl rfl (by first | exact EX.indexAddrS0 Try.underlying22 ti48 rfl rfl (by omega) | exact EX.indexAddrS1 Try.underlying22 ti48 rfl rfl (by omega)) ?_
            refine OW.val rfl rfl (EX.load Try.underlying48 rfl rfl (hc1q i _ g1)) ?_
            refine OW.val rfl rfl (EX.lenA Try.underlying48 rfl) ?_
            refine OW.val rfl rfl (by first | exact EX.lssN rfl rfl | exact EX.lssZ rfl rfl) ?_
            refine OW.nil ?_
            refine KW.condD rfl (fun hlk => ?_) (fun hlk => ?_)
            · have hlk2 : k < l2.length := by omega
              obtain ⟨b3, o3, rfl, _, hd1⟩ := (s1.ext hxq).flat (c := 6) (fun _ => rfl) (by decide) hlk
              obtain ⟨b4, o4, rfl, _, hd2⟩ := (s2.ext hxq).flat (c := 6) (fun _ => rfl) (by decide) hlk2
              refine KW.skip (KW.seq (KW.block (KW.seq ?_)))
              refine KW.regionQ (by kernel_rfl) (by kernel_rfl) ?_
              refine QW.val rfl rfl (fun _ => EX.move rfl) ?_
              refine QW.val rfl rfl (fun _ => EX.move rfl) ?_
              refine QW.val rfl rfl (fun _ => by first | exact EX.indexAddrS0 Try.underlying22 ti48 rfl rfl (by omega) | exact EX.indexAddrS1 Try.underlying22 ti48 rfl rfl (by omega)) ?_
              refine QW.val rfl rfl (fun _ => EX.load Try.underlying48 rfl rfl (hc1q i _ g1)) ?_
              refine QW.val rfl rfl (fun _ => EX.move rfl) ?_
              refine QW.val rfl rfl (fun _ => EX.indexAddrS Try.underlying48 ti69 rfl rfl (by omega)) ?_
              refine QW.val rfl rfl (fun _ => EX.loadA (w := wq.drewN _) (l := (l1[k]).cells) Try.underlying69 rfl ti69 rfl rfl hd1) ?_
              refine QW.val rfl rfl (fun _ => EX.move rfl) ?_
              refine QW.val rfl rfl (fun _ => EX.move rfl) ?_
              refine QW.val rfl rfl (fun _ => by first | exact EX.indexAddrS0 Try.underlying22 ti48 rfl rfl (by omega) | exact EX.indexAddrS1 Try.underlying22 ti48 rfl rfl (by omega)) ?_
              refine QW.val rfl rfl (fun _ => EX.load Try.underlying48 rfl rfl (hc2q i _ g2)) ?_
              refine QW.val rfl rfl (fun _ => EX.move rfl) ?_
              refine QW.val rfl rfl (fun _ => EX.indexAddrS Try.underlying48 ti69 rfl rfl (by omega)) ?_
              refine QW.val rfl rfl (fun _ => EX.loadA (w := wq.drewN _) (l := (l2[k]).cells) Try.underlying69 rfl ti69 rfl rfl hd2) ?_
              refine QW.val rfl rfl (fun _ => EX.neqV Try.underlying69 (by kernel_rfl) (by kernel_rfl) rfl rfl (FE.one (by decide) Try.underlying3 rfl rfl rfl (eq_int Try.underlying3) (FE.str (by decide) Try.underlying67 (by kernel_rfl) ti67 rfl rfl (.cons (by decide) Try.underlying9 rfl rfl rfl (eq_str Try.underlying9) (.cons (by decide) Try.underlying3 rfl rfl rfl (eq_int Try.underlying3) (.cons (by decide) Try.underlying3 rfl rfl rfl (eq_int Try.underlying3) (.cons (by decide) Try.underlying3 rfl rfl rfl (eq_int Try.underlying3) (.cons (by decide) Try.underlying65 rfl rfl rfl (eq_int Try.underlying65) FEqs.nil))))) FE.nil)) rfl) ?_
              refine QW.nil (fun nq => ?_)
              refine KW.as 52 (.bool (decide (l1[k] ≠ l2[k]))) rfl (congrArg Value.bool (nt_ne _ _)) ?_
              refine KW.condD rfl (fun hne => ?_) (fun hne => ?_)
              · refine KW.seq (KW.region ?_)
                refine OW.val rfl rfl (EX.assign rfl) ?_
                refine OW.nil ?_
                refine KW.ret (ret1 rfl rfl ?_)
                refine ⟨congrArg Value.bool (decide_eq_false (fun e => hne ?_)).symm, (hx.trans hxq).trans (Ext.drewN wq _)⟩
                rw [e, hi2] at hi1
                cases hi1
                rfl
              · refine KW.skip (KW.leave (KW.region ?_))
                refine OW.val rfl rfl (EX.move rfl) ?_
                refine OW.val rfl rfl (by first | exact EX.addN (b := 1) (m := 9223372036854775807) rfl rfl rfl (by omega) | exact EX.addZ (m := 9223372036854775807) rfl rfl rfl rfl (by omega)) ?_
                refine OW.val rfl rfl (EX.assign rfl) ?_
                refine OW.nil ?_
                refine KW.back2 (k + 1) (wq.drewN _) ⟨rfl, rfl, rfl, rfl, trivial⟩ rfl ?_ (by omega)
                refine ⟨by omega, fun j hj => ?_, hxq.trans (Ext.drewN wq _)⟩
                by_cases e : j = k
                · subst e
                  rw [List.getElem?_eq_getElem hlk, List.getElem?_eq_getElem hlk2]
                  exact congrArg some (by simpa using hne)
                · exact hek j (by omega)
            · obtain rfl : k = l1.length := by omega
              have el : l1 = l2 := by
                apply List.ext_getElem?
                intro j
                by_cases hj : j < l1.length
                · exact hek j hj
                · rw [List.getElem?_eq_none (by omega), List.getElem?_eq_none (by omega)]
              refine KW.exit rfl (KW.leave (KW.region ?_))
              refine OW.val rfl rfl (EX.move rfl) ?_
              refine OW.val rfl rfl (by first | exact EX.addN (b := 1) (m := 9223372036854775807) rfl rfl rfl (by omega) | exact EX.addZ (m := 9223372036854775807) rfl rfl rfl rfl (by omega)) ?_
              refine OW.val rfl rfl (EX.assign rfl) ?_
              refine OW.nil ?_
              refine KW.back2 (i + 1) (wq) ⟨rfl, rfl, rfl, trivial⟩ rfl ?_ (by omega)
              refine ⟨by omega, fun j hj => ?_, hx.trans hxq⟩
              by_cases e : j = i
              · subst e
                rw [hi1, hi2, el]
              · exact he j (by omega)
      · obtain rfl : i = ls1.length := by omega
        refine KW.exit rfl (KW.seq (KW.region ?_))
        refine OW.val rfl rfl (EX.assign rfl) ?_
        refine OW.nil ?_
        refine KW.ret (ret1 rfl rfl ?_)
        refine ⟨congrArg Value.bool (decide_eq_true ?_).symm, hx⟩
        apply List.ext_getElem?
        intro j
        by_cases hj : j < ls1.length
        · exact he j hj
        · rw [List.getElem?_eq_none (by omega), List.getElem?_eq_none (by omega)]
end Go.Proofs.Ytlpnoogcdnfllaa
/- wal, in plain words: transactions that were appended are found; what a fall leaves. No program is spoken of. -/
namespace Go.Proofs.Ytlpnoogcdnfllaa.Wal
set_option linter.unnecessarySimpa false
open Go.RowKit Rec Pth Dsk
set_option linter.unusedVariables false
set_option linter.unusedSimpArgs false
/-! ### Many writes -/
def chs : Nat → List By → List Ch
  | _, [] => []
  | i, t :: T => .write i t :: chs (i + 1) T
def apAll : Nat → List By → By → By
  | _, [], s => s
  | i, t :: T, s => apAll (i + 1) T ((Ch.write i t).ap s)
theorem chs_length : ∀ (T : List By) (i : Nat), (chs i T).length = T.length
  | [], _ => rfl
  | t :: T, i => by simp [chs, chs_length T]
theorem mod_write {s t : By} {i : Nat} (ht : t.length = 512) (hm : s.length % 512 = 0) : ((Ch.write i t).ap s).length % 512 = 0 := by
  rw [len_write ht hm]
  omega
theorem apAll_len : ∀ (T : List By) (i : Nat) (s : By), (∀ t ∈ T, t.length = 512) → s.length % 512 = 0 → (apAll i T s).length = if T = [] then s.length else max s.length ((i + T.length) * 512)
  | [], i, s, _, _ => rfl
  | t :: T, i, s, hT, hm => by
    have ht := hT t (by simp)
    rw [apAll, apAll_len T (i + 1) _ (fun x hx => hT x (by simp [hx])) (mod_write ht hm), len_write ht hm, if_neg (List.cons_ne_nil _ _), List.length_cons]
    split
    · rename_i e
      subst e
      rfl
    · omega
theorem apAll_sec : ∀ (T : List By) (i : Nat) (s : By), (∀ t ∈ T, t.length = 512) → s.length % 512 = 0 → ∀ j, (i ≤ j ∧ j < i + T.length) ∨ j < s.length / 512 → sec (apAll i T s) j = if i ≤ j ∧ j < i + T.length then T.getD (j - i) [] else sec s j
  | [], i, s, _, _, j, _ => by
    rw [apAll, if_neg (by simp only [List.length_nil]; omega)]
  | t :: T, i, s, hT, hm, j, hj => by
    have ht := hT t (by simp)
    have hlen := len_write (i := i) ht hm
    simp only [List.length_cons] at hj ⊢
    rw [apAll, apAll_sec T (i + 1) _ (fun x hx => hT x (by simp [hx])) (mod_write ht hm) j (by rw [hlen]; omega)]
    by_cases h1 : i + 1 ≤ j ∧ j < i + 1 + T.length
    · rw [if_pos h1, if_pos (by omega), show j - i = (j - (i + 1)) + 1 by omega]
      rfl
    · rw [if_neg h1, sec_write hm ht (by omega)]
      by_cases h2 : j = i
      · subst h2
        rw [if_pos rfl, if_pos (by omega), Nat.sub_self]
        rfl
      · rw [if_neg h2, if_neg (by omega)]
theorem write_live {D : Dv} (h1 : D.dead = false) (h2 : D.at_ ≠ 1) {i : Nat} (hi : i < D.cap) {t : By} (ht : t.length = 512) :
    D.write (i : Int) t = ({ D with pend := D.pend ++ [.write i t], now := (Ch.write i t).ap D.now, at_ := D.at_ - 1, calls := D.calls + 1 }, 0) := by
  unfold Dv.write
  rw [if_neg (by rw [h1]; decide), if_neg (by omega), if_neg (by omega), does_go (by exact h2)]
  rfl
theorem write_fall {D : Dv} (h1 : D.dead = false) (h2 : D.at_ = 1) {i : Nat} (hi : i < D.cap) {t : By} (ht : t.length = 512) :
    D.write (i : Int) t = ({ D with kept := fallen (D.pend ++ [.write i t]) D.keep D.kept, now := fallen (D.pend ++ [.write i t]) D.keep D.kept, pend := [], at_ := 0, keep := [], dead := true }, 190) := by
  unfold Dv.write
  rw [if_neg (by rw [h1]; decide), if_neg (by omega), if_neg (by omega), does_fall (by exact h2)]
  rfl
theorem writes_live : ∀ (T : List By) (D : Dv) (i : Nat), D.dead = false → (D.at_ = 0 ∨ T.length < D.at_) → (∀ t ∈ T, t.length = 512) → i + T.length ≤ D.cap →
    writes D i T = ({ D with pend := D.pend ++ chs i T, now := apAll i T D.now, at_ := D.at_ - T.length, calls := D.calls + T.length }, 0)
  | [], D, i, _, _, _, _ => by
    obtain ⟨a, b, c, d, e, f, g, h⟩ := D
    simp [writes, chs, apAll]
  | t :: T, D, i, h1, h2, hT, hi => by
    simp only [List.length_cons] at hi h2
    have ih := writes_live T { D with pend := D.pend ++ [.write i t], now := (Ch.write i t).ap D.now, at_ := D.at_ - 1, calls := D.calls + 1 } (i + 1) h1 (by simp only; omega) (fun x hx => hT x (by simp [hx])) (by simp only; omega)
    rw [writes_cons, write_live h1 (by omega) (by omega) (hT t (by simp)), if_pos rfl]
    simp only
    rw [ih]
    simp only [chs, apAll, List.append_assoc, List.cons_append, List.nil_append, List.length_cons]
    congr 2
    · omega
    · omega
theorem writes_fall : ∀ (T : List By) (D : Dv) (i : Nat), D.dead = false → 1 ≤ D.at_ → D.at_ ≤ T.length → (∀ t ∈ T, t.length = 512) → i + T.length ≤ D.cap →
    ∃ c, writes D i T = ({ D with kept := fallen (D.pend ++ chs i (T.take D.at_)) D.keep D.kept, now := fallen (D.pend ++ chs i (T.take D.at_)) D.keep D.kept, pend := [], at_ := 0, keep := [], dead := true, calls := c }, 190)
  | [], D, i, _, h2, h3, _, _ => by simp at h3; omega
  | t :: T, D, i, h1, h2, h3, hT, hi => by
    simp only [List.length_cons] at hi h3
    by_cases ha : D.at_ = 1
    · refine ⟨D.calls, ?_⟩
      rw [writes_cons, write_fall h1 ha (by omega) (hT t (by simp)), if_neg (show ¬ (190 : Nat) = 0 by decide), ha]
      simp [chs]
    · obtain ⟨c, ih⟩ := writes_fall T { D with pend := D.pend ++ [.write i t], now := (Ch.write i t).ap D.now, at_ := D.at_ - 1, calls := D.calls + 1 } (i + 1) h1 (by simp only; omega) (by simp only; omega) (fun x hx => hT x (by simp [hx])) (by simp only; omega)
      refine ⟨c, ?_⟩
      rw [writes_cons, write_live h1 ha (by omega) (hT t (by simp)), if_pos rfl]
      simp only
      rw [ih]
      obtain ⟨a, ea⟩ : ∃ a, D.at_ = a + 1 := ⟨D.at_ - 1, by omega⟩
      simp only [ea, Nat.add_sub_cancel, List.take_succ_cons, chs, List.append_assoc, List.cons_append, List.nil_append]
theorem fallen_nil (cs : List Ch) (s : By) : fallen cs [] s = s := by cases cs <;> rfl
theorem fallen_sec : ∀ (T : List By) (i : Nat) (bs : List Bool) (s : By), (∀ t ∈ T, t.length = 512) → s.length % 512 = 0 → (i + T.length) * 512 ≤ s.length →
    (fallen (chs i T) bs s).length = s.length ∧ ∀ j, j < s.length / 512 → sec (fallen (chs i T) bs s) j = sec s j ∨ (i ≤ j ∧ j < i + T.length ∧ sec (fallen (chs i T) bs s) j = T.getD (j - i) []) := by
  intro T
  induction T with
  | nil =>
    intro i bs s _ _ _
    have e : fallen (chs i []) bs s = s := by rw [chs, fallen]
    rw [e]
    exact ⟨rfl, fun j _ => .inl rfl⟩
  | cons t T ih =>
    intro i bs s hT hm hl
    cases bs with
    | nil =>
      rw [fallen_nil]
      exact ⟨rfl, fun j _ => .inl rfl⟩
    | cons b bs =>
      simp only [List.length_cons] at hl
      have ht := hT t (by simp)
      have e : fallen (chs i (t :: T)) (b :: bs) s = fallen (chs (i + 1) T) bs (if b = true then (Ch.write i t).ap s else s) := rfl
      have hlen : (if b = true then (Ch.write i t).ap s else s).length = s.length := by
        split
        · rw [len_write ht hm]; omega
        · rfl
      have hsec : ∀ j, j < s.length / 512 → sec (if b = true then (Ch.write i t).ap s else s) j = sec s j ∨ (j = i ∧ sec (if b = true then (Ch.write i t).ap s else s) j = t) := by
        intro j hj
        by_cases hb : b = true
        · rw [if_pos hb, sec_write hm ht (.inr hj)]
          by_cases e : j = i
          · rw [if_pos e]
            exact .inr ⟨e, rfl⟩
          · rw [if_neg e]
            exact .inl rfl
        · rw [if_neg hb]
          exact .inl rfl
      rw [e]
      generalize (if b = true then (Ch.write i t).ap s else s) = s' at hlen hsec
      have q1 : s'.length % 512 = 0 := by rw [hlen]; exact hm
      have q2 : (i + 1 + T.length) * 512 ≤ s'.length := by rw [hlen, show i + 1 + T.length = i + (T.length + 1) by omega]; exact hl
      obtain ⟨h1, h2⟩ := ih (i + 1) bs s' (fun x hx => hT x (by simp [hx])) q1 q2
      refine ⟨by rw [h1, hlen], fun j hj => ?_⟩
      rcases h2 j (by rw [hlen]; exact hj) with h | ⟨h3, h4, h5⟩
      · rw [h]
        rcases hsec j hj with q | ⟨q3, q4⟩
        · exact .inl q
        · subst q3
          exact .inr ⟨Nat.le_refl _, by simp only [List.length_cons]; omega, by rw [q4, Nat.sub_self]; rfl⟩
      · refine .inr ⟨by omega, by simp only [List.length_cons]; omega, ?_⟩
        rw [h5, show j - i = (j - (i + 1)) + 1 by omega]
        rfl
/-! ### A device between appends -/
structure Quiet (D : Dv) (rd : Nat → By) (n : Nat) : Prop where
  ok : D.Ok
  cap : D.cap = 40
  dead : D.dead = false
  at_ : D.at_ = 0
  pend : D.pend = []
  kept : D.kept = D.now
  len : D.now.length = if n = 0 then 0 else (10 + n) * 512
  rd : ∀ k, k < n → sec D.now (10 + k) = rd k
  le : n ≤ 20
theorem Quiet.fresh (rd : Nat → By) : Quiet (fresh 40 []) rd 0 := ⟨fresh_ok (by decide) (by decide) (by decide), rfl, rfl, rfl, rfl, rfl, rfl, fun k hk => by omega, by omega⟩
theorem Quiet.as {D : Dv} {rd rd' : Nat → By} {n : Nat} (h : Quiet D rd n) (e : ∀ k, k < n → rd k = rd' k) : Quiet D rd' n := ⟨h.ok, h.cap, h.dead, h.at_, h.pend, h.kept, h.len, fun k hk => (h.rd k hk).trans (e k hk), h.le⟩
theorem Quiet.logN {D : Dv} {rd : Nat → By} {n : Nat} (h : Quiet D rd n) : logN D.now = n := by
  have h1 := h.len
  have h2 := h.le
  unfold Wal.logN
  rw [h1]
  split <;> omega
def over (rd : Nat → By) (a : Nat) (T : List By) : Nat → By := fun k => if a ≤ k ∧ k < a + T.length then T.getD (k - a) [] else rd k
theorem quiet_append {D : Dv} {rd : Nat → By} {n g a : Nat} {l : List Nt} (h : Quiet D rd n) (hg : g ≤ 4611686018427387904) (ha : a ≤ n) (hne : l ≠ []) (hl : a + l.length + 1 ≤ 20) (hm : ∀ x ∈ l, mayN x) :
    ∃ D', appendW D (g : Int) (a : Int) l = (D', (a : Int) + l.length + 1, 0) ∧ Quiet D' (over rd a (txs g a l)) (max n (a + l.length + 1)) := by
  have hnb : ¬ badW (g : Int) (a : Int) l.length := by
    have : l.length ≠ 0 := fun e => hne (List.eq_nil_of_length_eq_zero e)
    unfold badW
    omega
  have hT := txs_len (g := g) (i := a) hm
  have hTl := txs_length g a l
  rw [app_go hnb hm]
  simp only [Int.toNat_natCast]
  generalize txs g a l = T at hT hTl
  have hTne : T ≠ [] := fun e => by rw [e] at hTl; simp at hTl
  rw [writes_live T D (10 + a) h.dead (.inl h.at_) hT (by rw [h.cap]; omega)]
  simp only [if_true]
  have hs : Dv.sync { D with pend := D.pend ++ chs (10 + a) T, now := apAll (10 + a) T D.now, at_ := D.at_ - T.length, calls := D.calls + T.length } = ({ D with pend := [], kept := apAll (10 + a) T D.now, now := apAll (10 + a) T D.now, at_ := 0, calls := D.calls + T.length + 1 }, 0) := by
    unfold Dv.sync
    rw [if_neg (by show ¬ D.dead = true; rw [h.dead]; decide), does_go (by show D.at_ - T.length ≠ 1; rw [h.at_]; omega)]
    simp only [Dv.done, Dv.pushed, h.at_, Nat.zero_sub]
  rw [hs]
  simp only [if_true]
  refine ⟨_, rfl, ?_⟩
  have hlen := h.len
  have hle := h.le
  have hmod := h.ok.nowM
  have hla := apAll_len T (10 + a) D.now hT hmod
  rw [if_neg hTne] at hla
  have hlb : (apAll (10 + a) T D.now).length = (10 + max n (a + l.length + 1)) * 512 := by
    rw [hla, hlen]
    split <;> omega
  refine ⟨⟨h.ok.cap, ?_, ?_, ?_, ?_, fun c hc => by simp at hc⟩, h.cap, h.dead, rfl, rfl, rfl, ?_, ?_, by omega⟩
  · show (apAll (10 + a) T D.now).length ≤ 512 * D.cap
    rw [hlb, h.cap]; omega
  · show (apAll (10 + a) T D.now).length ≤ 512 * D.cap
    rw [hlb, h.cap]; omega
  · show (apAll (10 + a) T D.now).length % 512 = 0
    rw [hlb]; omega
  · show (apAll (10 + a) T D.now).length % 512 = 0
    rw [hlb]; omega
  · show (apAll (10 + a) T D.now).length = _
    rw [hlb, if_neg (by omega)]
  · intro k hk
    show sec (apAll (10 + a) T D.now) (10 + k) = _
    have hj : (10 + a ≤ 10 + k ∧ 10 + k < 10 + a + T.length) ∨ 10 + k < D.now.length / 512 := by
      rw [hlen]
      by_cases q : k < n
      · right
        rw [if_neg (by omega)]
        omega
      · left
        omega
    rw [apAll_sec T (10 + a) D.now hT hmod (10 + k) hj]
    unfold over
    by_cases q : a ≤ k ∧ k < a + T.length
    · rw [if_pos q, if_pos (by omega), show 10 + k - (10 + a) = k - a by omega]
    · rw [if_neg q, if_neg (by omega)]
      exact h.rd k (by omega)
/-! ### Whose generation a record is -/
theorem txs_gen {g a : Nat} {l : List Nt} (hg : g ≤ 4611686018427387904) (hl : Good l) (ha : a + l.length ≤ 2147483647) (h2 : l.length ≤ 100) : ∀ k, k < l.length + 1 → (decodeR ((txs g a l).getD k [])).1.gen = (g : Int) := by
  intro k hk
  by_cases q : k < l.length
  · rw [txs_note g a l q, (rd_recs hg l a hl ha k q).eq]
  · obtain rfl : k = l.length := by omega
    rw [txs_end, (rd_text (k := 3) (by decide) hg ha (by simp)).eq]
theorem lay_at {g : Nat} : ∀ (ls : List (List Nt)) (i : Nat), i + total ls ≤ 20 → g ≤ 4611686018427387904 → Goods ls → ∀ k, k < total ls → (decodeR ((lay g i ls).getD k [])).1.gen = (g : Int)
  | [], i, _, _, _, k, hk => by simp [total] at hk
  | l :: ls, i, hi, hg, hl, k, hk => by
    rw [total_cons] at hi hk
    have h1 := hl l (by simp)
    by_cases q : k < l.length + 1
    · have e : (lay g i (l :: ls)).getD k [] = (txs g i l).getD k [] := by
        rw [lay]
        simp only [List.getD_eq_getElem?_getD]
        rw [List.getElem?_append_left (by rw [txs_length]; exact q)]
      rw [e]
      exact txs_gen hg h1.1 (by omega) (by omega) k q
    · have e : (lay g i (l :: ls)).getD k [] = (lay g (i + l.length + 1) ls).getD (k - (l.length + 1)) [] := by
        rw [lay]
        simp only [List.getD_eq_getElem?_getD]
        rw [List.getElem?_append_right (by rw [txs_length]; omega), txs_length]
      rw [e]
      exact lay_at ls _ (by omega) hg (fun x hx => hl x (by simp [hx])) _ (by omega)
theorem rep_end0 {gen : Int} {rd : Nat → By} {m f i : Nat} {op : List Nt} {out : List (List Nt)} {b : Nat} (hi : m ≤ i) : rep gen rd m f i op out b = (out, b) := by
  cases f with
  | zero => rfl
  | succ f => rw [rep, if_neg (by omega)]
/-- another generation's record ends a replay -/
theorem rep_stop {gen : Int} {rd : Nat → By} {m f i : Nat} {op : List Nt} {out : List (List Nt)} {b : Nat} (hf : 0 ≤ f) (h : (decodeR (rd i)).1.gen ≠ gen) : rep gen rd m f i op out b = (out, b) := by
  cases f with
  | zero => rfl
  | succ f =>
    rw [rep]
    split
    · simp only
      rw [if_pos (.inr (.inl h))]
    · rfl
/-! ### Back -/
theorem quiet_replay {D : Dv} {g : Nat} {ls : List (List Nt)} (h : Quiet D (fun k => (lay g 0 ls).getD k []) (total ls)) (hg : g ≤ 4611686018427387904) (hl : Goods ls) : replayD D (g : Int) = ((ls, total ls), 0) := by
  have hle := h.le
  unfold replayD
  rw [if_neg (by unfold badG; omega), h.dead, if_neg (by decide)]
  unfold replay
  rw [h.logN]
  have hr := rep_all (rd := fun i => sec D.now (10 + i)) (m := total ls) hg hle ls (21 - total ls) 0 [] 0 hl (fun k hk => by rw [Nat.zero_add]; exact h.rd k hk) (by omega)
  rw [show 21 - total ls + total ls = 21 by omega] at hr
  rw [hr, rep_over (by omega), List.nil_append]
  by_cases e : ls = []
  · subst e; rfl
  · rw [if_neg e, Nat.zero_add]
theorem quiet_other {D : Dv} {g : Nat} {ls : List (List Nt)} (h : Quiet D (fun k => (lay g 0 ls).getD k []) (total ls)) (hg : g ≤ 4611686018427387904) (hl : Goods ls) {o : Int} (ho : ¬ badG o) (hne : o ≠ (g : Int)) : replayD D o = (([], 0), 0) := by
  have hle := h.le
  unfold replayD
  rw [if_neg ho, h.dead, if_neg (by decide)]
  unfold replay
  rw [h.logN]
  by_cases q : 0 < total ls
  · have e : (decodeR (sec D.now (10 + 0))).1.gen = (g : Int) := by
      rw [h.rd 0 q]
      exact lay_at ls 0 (by omega) hg hl 0 q
    rw [rep_stop (by omega) (by rw [e]; exact fun q => hne q.symm)]
  · rw [rep_end0 (by omega)]
theorem Quiet.replayed {D : Dv} {rd : Nat → By} {n : Nat} (h : Quiet D rd n) (gen : Int) : Quiet (replayed D gen) rd n := ⟨replayed_ok h.ok gen, h.cap, h.dead, h.at_, h.pend, h.kept, h.len, h.rd, h.le⟩
theorem total_snoc (ls : List (List Nt)) (l : List Nt) : total (ls ++ [l]) = total ls + l.length + 1 := by simp [total]; omega
/-- what stands where: transactions of one generation, behind them what was there -/
def onto (g : Nat) (ls : List (List Nt)) (rd : Nat → By) : Nat → By := fun k => if k < total ls then (lay g 0 ls).getD k [] else rd k
theorem quiet_more {D : Dv} {rd : Nat → By} {n g : Nat} {ls : List (List Nt)} {l : List Nt} (h : Quiet D (onto g ls rd) n) (hg : g ≤ 4611686018427387904) (ha : total ls ≤ n) (hne : l ≠ []) (hl : total ls + l.length + 1 ≤ 20) (hm : ∀ x ∈ l, mayN x) :
    ∃ D', appendW D (g : Int) (total ls : Int) l = (D', ((total ls + l.length + 1 : Nat) : Int), 0) ∧ Quiet D' (onto g (ls ++ [l]) rd) (max n (total ls + l.length + 1)) := by
  obtain ⟨D', h1, h2⟩ := quiet_append h hg ha hne hl hm
  refine ⟨D', by rw [h1]; rfl, h2.as fun k hk => ?_⟩
  unfold over onto
  rw [total_snoc, lay_snoc, Nat.zero_add, txs_length]
  by_cases q : k < total ls
  · rw [if_neg (by omega), if_pos q, if_pos (by omega)]
    simp only [List.getD_eq_getElem?_getD]
    rw [List.getElem?_append_left (by rw [lay_length]; exact q)]
  · by_cases q2 : k < total ls + l.length + 1
    · rw [if_pos (by omega), if_pos q2]
      simp only [List.getD_eq_getElem?_getD]
      rw [List.getElem?_append_right (by rw [lay_length]; omega), lay_length]
    · rw [if_neg (by omega), if_neg q, if_neg q2]
theorem quiet_lay {D : Dv} {rd : Nat → By} {g : Nat} {ls : List (List Nt)} (h : Quiet D (onto g ls rd) (total ls)) : Quiet D (fun k => (lay g 0 ls).getD k []) (total ls) := h.as fun k hk => by unfold onto; rw [if_pos hk]
/-! ### Those that may be -/
def okT (a : Nat) (l : List Nt) : Prop := 0 < l.length ∧ l.length + a < 20 ∧ ∀ n ∈ l, n.kind = 1 ∧ mayM n.mem
instance (a : Nat) (l : List Nt) : Decidable (okT a l) := by unfold okT; infer_instance
def pick (r : List (List Nt) × Nat) (l : List Nt) : List (List Nt) × Nat := if okT r.2 l then (r.1 ++ [l], r.2 + l.length + 1) else r
def mayT (ls : List (List Nt)) : List (List Nt) × Nat := ls.foldl pick ([], 0)
theorem mayT_snoc (ls : List (List Nt)) (l : List Nt) : mayT (ls ++ [l]) = pick (mayT ls) l := by simp [mayT]
theorem may_okT {n : Nt} (h : n.kind = 1 ∧ mayM n.mem) : mayN n := by
  unfold mayN noteD
  rw [if_pos h.1, if_pos h.2]
  simp
theorem mayT_inv (P : List (List Nt) → Nat → Prop) (h0 : P [] 0) (hs : ∀ out a l, P out a → okT a l → P (out ++ [l]) (a + l.length + 1)) : ∀ (ls : List (List Nt)) (r : List (List Nt) × Nat), P r.1 r.2 → P (ls.foldl pick r).1 (ls.foldl pick r).2
  | [], r, h => h
  | l :: ls, r, h => by
    refine mayT_inv P h0 hs ls (pick r l) ?_
    unfold pick
    split
    · rename_i q
      exact hs _ _ _ h q
    · exact h
theorem mayT_fine (ls : List (List Nt)) : (mayT ls).2 = total (mayT ls).1 ∧ total (mayT ls).1 ≤ 20 ∧ ∀ l ∈ (mayT ls).1, l ≠ [] ∧ ∀ n ∈ l, mayN n := by
  refine mayT_inv (fun out a => a = total out ∧ total out ≤ 20 ∧ ∀ l ∈ out, l ≠ [] ∧ ∀ n ∈ l, mayN n) ⟨rfl, by simp [total], by simp⟩ ?_ ls ([], 0) ⟨rfl, by simp [total], by simp⟩
  rintro out a l ⟨h1, h2, h3⟩ ⟨q1, q2, q3⟩
  refine ⟨by rw [total_snoc]; omega, by rw [total_snoc]; omega, fun x hx => ?_⟩
  rcases List.mem_append.1 hx with q | q
  · exact h3 x q
  · rw [List.mem_singleton.1 q]
    refine ⟨fun e => ?_, fun n hn => may_okT (q3 n hn)⟩
    rw [e] at q1
    exact absurd q1 (by decide)
theorem mayT_mem (ls : List (List Nt)) : ∀ l ∈ (mayT ls).1, l ∈ ls := by
  have h : ∀ (xs : List (List Nt)) (r : List (List Nt) × Nat), ∀ l ∈ (xs.foldl pick r).1, l ∈ r.1 ∨ l ∈ xs := by
    intro xs
    induction xs with
    | nil => intro r l h; exact .inl h
    | cons x xs ih =>
      intro r l h
      rcases ih (pick r x) l h with q | q
      · unfold pick at q
        split at q
        · rcases List.mem_append.1 q with q | q
          · exact .inl q
          · rw [List.mem_singleton.1 q]; exact .inr (by simp)
        · exact .inl q
      · exact .inr (by simp [q])
  intro l hl
  exact (h ls ([], 0) l hl).resolve_left (by simp)
end Go.Proofs.Ytlpnoogcdnfllaa.Wal
/- wal: what the statements begin with. -/
namespace Go.Proofs.Ytlpnoogcdnfllaa
set_option linter.unnecessarySimpa false
open Go.RowKit Rec Pth Dsk Wal
set_option linter.unusedVariables false
set_option linter.unusedSimpArgs false

/-! ### Calls on a device between appends -/
theorem append_q {D : Dv} {rd : Nat → List UInt8} {n g k : Nat} {ls : List (List Nt)} {l : List Nt} (hq : Quiet D (onto g ls rd) n) (hsm : Sm D k) (hk : k ≤ 800000) (hg : g ≤ 4611686018427387904) (ha : total ls ≤ n) (hne : l ≠ []) (hl : total ls + l.length + 1 ≤ 20) (hm : ∀ x ∈ l, mayN x) (hok : ∀ n ∈ l, n.mem.Ok)
    (B b : Nat) (A : Option Addr) (c C : Nat) (w : World) (h : DevAt w B b D) (hs : Sl w C A (ntsV l)) :
    Ret Try.prog 16 [.pointer (some ⟨b, 0, none⟩), .int .i64 (g : Int), .int .i64 (total ls : Int), .slice A l.length c] w fun v w' => v = .tuple #[.int .i64 ((total ls + l.length + 1 : Nat) : Int), .int .i64 0] ∧ Tm w w' B dty ∧ ∃ D', Quiet D' (onto g (ls ++ [l]) rd) (max n (total ls + l.length + 1)) ∧ Sm D' (k + 21) ∧ DevAt w' B b D' := by
  obtain ⟨D', h1, h2⟩ := quiet_more hq hg ha hne hl hm
  have c := append_s hq.ok hsm (by omega) B b (g : Int) (total ls : Int) (by omega) (by omega) (by omega) (by omega) l (by omega) hok A c C w h hs
  have h3 := append_sm hsm (g : Int) (total ls : Int) l
  rw [h1] at c h3
  exact c.mono fun v w' ⟨q1, q2, q3⟩ => ⟨q1, q3, D', h2, h3, q2⟩
theorem replay_q {D : Dv} {rd : Nat → List UInt8} {g k : Nat} {ls : List (List Nt)} (hq : Quiet D (onto g ls rd) (total ls)) (hsm : Sm D k) (hk : k ≤ 800000) (hg : g ≤ 4611686018427387904) (hl : Goods ls) (B b : Nat) (w : World) (h : DevAt w B b D) :
    Ret Try.prog 10 [.pointer (some ⟨b, 0, none⟩), .int .i64 (g : Int)] w fun v w' => Found w' w.heap.size (ls, total ls) 0 v ∧ Tm w w' B dty ∧ ∃ D', Quiet D' (onto g ls rd) (total ls) ∧ Sm D' (k + 21) ∧ DevAt w' B b D' := by
  have c := replay_s hq.ok hsm (by omega) B b (g : Int) w h
  rw [quiet_replay (quiet_lay hq) hg hl] at c
  exact c.mono fun v w' ⟨q1, q2, q3⟩ => ⟨q1, q3, _, hq.replayed _, replayed_sm hsm _, q2⟩
theorem replay_o {D : Dv} {rd : Nat → List UInt8} {g k : Nat} {ls : List (List Nt)} (hq : Quiet D (onto g ls rd) (total ls)) (hsm : Sm D k) (hk : k ≤ 800000) (hg : g ≤ 4611686018427387904) (hl : Goods ls) {o : Int} (ho : ¬ badG o) (hne : o ≠ (g : Int)) (B b : Nat) (w : World) (h : DevAt w B b D) :
    Ret Try.prog 10 [.pointer (some ⟨b, 0, none⟩), .int .i64 o] w fun v w' => Found w' w.heap.size ([], 0) 0 v ∧ Tm w w' B dty ∧ ∃ D', Quiet D' (onto g ls rd) (total ls) ∧ Sm D' (k + 21) ∧ DevAt w' B b D' := by
  have c := replay_s hq.ok hsm (by omega) B b o w h
  rw [quiet_other (quiet_lay hq) hg hl ho hne] at c
  exact c.mono fun v w' ⟨q1, q2, q3⟩ => ⟨q1, q3, _, hq.replayed _, replayed_sm hsm _, q2⟩
/-! ### The example -/
def aN : Nt := ⟨1, ⟨[97], 30, 2, 5, 1⟩⟩
theorem aN_may : mayN aN := may_okT ⟨rfl, by decide +kernel⟩
theorem aN_ok : aN.mem.Ok := ⟨by decide, by decide⟩
theorem put_s (w : World) : Ret Try.prog 27 [] w fun v w' => v = .agg (List.toArray aN.cells) ∧ Ext w w' := by
  refine Ret.enter Try.func27 rfl Try.ntmps27 (by kernel_rfl) rfl ?_
  refine KW.seq (KW.region ?_)
  refine OW.allocB (l := [.int .i64 0, str [], .int .i64 0, .int .i64 0, .int .i64 0, .int .u32 0]) rfl rfl ti69 rfl ?_
  rintro rb w1 hge1 hr1 hx1
  refine OW.nil ?_
  refine KW.seq (KW.region ?_)
  refine OW.val rfl rfl (EX.buildS (pl := [(0, 1), (1, 1), (2, 1), (3, 1), (4, 1)]) (ks := [0, 1, 2, 3, 4]) (is := [0, 1, 2, 3, 4]) (zs := [str [], .int .i64 0, .int .i64 0, .int .i64 0, .int .u32 0]) Try.underlying67 ti67 (by kernel_rfl) rfl rfl rfl (by first | rfl | (simp only [List.all_cons, List.all_nil, Bool.and_true, Bool.true_and, Bool.and_eq_true, Value.oneCell']; repeat (first | assumption | exact Own.one (by assumption) | constructor))) (by simp only [setAll, List.set_cons_zero, List.set_cons_succ]; rfl)) ?_
  refine OW.val rfl rfl (EX.buildG (pl := [(0, 1), (1, 5)]) (ks := [0, 1]) (zs := [.int .i64 0, str [], .int .i64 0, .int .i64 0, .int .i64 0, .int .u32 0]) Try.underlying69 ti69 (by kernel_rfl) rfl rfl rfl) ?_
  refine OW.storeS rfl ti69 rfl rfl rfl (by first | rfl | (simp only [List.all_cons, List.all_nil, Bool.and_true, Bool.true_and, Bool.and_eq_true, Value.oneCell']; repeat (first | assumption | exact Own.one (by assumption) | constructor))) (hr1) (Nat.le_refl _) ?_
  rintro w2 hr2 hm2
  refine OW.nil ?_
  refine KW.ret (retC1 rfl Try.underlying69 rfl ti69 rfl (hr2) rfl ?_)
  exact ⟨rfl, below_mo hx1 hm2 hx1.size (fun k hk => by simp at hk; omega)⟩
theorem quiet_start : Quiet (fresh 40 []) (onto 5 [] fun _ => []) 0 := Quiet.fresh _
theorem fresh_sm : Sm (fresh 40 []) 0 := ⟨Nat.le_refl _, Nat.le_refl _, Nat.zero_le _, Nat.zero_le _⟩
theorem may40 : Dsk.may 40 [] := by refine ⟨?_, ?_, ?_, ?_⟩ <;> decide
theorem new40 (w : World) : Ret Try.prog 20 [.int .i64 40] w fun v w' => Ext w w' ∧ ∃ b, v = .tuple #[.pointer (some ⟨b, 0, none⟩), .int .i64 0] ∧ DevAt w' w.heap.size b (fresh 40 []) :=
  (new_s 40 (by decide) (by decide) w).mono fun v w' ⟨p, e, h1, h2, h3⟩ => ⟨h2, by
    rcases h3 with ⟨q, _⟩ | ⟨_, b, h4, h5, h6⟩
    · exact absurd may40 q
    · exact ⟨b, by rw [h1, h4, h5]; rfl, h6⟩⟩
set_option maxRecDepth 20000 in
theorem awake_s (w : World) : Ret Try.prog 7 [] w fun v w' => v = .bool true ∧ Ext w w' := by
  refine Ret.enter Try.func7 rfl Try.ntmps7 (by kernel_rfl) rfl ?_
  refine KW.seq (KW.region ?_)
  refine OW.val rfl rfl (EX.assign rfl) ?_
  refine OW.nil ?_
  refine KW.seq (KW.region ?_)
  refine OW.call rfl rfl rfl (new40 w) ?_
  rintro _ w1 ⟨hx1, b, rfl, hdev1⟩
  refine OW.val rfl rfl (EX.move rfl) ?_
  refine OW.val rfl rfl (EX.extract rfl rfl) ?_
  refine OW.val rfl rfl (EX.extract rfl rfl) ?_
  refine OW.val rfl rfl (EX.assign rfl) ?_
  refine OW.val rfl rfl (EX.assign rfl) ?_
  refine OW.nil ?_
  refine KW.seq (KW.seq ?_)
  refine KW.region ?_
  refine OW.val rfl rfl (EX.move rfl) ?_
  refine OW.val rfl rfl (by first | exact EX.neqN (b := 0) rfl rfl | exact EX.neqZ rfl rfl) ?_
  refine OW.val rfl rfl (EX.move rfl) ?_
  refine OW.as 17 (.bool false) rfl (congrArg Value.bool (decide_eq_false (by simp))) ?_
  refine OW.val rfl rfl (EX.move rfl) ?_
  refine OW.val rfl rfl (by first | exact EX.eqlP1 Try.underlying26 rfl rfl | exact EX.eqlP0 Try.underlying26 rfl rfl) ?_
  refine OW.val rfl rfl (EX.pickF rfl rfl) ?_
  refine OW.nil ?_
  refine KW.condF rfl (KW.skip (KW.seq (KW.region ?_)))
  refine OW.val rfl rfl (EX.move rfl) ?_
  refine OW.call rfl rfl rfl (put_s w1) ?_
  rintro _ w2 ⟨rfl, hx2⟩
  refine OW.buildG 1 ([aN.cells]) rfl rfl Try.underlying48 ti69 rfl (by decide) rfl rfl rfl (by repeat' (first | exact List.forall_mem_nil _ | refine List.forall_mem_cons.2 ⟨rfl, ?_⟩)) (by decide) ?_
  rintro sb w3 hge3 hs3 hx3
  replace hs3 : Bk w3 sb 69 (ntsV [aN]) := hs3
  have x3 := (hx1.trans hx2).trans hx3
  have sl3 : Sl w3 w3.heap.size (some ⟨sb, 0, none⟩) (ntsV [aN]) := hs3.sl
  have ca := append_q (ls := []) (l := [aN]) quiet_start fresh_sm (by decide) (by decide) (Nat.zero_le _) (by simp) (by decide) (fun x hx => by rw [List.mem_singleton.1 hx]; exact aN_may) (fun x hx => by rw [List.mem_singleton.1 hx]; exact aN_ok) w.heap.size b (some ⟨sb, 0, none⟩) 1 _ w3 ((hdev1.ext hx2).ext hx3) sl3
  refine OW.call rfl rfl rfl (ca) ?_
  rintro _ w4 ⟨rfl, tm4, D4, q4, sm4, hdev4⟩
  refine OW.val rfl rfl (EX.move rfl) ?_
  refine OW.val rfl rfl (EX.extract rfl rfl) ?_
  refine OW.val rfl rfl (EX.extract rfl rfl) ?_
  refine OW.val rfl rfl (EX.assign rfl) ?_
  refine OW.val rfl rfl (EX.assign rfl) ?_
  refine OW.nil ?_
  refine KW.seq (KW.region ?_)
  refine OW.val rfl rfl (EX.move rfl) ?_
  have g4 : Goods [[aN]] := fun l hl => by
    rw [List.mem_singleton.1 hl]
    exact ⟨fun x hx => by rw [List.mem_singleton.1 hx]; exact ⟨aN_may, by decide⟩, by simp⟩
  replace q4 : Quiet D4 (onto 5 [[aN]] fun _ => []) (total [[aN]]) := q4
  have x4 : Ext w w4 := Tm.below x3 tm4 x3.size (Nat.le_refl _)
  have c5 := replay_q q4 sm4 (by decide) (by decide) g4 w.heap.size b w4 hdev4
  refine OW.call rfl rfl rfl (c5) ?_
  rintro _ w5 ⟨⟨v5, vs5, rfl, own5, tx5⟩, tm5, D5, q5, sm5, hdev5⟩
  refine OW.val rfl rfl (EX.move rfl) ?_
  refine OW.val rfl rfl (EX.extract rfl rfl) ?_
  refine OW.val rfl rfl (EX.extract rfl rfl) ?_
  refine OW.val rfl rfl (EX.extract rfl rfl) ?_
  refine OW.val rfl rfl (EX.assign rfl) ?_
  refine OW.val rfl rfl (EX.assign rfl) ?_
  refine OW.val rfl rfl (EX.assign rfl) ?_
  refine OW.nil ?_
  refine KW.seq (KW.region ?_)
  refine OW.val rfl rfl (EX.move rfl) ?_
  have x5 : Ext w w5 := Tm.below x4 tm5 x4.size (Nat.le_refl _)
  have c6 := replay_o q5 sm5 (by decide) (by decide) g4 (o := 4) (by decide) (by decide) w.heap.size b w5 hdev5
  refine OW.call rfl rfl rfl (c6) ?_
  rintro _ w6 ⟨⟨v6, vs6, rfl, own6, tx6⟩, tm6, D6, q6, sm6, hdev6⟩
  refine OW.val rfl rfl (EX.move rfl) ?_
  refine OW.val rfl rfl (EX.extract rfl rfl) ?_
  refine OW.val rfl rfl (EX.extract rfl rfl) ?_
  refine OW.val rfl rfl (EX.extract rfl rfl) ?_
  refine OW.val rfl rfl (EX.assign rfl) ?_
  refine OW.val rfl rfl (EX.assign rfl) ?_
  refine OW.val rfl rfl (EX.assign rfl) ?_
  refine OW.nil ?_
  refine KW.seq ?_
  have x6 : Ext w w6 := Tm.below x5 tm6 x5.size (Nat.le_refl _)
  have own56 := tm6.own own5 (by decide)
  have tx56 := tx5.tm tm6 (by decide)
  obtain ⟨A5, c5, rfl, _, sl5⟩ := own56.slice
  obtain ⟨A6, c6, rfl, _, _⟩ := own6.slice
  refine KW.region ?_
  refine OW.val rfl rfl (EX.move rfl) ?_
  refine OW.val rfl rfl (by first | exact EX.eqlN (b := 2) rfl rfl | exact EX.eqlZ rfl rfl) ?_
  refine OW.val rfl rfl (EX.move rfl) ?_
  refine OW.as 42 (.bool true) rfl (congrArg Value.bool (decide_eq_true (rfl))) ?_
  refine OW.val rfl rfl (EX.move rfl) ?_
  refine OW.val rfl rfl (by first | exact EX.eqlN (b := 0) rfl rfl | exact EX.eqlZ rfl rfl) ?_
  refine OW.val rfl rfl (EX.pickT rfl rfl) ?_
  refine OW.val rfl rfl (EX.move rfl) ?_
  refine OW.as 46 (.bool true) rfl (congrArg Value.bool (decide_eq_true (rfl))) ?_
  refine OW.val rfl rfl (EX.move rfl) ?_
  refine OW.call rfl rfl rfl (len_d hdev6 q6.ok) ?_
  rintro _ _ ⟨rfl, rfl⟩
  refine OW.val rfl rfl (by first | exact EX.eqlN (b := 12) rfl rfl | exact EX.eqlZ rfl rfl) ?_
  refine OW.val rfl rfl (EX.pickT rfl rfl) ?_
  refine OW.val rfl rfl (EX.move rfl) ?_
  have l6 := q6.len
  rw [if_neg (by decide)] at l6
  have l6' : D6.now.length / 512 = 12 := by rw [l6]; decide
  refine OW.as 51 (.bool true) rfl (congrArg Value.bool (decide_eq_true (by omega))) ?_
  refine OW.val rfl rfl (EX.move rfl) ?_
  refine OW.call rfl rfl rfl (put_s w6) ?_
  rintro _ w7 ⟨rfl, hx7⟩
  refine OW.buildG 1 ([aN.cells]) rfl rfl Try.underlying48 ti69 rfl (by decide) rfl rfl rfl (by repeat' (first | exact List.forall_mem_nil _ | refine List.forall_mem_cons.2 ⟨rfl, ?_⟩)) (by decide) ?_
  rintro nb w8 hge8 hn8 hx8
  replace hn8 : Bk w8 nb 69 (ntsV [aN]) := hn8
  refine OW.buildB 1 rfl rfl Try.underlying22 ti48 rfl rfl rfl rfl (by first | rfl | (simp only [List.all_cons, List.all_nil, Bool.and_true, Bool.and_eq_true]; assumption)) (by decide) ?_
  rintro tb w9 hge9 ht9 hx9
  have x9 := ((x6.trans hx7).trans hx8).trans hx9
  have t9 : TxS w9 w9.heap.size [.slice (some ⟨nb, 0, none⟩) 1 1] [[aN]] := ⟨⟨_, _, rfl, (hn8.ext hx9).sl⟩, trivial⟩
  have cs := same_s [[aN]] [[aN]] vs5 _ A5 (some ⟨tb, 0, none⟩) c5 1 w9 _ _ _ _ (((sl5.ext hx7).ext hx8).ext hx9) ht9.sl (((tx56.txs.ext hx7).ext hx8).ext hx9) t9 (by decide) (fun l hl => by rw [List.mem_singleton.1 hl]; decide)
  refine OW.call rfl rfl rfl (cs) ?_
  rintro _ w10 ⟨rfl, hx10⟩
  refine OW.val rfl rfl (EX.pickT rfl rfl) ?_
  refine OW.val rfl rfl (EX.move rfl) ?_
  refine OW.as 58 (.bool true) rfl (congrArg Value.bool (decide_eq_true (rfl))) ?_
  refine OW.val rfl rfl (EX.move rfl) ?_
  refine OW.val rfl rfl (by first | exact EX.eqlN (b := 2) rfl rfl | exact EX.eqlZ rfl rfl) ?_
  refine OW.val rfl rfl (EX.pickT rfl rfl) ?_
  refine OW.val rfl rfl (EX.move rfl) ?_
  refine OW.as 62 (.bool true) rfl (congrArg Value.bool (decide_eq_true (rfl))) ?_
  refine OW.val rfl rfl (EX.move rfl) ?_
  refine OW.val rfl rfl (by first | exact EX.eqlN (b := 0) rfl rfl | exact EX.eqlZ rfl rfl) ?_
  refine OW.val rfl rfl (EX.pickT rfl rfl) ?_
  refine OW.val rfl rfl (EX.move rfl) ?_
  refine OW.as 66 (.bool true) rfl (congrArg Value.bool (decide_eq_true (rfl))) ?_
  refine OW.val rfl rfl (EX.move rfl) ?_
  refine OW.val rfl rfl (EX.lenA Try.underlying22 rfl) ?_
  refine OW.val rfl rfl (by first | exact EX.eqlN (b := 0) rfl rfl | exact EX.eqlZ rfl rfl) ?_
  refine OW.val rfl rfl (EX.pickT rfl rfl) ?_
  refine OW.val rfl rfl (EX.move rfl) ?_
  refine OW.as 71 (.bool true) rfl (congrArg Value.bool (decide_eq_true (rfl))) ?_
  refine OW.val rfl rfl (EX.move rfl) ?_
  refine OW.val rfl rfl (by first | exact EX.eqlN (b := 0) rfl rfl | exact EX.eqlZ rfl rfl) ?_
  refine OW.val rfl rfl (EX.pickT rfl rfl) ?_
  refine OW.val rfl rfl (EX.move rfl) ?_
  refine OW.as 75 (.bool true) rfl (congrArg Value.bool (decide_eq_true (rfl))) ?_
  refine OW.val rfl rfl (EX.move rfl) ?_
  refine OW.val rfl rfl (by first | exact EX.eqlN (b := 0) rfl rfl | exact EX.eqlZ rfl rfl) ?_
  refine OW.val rfl rfl (EX.pickT rfl rfl) ?_
  refine OW.val rfl rfl (EX.assign rfl) ?_
  refine OW.nil ?_
  refine KW.ret (ret1 rfl rfl ?_)
  exact ⟨rfl, x9.trans hx10⟩
end Go.Proofs.Ytlpnoogcdnfllaa
/- wal: on any sectors the document's transactions are found. -/
namespace Go.Proofs.Ytlpnoogcdnfllaa
set_option linter.unnecessarySimpa false
open Go.RowKit Rec Pth Dsk Wal
set_option linter.unusedVariables false
set_option linter.unusedSimpArgs false

theorem rep_len (gen : Int) (rd : Nat → List UInt8) (m : Nat) : ∀ (f i : Nat) (op : List Nt) (out : List (List Nt)) (b : Nat), op.length ≤ i → out.length ≤ i → i + f ≤ 100 → (∀ l ∈ out, l.length ≤ 100) →
    (rep gen rd m f i op out b).1.length ≤ 100 ∧ ∀ l ∈ (rep gen rd m f i op out b).1, l.length ≤ 100
  | 0, i, op, out, b, h1, h2, h3, h4 => ⟨by show out.length ≤ _; omega, h4⟩
  | f + 1, i, op, out, b, h1, h2, h3, h4 => by
    have base : out.length ≤ 100 ∧ ∀ l ∈ out, l.length ≤ 100 := ⟨by omega, h4⟩
    rw [rep]
    split
    · simp only
      split
      · exact base
      · split
        · split
          · exact base
          · refine rep_len gen rd m f (i + 1) [] _ _ (by simp) (by simp; omega) (by omega) (fun l hl => ?_)
            rcases List.mem_append.1 hl with q | q
            · exact h4 l q
            · rw [List.mem_singleton.1 q]; omega
        · split
          · exact rep_len gen rd m f (i + 1) _ _ _ (by simp; omega) (by omega) (by omega) h4
          · exact base
    · exact base
theorem replayD_len (D : Dv) (gen : Int) : (replayD D gen).1.1.length ≤ 100 ∧ ∀ l ∈ (replayD D gen).1.1, l.length ≤ 100 := by
  unfold replayD
  split
  · exact ⟨by simp, by simp⟩
  · split
    · exact ⟨by simp, by simp⟩
    · exact rep_len _ _ _ 21 0 [] [] 0 (by simp) (by simp) (by omega) (by simp)
theorem DevAt.rty {w w' : World} {B b C : Nat} {D : Dv} (h : DevAt w B b D) (t : Tm w w' C rty) : DevAt w' B b D := h.tm t (by decide) (by decide) (by decide) (by decide) (by decide) (by decide)
theorem RDevAt.dty {w w' : World} {B b C : Nat} {D : Dv} (h : RDevAt w B b D) (t : Tm w w' C dty) : RDevAt w' B b D := h.tm t (by decide) (by decide) (by decide) (by decide)
set_option maxRecDepth 20000 in
theorem walReads_s (s : List UInt8) (hs : s.length ≤ 140737488355328) (gen : Int) (g0 : -9223372036854775808 ≤ gen) (g1 : gen ≤ 9223372036854775807) (w : World) :
    Ret Try.prog 4 [str s, .int .i64 gen] w fun v w' => v = .bool true ∧ Ext w w' := by
  have bye : ∀ w', Ext w w' → Ret Try.prog 7 [] w' fun v w'' => v = .bool true ∧ Ext w w'' := fun w' hx => (awake_s w').mono fun _ _ h => ⟨h.1, Ext.trans hx h.2⟩
  refine Ret.enter Try.func4 rfl Try.ntmps4 (by kernel_rfl) rfl ?_
  refine KW.seq (KW.region ?_)
  refine OW.val rfl rfl (EX.assign rfl) ?_
  refine OW.nil ?_
  refine KW.seq (KW.seq (KW.region ?_))
  refine OW.val rfl rfl (EX.move rfl) ?_
  refine OW.val rfl rfl (EX.lenS Try.underlying9 rfl) ?_
  refine OW.val rfl rfl (by first | exact EX.gtrN (b := 30000) rfl rfl | exact EX.gtrZ rfl rfl) ?_
  refine OW.nil ?_
  refine KW.condD rfl (fun q1 => ?_) (fun q1 => ?_)
  · refine KW.seq (KW.region ?_)
    refine OW.call rfl rfl rfl (bye w (Ext.refl _)) ?_
    rintro _ w1 ⟨rfl, hx1⟩
    refine OW.val rfl rfl (EX.assign rfl) ?_
    refine OW.nil ?_
    refine KW.ret (ret1 rfl rfl ?_)
    exact ⟨rfl, hx1⟩
  · refine KW.skip (KW.seq (KW.region ?_))
    refine OW.val rfl rfl (EX.move rfl) ?_
    refine OW.call rfl rfl rfl (load_s 60 (by decide) (by decide) s hs w) ?_
    rintro _ w1 ⟨p1, e1, rfl, hx1, hor1⟩
    refine OW.val rfl rfl (EX.move rfl) ?_
    refine OW.val rfl rfl (EX.extract rfl rfl) ?_
    refine OW.val rfl rfl (EX.extract rfl rfl) ?_
    refine OW.val rfl rfl (EX.assign rfl) ?_
    refine OW.val rfl rfl (EX.assign rfl) ?_
    refine OW.nil ?_
    refine KW.seq (KW.region ?_)
    refine OW.val rfl rfl (EX.move rfl) ?_
    refine OW.call rfl rfl rfl (rload_s 60 (by decide) (by decide) s hs w1) ?_
    rintro _ w2 ⟨p2, e2, rfl, hx2, hor2⟩
    refine OW.val rfl rfl (EX.move rfl) ?_
    refine OW.val rfl rfl (EX.extract rfl rfl) ?_
    refine OW.val rfl rfl (EX.extract rfl rfl) ?_
    refine OW.val rfl rfl (EX.assign rfl) ?_
    refine OW.val rfl rfl (EX.assign rfl) ?_
    refine OW.nil ?_
    refine KW.seq (KW.seq (KW.region ?_))
    refine OW.val rfl rfl (EX.move rfl) ?_
    refine OW.val rfl rfl (EX.move rfl) ?_
    refine OW.val rfl rfl (by first | exact EX.neqN rfl rfl | exact EX.neqZ rfl rfl) ?_
    refine OW.nil ?_
    have x2 := hx1.trans hx2
    rcases hor1 with ⟨n1, rfl, rfl⟩ | ⟨m1, b, rfl, rfl, hdev1⟩
    · obtain ⟨rfl, rfl⟩ : p2 = .pointer none ∧ e2 = 2 := by
        rcases hor2 with ⟨_, z1, z2⟩ | ⟨z, _⟩
        · exact ⟨z1, z2⟩
        · exact absurd z n1
      refine KW.condD rfl (fun z => ?_) (fun z => ?_)
      · exact absurd rfl z
      · refine KW.skip (KW.seq (KW.seq (KW.region ?_)))
        refine OW.val rfl rfl (EX.move rfl) ?_
        refine OW.val rfl rfl (by first | exact EX.eqlP1 Try.underlying36 rfl rfl | exact EX.eqlP0 Try.underlying36 rfl rfl) ?_
        refine OW.nil ?_
        refine KW.condT rfl (KW.seq (KW.region ?_))
        refine OW.call rfl rfl rfl (bye w2 x2) ?_
        rintro _ w3 ⟨rfl, hx3⟩
        refine OW.val rfl rfl (EX.assign rfl) ?_
        refine OW.nil ?_
        refine KW.ret (ret1 rfl rfl ?_)
        exact ⟨rfl, hx3⟩
    · obtain ⟨rb, rfl, rfl, hrd2⟩ : ∃ rb, p2 = .pointer (some ⟨rb, 0, none⟩) ∧ e2 = 0 ∧ RDevAt w2 w1.heap.size rb (fresh (60 : Int).toNat s) := by
        rcases hor2 with ⟨z, _⟩ | ⟨_, rb, z1, z2, z3⟩
        · exact absurd m1 z
        · exact ⟨rb, z1, z2, z3⟩
      obtain ⟨m2, m3, m4, m5⟩ := id m1
      have hF : (fresh (60 : Int).toNat s).Ok := fresh_ok (by decide) m4 (by have : ((60 : Int).toNat) = 60 := rfl; omega)
      have hS : Sm (fresh (60 : Int).toNat s) 0 := ⟨Nat.le_refl _, Nat.le_refl _, Nat.zero_le _, Nat.zero_le _⟩
      have hnow : (replayed (fresh (60 : Int).toNat s) gen).now = s := rfl
      have hrl := replayD_len (fresh (60 : Int).toNat s) gen
      have hRok := replayed_ok hF gen
      have hdev2 := hdev1.ext hx2
      generalize fresh (60 : Int).toNat s = D at *
      refine KW.condD rfl (fun z => ?_) (fun z => ?_)
      · exact absurd rfl z
      · refine KW.skip (KW.seq (KW.seq (KW.region ?_)))
        refine OW.val rfl rfl (EX.move rfl) ?_
        refine OW.val rfl rfl (by first | exact EX.eqlP1 Try.underlying36 rfl rfl | exact EX.eqlP0 Try.underlying36 rfl rfl) ?_
        refine OW.nil ?_
        refine KW.condF rfl (KW.skip (KW.seq (KW.region ?_)))
        refine OW.val rfl rfl (EX.move rfl) ?_
        refine OW.val rfl rfl (EX.move rfl) ?_
        refine OW.call rfl rfl rfl (replay_s hF hS (by decide) w.heap.size b gen w2 hdev2) ?_
        rintro _ w3 ⟨⟨vl, vsl, rfl, ownl, txl⟩, hdev3, tm3⟩
        obtain ⟨Al, cl, rfl, _, sll⟩ := ownl.slice
        refine OW.val rfl rfl (EX.move rfl) ?_
        refine OW.val rfl rfl (EX.extract rfl rfl) ?_
        refine OW.val rfl rfl (EX.extract rfl rfl) ?_
        refine OW.val rfl rfl (EX.extract rfl rfl) ?_
        refine OW.val rfl rfl (EX.assign rfl) ?_
        refine OW.val rfl rfl (EX.assign rfl) ?_
        refine OW.val rfl rfl (EX.assign rfl) ?_
        refine OW.nil ?_
        refine KW.seq (KW.region ?_)
        refine OW.val rfl rfl (EX.move rfl) ?_
        refine OW.val rfl rfl (EX.move rfl) ?_
        have x3 : Ext w w3 := Tm.below x2 tm3 x2.size (Nat.le_refl _)
        have hrd3 := hrd2.dty tm3
        refine OW.call rfl rfl rfl (rreplay_s hF (show D.calls ≤ 0 from hS.calls) (by decide) w1.heap.size rb gen w3 hrd3) ?_
        rintro _ w4 ⟨⟨vm, vsm, rfl, ownm, txm⟩, hrd4, tm4⟩
        obtain ⟨Am, cm, rfl, _, slm⟩ := ownm.slice
        refine OW.val rfl rfl (EX.move rfl) ?_
        refine OW.val rfl rfl (EX.extract rfl rfl) ?_
        refine OW.val rfl rfl (EX.extract rfl rfl) ?_
        refine OW.val rfl rfl (EX.extract rfl rfl) ?_
        refine OW.val rfl rfl (EX.assign rfl) ?_
        refine OW.val rfl rfl (EX.assign rfl) ?_
        refine OW.val rfl rfl (EX.assign rfl) ?_
        refine OW.nil ?_
        refine KW.seq ?_
        have x4 : Ext w w4 := Tm.below x3 tm4 x3.size hx1.size
        have own4 := tm4.own ownl (by decide)
        have tx4 := txl.tm tm4 (by decide)
        have hdev4 := hdev3.rty tm4
        obtain ⟨Al', cl', e1, _, sl4⟩ := own4.slice
        cases e1
        refine KW.region ?_
        refine OW.val rfl rfl (EX.move rfl) ?_
        refine OW.val rfl rfl (EX.move rfl) ?_
        refine OW.call rfl rfl rfl (same_s _ _ vsl vsm Al Am cl cm w4 _ _ _ _ sl4 slm tx4.txs txm.txs (by omega) (fun l hl => by have := hrl.2 l hl; omega)) ?_
        rintro _ w5 ⟨rfl, hx5⟩
        refine OW.val rfl rfl (EX.move rfl) ?_
        refine OW.as 52 (.bool true) rfl (congrArg Value.bool (decide_eq_true (rfl))) ?_
        refine OW.val rfl rfl (EX.move rfl) ?_
        refine OW.val rfl rfl (EX.move rfl) ?_
        refine OW.val rfl rfl (by first | exact EX.eqlN rfl rfl | exact EX.eqlZ rfl rfl) ?_
        refine OW.val rfl rfl (EX.pickT rfl rfl) ?_
        refine OW.val rfl rfl (EX.move rfl) ?_
        refine OW.as 57 (.bool true) rfl (congrArg Value.bool (decide_eq_true (rfl))) ?_
        refine OW.val rfl rfl (EX.move rfl) ?_
        refine OW.val rfl rfl (EX.move rfl) ?_
        refine OW.val rfl rfl (by first | exact EX.eqlN rfl rfl | exact EX.eqlZ rfl rfl) ?_
        refine OW.val rfl rfl (EX.pickT rfl rfl) ?_
        refine OW.val rfl rfl (EX.move rfl) ?_
        refine OW.as 62 (.bool true) rfl (congrArg Value.bool (decide_eq_true (rfl))) ?_
        refine OW.val rfl rfl (EX.move rfl) ?_
        refine OW.call rfl rfl rfl (image_d (hdev4.ext hx5) hRok) ?_
        rintro _ _ ⟨rfl, rfl⟩
        refine OW.val rfl rfl (EX.move rfl) ?_
        refine OW.val rfl rfl (EX.eqlS rfl rfl) ?_
        refine OW.val rfl rfl (EX.pickT rfl rfl) ?_
        refine OW.val rfl rfl (EX.move rfl) ?_
        refine OW.as 68 (.bool true) rfl (congrArg Value.bool (decide_eq_true (hnow))) ?_
        refine OW.call rfl rfl rfl (bye w5 (Ext.trans x4 hx5)) ?_
        rintro _ w6 ⟨rfl, hx6⟩
        refine OW.val rfl rfl (EX.pickT rfl rfl) ?_
        refine OW.val rfl rfl (EX.assign rfl) ?_
        refine OW.nil ?_
        refine KW.ret (ret1 rfl rfl ?_)
        exact ⟨rfl, hx6⟩
end Go.Proofs.Ytlpnoogcdnfllaa
/- disk: the document's device: changes are done, the power goes. -/
namespace Go.Proofs.Ytlpnoogcdnfllaa
set_option linter.unnecessarySimpa false
open Go.RowKit Dsk
set_option linter.unusedVariables false
set_option linter.unusedSimpArgs false

theorem strs_one (l : List (List UInt8)) : ∀ u ∈ l.map str, u.oneCell' = true := by
  intro u hu
  obtain ⟨_, _, rfl⟩ := List.mem_map.1 hu
  rfl
theorem bytesV_zerosW (n : Nat) : bytesV (zeros n) = List.replicate n (.int .u8 0) := by simp [bytesV, zeros]
theorem nought_s (w : World) : Ret Try.prog 95 [] w fun v w' => v = str (zeros 512) ∧ Ext w w' := by
  refine Ret.enter Try.func95 rfl Try.ntmps95 (by kernel_rfl) rfl ?_
  refine KW.seq (KW.region ?_)
  refine OW.val rfl rfl (EX.assign rfl) ?_
  refine OW.nil ?_
  refine KW.seq (KW.region ?_)
  refine OW.makeB (len := 512) rfl rfl Try.underlying80 ti5 rfl rfl rfl (by omega) (by omega) ?_
  rintro g w1 hge1 hg1 hx1
  have hg2 : Bk w1 g 5 (bytesV (zeros 512)) := by rw [bytesV_zerosW]; exact hg1
  refine OW.val rfl rfl (EX.strOf Try.underlying80 Try.underlying5 Try.underlying9 rfl (hg2.sl) (zeros_length 512)) ?_
  refine OW.val rfl rfl (EX.assign rfl) ?_
  refine OW.nil ?_
  refine KW.ret (ret1 rfl rfl ?_)
  exact ⟨rfl, hx1⟩
set_option maxRecDepth 20000 in
theorem done_s (c : Ch) {cap : Nat} (hc : c.ok cap) (hcap : cap ≤ 4096) (s : List UInt8) (hm : s.length % 512 = 0) (hs : s.length ≤ 512 * cap) (A : Option Addr) (k C : Nat) (w : World) (hsl : Sl w C A (secsV s)) :
    Ret Try.prog 85 [.slice A (s.length / 512) k, .agg (chV c).toArray] w fun v w' => Own w' w.heap.size 9 1 v ((c.ap s).length / 512) (secsV (c.ap s)) ∧ Ext w w' := by
  have hn := scrs_length s
  have hnl : (secsV s).length = s.length / 512 * 1 := by rw [List.length_map, hn, Nat.mul_one]
  generalize hN : s.length / 512 = n at hn hnl
  have hnb : n ≤ 4096 := by omega
  cases c with
  | write i t =>
    obtain ⟨hi, ht⟩ := hc
    have hres := scrs_write (i := i) hm ht
    have hlen : ((Ch.write i t).ap s).length / 512 = max n (i + 1) := by rw [lenWrite ht hm, ← hN]; omega
    rw [hN] at hres
    refine Ret.enter Try.func85 rfl Try.ntmps85 (by kernel_rfl) rfl ?_
    refine KW.seq (KW.region ?_)
    refine OW.boxS rfl rfl rfl ?_
    rintro cb w1 hge1 hb1 hx1
    refine OW.val rfl rfl (EX.assign rfl) ?_
    refine OW.nil ?_
    refine KW.seq (KW.region ?_)
    replace hb1 : Bk w1 cb 124 [.bool false, .int .i64 (i : Int), str t] := hb1
    refine OW.buildB 0 rfl rfl Try.underlying61 ti9 rfl rfl rfl rfl (by first | rfl | (simp only [List.all_cons, List.all_nil, Bool.and_true, Bool.and_eq_true]; assumption)) (by decide) ?_
    rintro eb w2 hge2 he2 hx2
    refine OW.val rfl rfl (EX.move rfl) ?_
    have x2 := hx1.trans hx2
    have owne : Own w2 w.heap.size 9 1 (.slice (some ⟨eb, 0, none⟩) 0 0) 0 [] := ⟨rfl, .inr ⟨eb, 0, [], rfl, by have := hx1.size; omega, he2, rfl, Nat.le_refl _, by decide⟩⟩
    refine OW.appendX rfl rfl Try.underlying61 ti9 rfl (by decide) rfl rfl (x2) (owne) (Src.of_sl Try.underlying61 ((hsl.ext hx1).ext hx2) hnl (strs_one _) (by decide)) (by simp only [maxLen]; omega) (by omega) ?_
    rintro v3 w3 hown3 hx3 hg3 _
    refine OW.val rfl rfl (EX.assign rfl) ?_
    refine OW.nil ?_
    refine KW.seq (KW.seq (KW.region ?_))
    refine OW.val rfl rfl (EX.fieldAddr (off := 0) Try.underlying124 rfl rfl ti4 rfl rfl) ?_
    have hb3 := (hb1.ext hx2).grown hg3 (by simp [Value.ownBlock]; have := hb1.lt; omega)
    refine OW.val rfl rfl (EX.load Try.underlying4 rfl rfl (hb3.cell_of rfl)) ?_
    refine OW.nil ?_
    refine KW.condF rfl (KW.skip (KW.seq (KW.block ?_)))
    refine KW.loop3 (fun (j : Nat) (v : Value) (wr : World) => j ≤ i + 1 - n ∧ Own wr w.heap.size 9 1 v (n + j) ((scrs s ++ List.replicate j (zeros 512)).map str) ∧ Bk wr cb 124 [.bool false, .int .i64 (i : Int), str t] ∧ Ext w wr) (fun (j : Nat) (v : Value) (wr : World) => [(3, .pointer (some ⟨cb, 0, none⟩)), (5, v)]) (fun (j : Nat) (v : Value) (wr : World) => wr) (fun (j : Nat) (v : Value) (wr : World) => i + 1 - n - j) (0) (v3) (w3) ⟨rfl, rfl, trivial⟩ rfl ?_ ?_
    · refine ⟨by omega, ?_, hb3, hx3⟩
      rw [Nat.zero_add, List.nil_append] at hown3
      simpa using hown3
    · rintro j v wr ⟨hj, hown, hb, hx⟩
      have hown0 := hown
      obtain ⟨A4, c4, rfl, _, _⟩ := hown0.slice
      refine KW.seq (KW.seq (KW.region ?_))
      refine OW.val rfl rfl (EX.move rfl) ?_
      refine OW.val rfl rfl (EX.lenA Try.underlying61 rfl) ?_
      refine OW.val rfl rfl (EX.fieldAddr (off := 1) Try.underlying124 rfl rfl ti3 rfl rfl) ?_
      refine OW.val rfl rfl (EX.load Try.underlying3 rfl rfl (hb.cell_of rfl)) ?_
      refine OW.val rfl rfl (by first | exact EX.leqN rfl rfl | exact EX.leqZ rfl rfl) ?_
      refine OW.nil ?_
      refine KW.condD rfl (fun hle => ?_) (fun hle => ?_)
      · refine KW.skip (KW.block (KW.region ?_))
        refine OW.val rfl rfl (EX.move rfl) ?_
        refine OW.call rfl rfl rfl (nought_s wr) ?_
        rintro _ w5 ⟨rfl, hx5⟩
        refine OW.push rfl rfl (fun _ => rfl) rfl Try.underlying61 ti9 rfl rfl (fun _ => rfl) rfl ((hx.trans hx5)) ((hown.ext hx5)) (by simp only [maxLen]; omega) (by omega) ?_
        rintro _ v6 w6 hown6 hx6 hg6 _
        refine OW.val rfl rfl (EX.assign rfl) ?_
        refine OW.nil ?_
        refine KW.leave ?_
        have hb6 : Bk w6 cb 124 [.bool false, .int .i64 (i : Int), str t] := by
          refine (hb.ext hx5).grown hg6 ?_
          intro q
          exact ((hown.ext hx5).ne (hb.ext hx5) (by decide)) cb q.symm rfl
        refine KW.back3 (j + 1) (v6) (w6) ⟨rfl, rfl, trivial⟩ rfl ?_ (by omega)
        refine ⟨by omega, ?_, hb6, hx6⟩
        rw [List.replicate_succ', ← List.append_assoc, List.map_append]
        exact hown6
      · have hje : j = i + 1 - n := by omega
        have hxl : 0 < ((scrs s ++ List.replicate j (zeros 512)).map str).length := by rw [List.length_map, List.length_append, hn, List.length_replicate]; omega
        obtain ⟨g, cap4, rest, e4, hBg, hbk, hl4, hc4, hm4⟩ := hown.blk hxl
        cases e4
        refine KW.exit rfl (KW.seq (KW.region ?_))
        refine OW.val rfl rfl (EX.move rfl) ?_
        refine OW.val rfl rfl (EX.fieldAddr (off := 1) Try.underlying124 rfl rfl ti3 rfl rfl) ?_
        refine OW.val rfl rfl (EX.load Try.underlying3 rfl rfl (hb.cell_of rfl)) ?_
        refine OW.val rfl rfl (EX.fieldAddr (off := 2) Try.underlying124 rfl rfl ti9 rfl rfl) ?_
        refine OW.val rfl rfl (EX.load Try.underlying9 rfl rfl (hb.cell_of rfl)) ?_
        refine OW.val rfl rfl (by first | exact EX.indexAddrS0 Try.underlying61 ti9 rfl rfl (by omega) | exact EX.indexAddrS1 Try.underlying61 ti9 rfl rfl (by omega)) ?_
        refine OW.storeB rfl ti9 rfl rfl (by first | rfl | assumption | exact Own.one (by assumption)) (hbk) (by rw [List.length_append]; omega) ?_
        rintro w5 hb5 hm5
        refine OW.nil ?_
        refine KW.seq (KW.region ?_)
        refine OW.val rfl rfl (EX.move rfl) ?_
        refine OW.val rfl rfl (EX.assign rfl) ?_
        refine OW.nil ?_
        refine KW.ret (ret1 rfl rfl ?_)
        refine ⟨?_, below_mo hx hm5 hx.size (fun k hk => by simp at hk; omega)⟩
        have hxs : ((scrs s ++ List.replicate j (zeros 512)).map str).length = n + j := by rw [List.length_map, List.length_append, hn, List.length_replicate]
        have e5 : secsV ((Ch.write i t).ap s) = ((scrs s ++ List.replicate j (zeros 512)).map str).set i (str t) := by rw [hje, secsV, hres, List.map_set]
        rw [hlen, e5, show max n (i + 1) = n + j by omega]
        refine ⟨by rw [List.length_set, hxs, Nat.mul_one], .inr ⟨g, _, rest, rfl, hBg, ?_, by rw [List.length_set]; exact hl4, hc4, hm4⟩⟩
        have e6 := List.set_append_left (s := (scrs s ++ List.replicate j (zeros 512)).map str) (t := rest) i (str t) (by omega)
        rw [← e6]
        have e7 : 0 + i = i := Nat.zero_add i
        first | exact hb5 | (rw [e7] at hb5; exact hb5)
  | cut m =>
    have hres := scrs_cut (n := m) hm
    have hmc : m ≤ 4096 := by have : m ≤ cap := hc; omega
    have hlen : ((Ch.cut m).ap s).length / 512 = min n m := by
      have e : (Ch.cut m).ap s = s.take (min s.length (m * 512)) := rfl
      rw [e, List.length_take, ← hN]
      omega
    refine Ret.enter Try.func85 rfl Try.ntmps85 (by kernel_rfl) rfl ?_
    refine KW.seq (KW.region ?_)
    refine OW.boxS rfl rfl rfl ?_
    rintro cb w1 hge1 hb1 hx1
    refine OW.val rfl rfl (EX.assign rfl) ?_
    refine OW.nil ?_
    refine KW.seq (KW.region ?_)
    replace hb1 : Bk w1 cb 124 [.bool true, .int .i64 (m : Int), str []] := hb1
    refine OW.buildB 0 rfl rfl Try.underlying61 ti9 rfl rfl rfl rfl (by first | rfl | (simp only [List.all_cons, List.all_nil, Bool.and_true, Bool.and_eq_true]; assumption)) (by decide) ?_
    rintro eb w2 hge2 he2 hx2
    refine OW.val rfl rfl (EX.move rfl) ?_
    have x2 := hx1.trans hx2
    have owne : Own w2 w.heap.size 9 1 (.slice (some ⟨eb, 0, none⟩) 0 0) 0 [] := ⟨rfl, .inr ⟨eb, 0, [], rfl, by have := hx1.size; omega, he2, rfl, Nat.le_refl _, by decide⟩⟩
    refine OW.appendX rfl rfl Try.underlying61 ti9 rfl (by decide) rfl rfl (x2) (owne) (Src.of_sl Try.underlying61 ((hsl.ext hx1).ext hx2) hnl (strs_one _) (by decide)) (by simp only [maxLen]; omega) (by omega) ?_
    rintro v3 w3 hown3 hx3 hg3 _
    have hb3 := (hb1.ext hx2).grown hg3 (by simp [Value.ownBlock]; have := hb1.lt; omega)
    rw [Nat.zero_add, List.nil_append] at hown3
    obtain ⟨A4, c4, rfl, _, _⟩ := hown3.slice
    refine OW.val rfl rfl (EX.assign rfl) ?_
    refine OW.nil ?_
    refine KW.seq (KW.seq (KW.region ?_))
    refine OW.val rfl rfl (EX.fieldAddr (off := 0) Try.underlying124 rfl rfl ti4 rfl rfl) ?_
    refine OW.val rfl rfl (EX.load Try.underlying4 rfl rfl (hb3.cell_of rfl)) ?_
    refine OW.nil ?_
    refine KW.condT rfl (KW.seq (KW.seq (KW.region ?_)))
    refine OW.val rfl rfl (EX.move rfl) ?_
    refine OW.val rfl rfl (EX.lenA Try.underlying61 rfl) ?_
    refine OW.val rfl rfl (EX.fieldAddr (off := 1) Try.underlying124 rfl rfl ti3 rfl rfl) ?_
    refine OW.val rfl rfl (EX.load Try.underlying3 rfl rfl (hb3.cell_of rfl)) ?_
    refine OW.val rfl rfl (by first | exact EX.gtrN rfl rfl | exact EX.gtrZ rfl rfl) ?_
    refine OW.nil ?_
    refine KW.condD rfl (fun hgt => ?_) (fun hgt => ?_)
    · refine KW.region ?_
      refine OW.val rfl rfl (EX.move rfl) ?_
      refine OW.val rfl rfl (EX.fieldAddr (off := 1) Try.underlying124 rfl rfl ti3 rfl rfl) ?_
      refine OW.val rfl rfl (EX.load Try.underlying3 rfl rfl (hb3.cell_of rfl)) ?_
      refine OW.ownFH rfl rfl Try.underlying61 ti9 rfl rfl (hown3) (by omega) ?_
      rintro v5 hown5 hbl5
      refine OW.val rfl rfl (EX.assign rfl) ?_
      refine OW.nil ?_
      refine KW.seq (KW.region ?_)
      refine OW.val rfl rfl (EX.move rfl) ?_
      refine OW.val rfl rfl (EX.assign rfl) ?_
      refine OW.nil ?_
      refine KW.ret (ret1 rfl rfl ?_)
      refine ⟨?_, hx3⟩
      rw [hlen, secsV, hres, show min n m = m by omega, List.map_take]
      simpa using hown5
    · refine KW.skip (KW.seq (KW.region ?_))
      refine OW.val rfl rfl (EX.move rfl) ?_
      refine OW.val rfl rfl (EX.assign rfl) ?_
      refine OW.nil ?_
      refine KW.ret (ret1 rfl rfl ?_)
      refine ⟨?_, hx3⟩
      rw [hlen, secsV, hres, show min n m = n by omega, List.take_of_length_le (by omega)]
      exact hown3
end Go.Proofs.Ytlpnoogcdnfllaa
/- disk: the document's device: the power goes, or a change is done. -/
namespace Go.Proofs.Ytlpnoogcdnfllaa
set_option linter.unnecessarySimpa false
open Go.RowKit Dsk
set_option linter.unusedVariables false
set_option linter.unusedSimpArgs false

/-- the document's device's own block is changed -/
def rdy (T : TypeId) : Bool := T == 64
theorem RDev.ext {w w' : World} {B b : Nat} {D : Dv} {vS vN vP vK : Value} (h : RDev w B b D vS vN vP vK) (hx : Ext w w') : RDev w' B b D vS vN vP vK :=
  ⟨h.lo, h.cells.ext hx, h.synced.ext hx, h.now.ext hx, h.pend.ext hx, h.keep.ext hx⟩
theorem chs_at {w : World} {B T n c bP oP k : Nat} {l : List Ch} (h : Own w B T 3 (.slice (some ⟨bP, oP, none⟩) n c) n (chsV l)) (hk : k < l.length) : ∀ j u, (chV l[k])[j]? = some u → w.cell? ⟨bP, oP + k * 3 + j, none⟩ = some u := by
  obtain ⟨A, c', e, _, hs⟩ := h.slice
  cases e
  obtain ⟨b', o', e, _, hc⟩ := hs.flat (cells := chV) (c := 3) (fun a => by cases a <;> rfl) (by decide) hk
  cases e
  exact hc
theorem RDev.tmS {w w' : World} {B b : Nat} {l0 : List Value} (hlo : B ≤ b) (h0 : Bk w b 64 l0) (hm : Mo w w' [b]) : Tm w w' B rdy := (Tm.set h0 hm hlo).mono fun T hT => by simp at hT; simp [rdy, hT]
section
variable {w : World} {B b : Nat} {D : Dv}
set_option maxRecDepth 20000 in
theorem rfalls_d (h : RDevAt w B b D) (hD : D.Ok) (hp : D.pend.length ≤ 1000000) (ha : D.at_ ≤ 9223372036854775807) (hk : D.keep.length ≤ 140737488355328) :
    Ret Try.prog 67 [.pointer (some ⟨b, 0, none⟩)] w fun v w' => v = .bool D.falls.2 ∧ RDevAt w' B b D.falls.1 ∧ Tm w w' B rdy := by
  have h0 := h
  have hcap := hD.cap
  obtain ⟨vS, vN, vP, vK, hv⟩ := h
  have hlo := hv.lo
  have hbl := hv.cells.lt
  obtain ⟨AP, cP, rfl, _, slP⟩ := hv.pend.slice
  obtain ⟨AK, cK, rfl, _, slK⟩ := hv.keep.slice
  refine Ret.enter Try.func67 rfl Try.ntmps67 (by kernel_rfl) rfl ?_
  refine KW.seq (KW.region ?_)
  refine OW.val rfl rfl (EX.assign rfl) ?_
  refine OW.nil ?_
  refine KW.seq (KW.seq (KW.region ?_))
  refine OW.val rfl rfl (EX.move rfl) ?_
  refine OW.val rfl rfl (EX.nilCheck rfl) ?_
  refine OW.val rfl rfl (EX.fieldAddr (off := 4) Try.underlying64 rfl rfl ti3 rfl rfl) ?_
  refine OW.val rfl rfl (EX.load Try.underlying3 rfl rfl (hv.cells.cell_of rfl)) ?_
  refine OW.val rfl rfl (by first | exact EX.eqlN (b := 0) rfl rfl | exact EX.eqlZ rfl rfl) ?_
  refine OW.nil ?_
  refine KW.condD rfl (fun a0 => ?_) (fun a0 => ?_)
  · have e : D.falls = (D, false) := by
      unfold Dv.falls
      rw [if_neg (by omega)]
      have : D.at_ - 1 = D.at_ := by omega
      rw [this]
    refine KW.seq (KW.region ?_)
    refine OW.val rfl rfl (EX.assign rfl) ?_
    refine OW.nil ?_
    refine KW.ret (ret1 rfl rfl ?_)
    rw [e]
    exact ⟨rfl, h0, Tm.refl _ _ _⟩
  · refine KW.skip (KW.seq (KW.region ?_))
    refine OW.val rfl rfl (EX.move rfl) ?_
    refine OW.val rfl rfl (EX.move rfl) ?_
    refine OW.val rfl rfl (EX.nilCheck rfl) ?_
    refine OW.val rfl rfl (EX.fieldAddr (off := 4) Try.underlying64 rfl rfl ti3 rfl rfl) ?_
    refine OW.val rfl rfl (EX.load Try.underlying3 rfl rfl (hv.cells.cell_of rfl)) ?_
    refine OW.val rfl rfl (by first | exact EX.subN (b := 1) (m := 9223372036854775807) rfl rfl rfl (by omega) | exact EX.subZ (m := 9223372036854775807) rfl rfl rfl rfl (by omega)) ?_
    refine OW.val rfl rfl (EX.nilCheck rfl) ?_
    refine OW.val rfl rfl (EX.fieldAddr (off := 4) Try.underlying64 rfl rfl ti3 rfl rfl) ?_
    refine OW.storeB rfl ti3 rfl rfl (by first | rfl | assumption | exact Own.one (by assumption)) (hv.cells) (by simp) ?_
    rintro w1 hb1 hm1
    refine OW.nil ?_
    refine KW.seq (KW.seq (KW.region ?_))
    refine OW.val rfl rfl (EX.move rfl) ?_
    refine OW.val rfl rfl (EX.nilCheck rfl) ?_
    refine OW.val rfl rfl (EX.fieldAddr (off := 4) Try.underlying64 rfl rfl ti3 rfl rfl) ?_
    have hv1 := RDev.after (D' := { D with at_ := D.at_ - 1 }) hlo hv.cells hm1 hb1 hv.synced hv.now hv.pend hv.keep
    have t1 := RDev.tmS hlo hv.cells hm1
    refine OW.val rfl rfl (EX.load Try.underlying3 rfl rfl (hv1.cells.cell_of rfl)) ?_
    refine OW.val rfl rfl (by first | exact EX.gtrN (b := 0) rfl rfl | exact EX.gtrZ rfl rfl) ?_
    refine OW.nil ?_
    refine KW.condD rfl (fun a1 => ?_) (fun a1 => ?_)
    · have a1' : 0 < D.at_ - 1 := a1
      have e : D.falls = ({ D with at_ := D.at_ - 1 }, false) := by unfold Dv.falls; rw [if_neg (by omega)]
      refine KW.seq (KW.region ?_)
      refine OW.val rfl rfl (EX.assign rfl) ?_
      refine OW.nil ?_
      refine KW.ret (ret1 rfl rfl ?_)
      rw [e]
      exact ⟨rfl, ⟨_, _, _, _, hv1⟩, t1⟩
    · have a1' : ¬ 0 < D.at_ - 1 := a1
      have e : D.falls = ({ D with kept := fallen D.pend D.keep D.kept, now := fallen D.pend D.keep D.kept, pend := [], at_ := 0, keep := [], dead := true }, true) := by unfold Dv.falls; rw [if_pos (by omega)]
      have ea : D.at_ - 1 = 0 := by omega
      refine KW.skip (KW.seq (KW.seq (KW.region ?_)))
      refine OW.val rfl rfl (EX.assign rfl) ?_
      refine OW.nil ?_
      refine KW.block ?_
      refine KW.loop3 (fun (k : Nat) (vS : Value) (wr : World) => k ≤ D.pend.length ∧ RDev wr B b { D with at_ := D.at_ - 1, kept := fallen (D.pend.take k) D.keep D.kept } vS vN (.slice AP D.pend.length cP) (.slice AK D.keep.length cK) ∧ Tm w wr B rdy) (fun (k : Nat) (vS : Value) (wr : World) => [(0, .pointer (some ⟨b, 0, none⟩)), (3, .int .i64 ((k : Nat) : Int))]) (fun (k : Nat) (vS : Value) (wr : World) => wr) (fun (k : Nat) (vS : Value) (wr : World) => D.pend.length - k) (0) (vS) (w1) ⟨rfl, rfl, trivial⟩ rfl ?_ ?_
      · exact ⟨by omega, hv1, t1⟩
      · rintro k vS wr ⟨hkl, hvr, tmr⟩
        obtain ⟨_, _, e2, _, slPr⟩ := hvr.pend.slice
        cases e2
        obtain ⟨_, _, e2, _, slKr⟩ := hvr.keep.slice
        cases e2
        have hblr := hvr.cells.lt
        refine KW.seq (KW.seq (KW.region ?_))
        refine OW.val rfl rfl (EX.move rfl) ?_
        refine OW.val rfl rfl (EX.move rfl) ?_
        refine OW.val rfl rfl (EX.nilCheck rfl) ?_
        refine OW.val rfl rfl (EX.fieldAddr (off := 3) Try.underlying64 rfl rfl ti62 rfl rfl) ?_
        refine OW.val rfl rfl (EX.load Try.underlying62 rfl rfl (hvr.cells.cell_of rfl)) ?_
        refine OW.val rfl rfl (EX.lenA Try.underlying62 rfl) ?_
        refine OW.val rfl rfl (by first | exact EX.lssN rfl rfl | exact EX.lssZ rfl rfl) ?_
        refine OW.nil ?_
        refine KW.condD rfl (fun hlt => ?_) (fun hlt => ?_)
        · have hltp : k < D.pend.length := hlt
          obtain ⟨bP, oP, rfl, _, _⟩ := slPr.flat (cells := chV) (c := 3) (fun a => by cases a <;> rfl) (by decide) hltp
          have hck := hD.pend D.pend[k] (List.getElem_mem hltp)
          have hstep := fallen_step (bs := D.keep) (all := D.kept) hltp
          have hfl := fallen_length (cap := D.cap) (D.pend.take k) D.keep D.kept (fun c hc => hD.pend c (List.mem_of_mem_take hc)) hD.kept hD.keptM
          refine KW.skip (KW.seq (KW.block (KW.seq ?_)))
          refine KW.region ?_
          refine OW.val rfl rfl (EX.move rfl) ?_
          refine OW.val rfl rfl (EX.move rfl) ?_
          refine OW.val rfl rfl (EX.nilCheck rfl) ?_
          refine OW.val rfl rfl (EX.fieldAddr (off := 5) Try.underlying64 rfl rfl ti43 rfl rfl) ?_
          refine OW.val rfl rfl (EX.load Try.underlying43 rfl rfl (hvr.cells.cell_of rfl)) ?_
          refine OW.val rfl rfl (EX.lenA Try.underlying43 rfl) ?_
          refine OW.val rfl rfl (by first | exact EX.lssN rfl rfl | exact EX.lssZ rfl rfl) ?_
          refine OW.val rfl rfl (EX.move rfl) ?_
          refine OW.splitD 38 rfl (fun p1 => ?_) (fun p1 => ?_)
          · have p1' : k < D.keep.length := p1
            have hgk : D.keep.getD k false = D.keep[k] := by rw [List.getD_eq_getElem?_getD, List.getElem?_eq_getElem p1']; rfl
            have hgv : (boolsV D.keep)[k]? = some (.bool D.keep[k]) := by unfold boolsV; rw [List.getElem?_map, List.getElem?_eq_getElem p1']; rfl
            obtain ⟨bK, oK, rfl, _, hcK⟩ := slKr.at_ (by show 0 < (boolsV D.keep).length; rw [boolsV_length]; omega)
            generalize D.keep[k] = q at hgk hgv
            refine OW.val rfl rfl (EX.move rfl) ?_
            refine OW.val rfl rfl (EX.nilCheck rfl) ?_
            refine OW.val rfl rfl (EX.fieldAddr (off := 5) Try.underlying64 rfl rfl ti43 rfl rfl) ?_
            refine OW.val rfl rfl (EX.load Try.underlying43 rfl rfl (hvr.cells.cell_of rfl)) ?_
            refine OW.val rfl rfl (EX.move rfl) ?_
            refine OW.val rfl rfl (by first | exact EX.indexAddrS0 Try.underlying43 ti4 rfl rfl (by omega) | exact EX.indexAddrS1 Try.underlying43 ti4 rfl rfl (by omega)) ?_
            refine OW.val rfl rfl (EX.load Try.underlying4 rfl rfl (hcK k _ hgv)) ?_
            refine OW.val rfl rfl (EX.pickT rfl rfl) ?_
            refine OW.nil ?_
            refine KW.cond rfl (fun p2 => ?_) (fun p2 => ?_)
            · rw [hgk, p2, if_pos rfl] at hstep
              have hvd := hvr.ext (Ext.drew wr)
              obtain ⟨AS, cS, rfl, _, slS⟩ := hvd.synced.slice
              refine KW.regionG (N := 16) (fun w' => (∃ u, Bk w' b 64 [.int .i64 (D.cap : Int), u, vN, .slice (some ⟨bP, oP, none⟩) D.pend.length cP, .int .i64 ((D.at_ - 1 : Nat) : Int), .slice (some ⟨bK, oK, none⟩) D.keep.length cK, .bool D.dead, .int .i64 (D.calls : Int)]) ∧ Own w' B 124 3 (.slice (some ⟨bP, oP, none⟩) D.pend.length cP) D.pend.length (chsV D.pend)) (by kernel_rfl) rfl ?_
              have hS := (⟨⟨_, hvd.cells⟩, hvd.pend⟩ : (∃ u, Bk wr.drew b 64 [.int .i64 (D.cap : Int), u, vN, .slice (some ⟨bP, oP, none⟩) D.pend.length cP, .int .i64 ((D.at_ - 1 : Nat) : Int), .slice (some ⟨bK, oK, none⟩) D.keep.length cK, .bool D.dead, .int .i64 (D.calls : Int)]) ∧ Own wr.drew B 124 3 (.slice (some ⟨bP, oP, none⟩) D.pend.length cP) D.pend.length (chsV D.pend))
              refine GW.val 0 rfl (by kernel_rfl) (by kernel_rfl) (by kernel_rfl) rfl rfl hS (fun w' hS' => EX.move rfl) ?_
              refine GW.val 1 rfl (by kernel_rfl) (by kernel_rfl) (by kernel_rfl) rfl rfl hS (fun w' hS' => EX.move rfl) ?_
              refine GW.val 2 rfl (by kernel_rfl) (by kernel_rfl) (by kernel_rfl) rfl rfl hS (fun w' hS' => EX.nilCheck rfl) ?_
              refine GW.val 3 rfl (by kernel_rfl) (by kernel_rfl) (by kernel_rfl) rfl rfl hS (fun w' hS' => EX.fieldAddr (off := 1) Try.underlying64 rfl rfl ti61 rfl rfl) ?_
              refine GW.val 5 rfl (by kernel_rfl) (by kernel_rfl) (by kernel_rfl) rfl rfl hS (fun w' hS' => EX.move rfl) ?_
              refine GW.val 6 rfl (by kernel_rfl) (by kernel_rfl) (by kernel_rfl) rfl rfl hS (fun w' hS' => EX.nilCheck rfl) ?_
              refine GW.val 7 rfl (by kernel_rfl) (by kernel_rfl) (by kernel_rfl) rfl rfl hS (fun w' hS' => EX.fieldAddr (off := 3) Try.underlying64 rfl rfl ti62 rfl rfl) ?_
              refine GW.val 8 rfl (by kernel_rfl) (by kernel_rfl) (by kernel_rfl) rfl rfl hS (fun w' hS' => EX.load Try.underlying62 rfl rfl ((hS'.1.choose_spec).cell_of rfl)) ?_
              refine GW.val 9 rfl (by kernel_rfl) (by kernel_rfl) (by kernel_rfl) rfl rfl hS (fun w' hS' => EX.move rfl) ?_
              refine GW.val 10 rfl (by kernel_rfl) (by kernel_rfl) (by kernel_rfl) rfl rfl hS (fun w' hS' => EX.indexAddrS Try.underlying62 ti124 rfl rfl (by omega)) ?_
              refine GW.val 11 rfl (by kernel_rfl) (by kernel_rfl) (by kernel_rfl) rfl rfl hS (fun w' hS' => EX.loadA (l := chV D.pend[k]) Try.underlying124 rfl ti124 rfl (by cases D.pend[k] <;> rfl) (chs_at hS'.2 hltp)) ?_
              refine GW.new 4 rfl (by kernel_rfl) rfl rfl (EX.load Try.underlying61 rfl rfl (hvd.cells.cell_of rfl)) ⟨hS, fun hS => ?_⟩
              refine GW.call 12 rfl (by kernel_rfl) rfl rfl rfl (done_s D.pend[k] hck hcap.2 (fallen (D.pend.take k) D.keep D.kept) hfl.2 hfl.1 AS cS _ wr.drew slS) ?_
              rintro v5 w5 ⟨hown5, hx5⟩
              refine ⟨⟨hS.1.imp fun u hu => hu.ext hx5, hS.2.ext hx5⟩, fun hS => ?_⟩
              refine GW.val 13 rfl (by kernel_rfl) (by kernel_rfl) (by kernel_rfl) rfl rfl hS (fun w' hS' => EX.nilCheck rfl) ?_
              refine GW.val 14 rfl (by kernel_rfl) (by kernel_rfl) (by kernel_rfl) rfl rfl hS (fun w' hS' => EX.fieldAddr (off := 1) Try.underlying64 rfl rfl ti61 rfl rfl) ?_
              have hv5 := hvd.ext hx5
              refine GW.storeB 15 rfl (by kernel_rfl) rfl ti61 rfl rfl (by first | rfl | assumption | exact Own.one (by assumption)) (hv5.cells) (by simp) ?_
              rintro w6 hb6 hm6
              refine ⟨⟨⟨_, hb6⟩, (Tm.set hv5.cells hm6 hlo).own hS.2 rfl⟩, fun hS => ?_⟩
              refine GW.done (by kernel_rfl) ?_
              refine KW.leave (KW.region ?_)
              refine OW.val rfl rfl (EX.move rfl) ?_
              refine OW.val rfl rfl (by first | exact EX.addN (b := 1) (m := 9223372036854775807) rfl rfl rfl (by omega) | exact EX.addZ (m := 9223372036854775807) rfl rfl rfl rfl (by omega)) ?_
              refine OW.val rfl rfl (EX.assign rfl) ?_
              refine OW.nil ?_
              have z5 : B ≤ wr.drew.heap.size := by show B ≤ wr.heap.size; omega
              have hv6 := RDev.after (D' := { D with at_ := D.at_ - 1, kept := fallen (D.pend.take (k + 1)) D.keep D.kept }) hlo hv5.cells hm6 hb6 (by rw [hstep]; exact hown5.more z5) hv5.now hv5.pend hv5.keep
              refine KW.back3 (k + 1) (v5) (w6) ⟨rfl, rfl, trivial⟩ rfl ?_ (by omega)
              exact ⟨by omega, hv6, ((tmr.trans (Tm.of_ext (Ext.drew wr) B rdy)).trans (Tm.of_ext hx5 B rdy)).trans (RDev.tmS hlo hv5.cells hm6)⟩
            · rw [hgk, p2, if_neg (by decide)] at hstep
              refine KW.skip (KW.leave (KW.region ?_))
              refine OW.val rfl rfl (EX.move rfl) ?_
              refine OW.val rfl rfl (by first | exact EX.addN (b := 1) (m := 9223372036854775807) rfl rfl rfl (by omega) | exact EX.addZ (m := 9223372036854775807) rfl rfl rfl rfl (by omega)) ?_
              refine OW.val rfl rfl (EX.assign rfl) ?_
              refine OW.nil ?_
              refine KW.back3 (k + 1) (vS) (wr) ⟨rfl, rfl, trivial⟩ rfl ?_ (by omega)
              refine ⟨by omega, ?_, tmr⟩
              rw [hstep]
              exact hvr
          · have p1' : ¬ k < D.keep.length := p1
            have hgk : D.keep.getD k false = false := by rw [List.getD_eq_getElem?_getD, List.getElem?_eq_none (by omega)]; rfl
            rw [hgk, if_neg (by decide)] at hstep
            refine OW.pass rfl rfl ?_
            refine OW.pass rfl rfl ?_
            refine OW.pass rfl rfl ?_
            refine OW.pass rfl rfl ?_
            refine OW.pass rfl rfl ?_
            refine OW.pass rfl rfl ?_
            refine OW.pass rfl rfl ?_
            refine OW.val rfl rfl (EX.pickF rfl rfl) ?_
            refine OW.nil ?_
            refine KW.condF rfl (KW.skip (KW.leave (KW.region ?_)))
            refine OW.val rfl rfl (EX.move rfl) ?_
            refine OW.val rfl rfl (by first | exact EX.addN (b := 1) (m := 9223372036854775807) rfl rfl rfl (by omega) | exact EX.addZ (m := 9223372036854775807) rfl rfl rfl rfl (by omega)) ?_
            refine OW.val rfl rfl (EX.assign rfl) ?_
            refine OW.nil ?_
            refine KW.back3 (k + 1) (vS) (wr) ⟨rfl, rfl, trivial⟩ rfl ?_ (by omega)
            refine ⟨by omega, ?_, tmr⟩
            rw [hstep]
            exact hvr
        · obtain rfl : k = D.pend.length := by have : ¬ k < D.pend.length := hlt; omega
          have hfull : fallen (D.pend.take D.pend.length) D.keep D.kept = fallen D.pend D.keep D.kept := by rw [List.take_length]
          rw [hfull] at hvr
          have hso := hvr.synced.one
          refine KW.exit rfl (KW.seq (KW.region ?_))
          refine OW.val rfl rfl (EX.move rfl) ?_
          refine OW.val rfl rfl (EX.move rfl) ?_
          refine OW.val rfl rfl (EX.nilCheck rfl) ?_
          refine OW.val rfl rfl (EX.fieldAddr (off := 1) Try.underlying64 rfl rfl ti61 rfl rfl) ?_
          refine OW.val rfl rfl (EX.load Try.underlying61 rfl rfl (hvr.cells.cell_of rfl)) ?_
          refine OW.val rfl rfl (EX.nilCheck rfl) ?_
          refine OW.val rfl rfl (EX.fieldAddr (off := 2) Try.underlying64 rfl rfl ti61 rfl rfl) ?_
          refine OW.storeB rfl ti61 rfl rfl (by first | rfl | assumption | exact Own.one (by assumption)) (hvr.cells) (by simp) ?_
          rintro w2 hb2 hm2
          refine OW.nil ?_
          refine KW.seq (KW.region ?_)
          refine OW.val rfl rfl (EX.move rfl) ?_
          refine OW.val rfl rfl (EX.nilCheck rfl) ?_
          refine OW.val rfl rfl (EX.fieldAddr (off := 3) Try.underlying64 rfl rfl ti62 rfl rfl) ?_
          have t2 := RDev.tmS hlo hvr.cells hm2
          refine OW.storeB rfl ti62 rfl rfl (by first | rfl | assumption | exact Own.one (by assumption)) (hb2) (by simp) ?_
          rintro w3 hb3 hm3
          refine OW.nil ?_
          refine KW.seq (KW.region ?_)
          refine OW.val rfl rfl (EX.move rfl) ?_
          refine OW.val rfl rfl (EX.nilCheck rfl) ?_
          refine OW.val rfl rfl (EX.fieldAddr (off := 5) Try.underlying64 rfl rfl ti43 rfl rfl) ?_
          have t3 := RDev.tmS hlo hb2 hm3
          refine OW.storeB rfl ti43 rfl rfl (by first | rfl | assumption | exact Own.one (by assumption)) (hb3) (by simp) ?_
          rintro w4 hb4 hm4
          refine OW.nil ?_
          refine KW.seq (KW.region ?_)
          refine OW.val rfl rfl (EX.move rfl) ?_
          refine OW.val rfl rfl (EX.nilCheck rfl) ?_
          refine OW.val rfl rfl (EX.fieldAddr (off := 6) Try.underlying64 rfl rfl ti4 rfl rfl) ?_
          have t4 := RDev.tmS hlo hb3 hm4
          refine OW.storeB rfl ti4 rfl rfl (by first | rfl | assumption | exact Own.one (by assumption)) (hb4) (by simp) ?_
          rintro w5 hb5 hm5
          refine OW.nil ?_
          refine KW.seq (KW.region ?_)
          refine OW.val rfl rfl (EX.assign rfl) ?_
          refine OW.nil ?_
          have t5 := RDev.tmS hlo hb4 hm5
          have tt := ((t2.trans t3).trans t4).trans t5
          refine KW.ret (ret1 rfl rfl ?_)
          rw [e]
          refine ⟨rfl, ⟨vS, vS, .slice none 0 0, .slice none 0 0, ⟨hlo, ?_, tt.own hvr.synced rfl, tt.own hvr.synced rfl, Own.nil _ _ _ _, Own.nil _ _ _ _⟩⟩, tmr.trans tt⟩
          rw [ea] at hb5
          exact hb5
end
end Go.Proofs.Ytlpnoogcdnfllaa
/- disk: the document's device: its methods. -/
namespace Go.Proofs.Ytlpnoogcdnfllaa
set_option linter.unnecessarySimpa false
open Go.RowKit Dsk
set_option linter.unusedVariables false
set_option linter.unusedSimpArgs false

theorem chV_one (c : Ch) : ∀ u ∈ chV c, u.oneCell' = true := by
  intro u hu
  cases c <;> simp only [chV, List.mem_cons, List.not_mem_nil, or_false] at hu <;> rcases hu with rfl | rfl | rfl <;> rfl
theorem falls_same {D : Dv} (h : D.falls.2 = false) : D.falls.1 = { D with at_ := D.at_ - 1 } := by
  unfold Dv.falls at h ⊢
  split
  · rename_i q
    rw [if_pos q] at h
    cases h
  · rfl
theorem rdy_rty {w w' : World} {B : Nat} (t : Tm w w' B rdy) : Tm w w' B rty := t.mono fun T hT => by simp only [rdy, beq_iff_eq] at hT; simp [rty, hT]
section
variable {w : World} {B b : Nat} {D : Dv}
set_option maxRecDepth 20000 in
theorem change_d (h : RDevAt w B b D) (hD : D.Ok) (c : Ch) (hc : c.ok D.cap) (hcl : D.calls ≤ 1000000) (hp : D.pend.length ≤ 900000) (ha : D.at_ ≤ 9223372036854775807) (hk : D.keep.length ≤ 140737488355328) :
    Ret Try.prog 66 [.pointer (some ⟨b, 0, none⟩), .agg (chV c).toArray] w fun v w' => v = .int .i64 (((D.does (some c)).2 : Nat) : Int) ∧ RDevAt w' B b (D.does (some c)).1 ∧ Tm w w' B rty := by
  have hcap := hD.cap
  have hdf := does_falls D (some c)
  have hcl3 : (chV c).length = 3 := by cases c <;> rfl
  have hpo := pushed_ok hD (c := some c) (fun d hd => by cases hd; exact hc)
  obtain ⟨vS, vN, vP, vK, hv⟩ := h
  have hlo := hv.lo
  have hbl := hv.cells.lt
  refine Ret.enter Try.func66 rfl Try.ntmps66 (by kernel_rfl) rfl ?_
  refine KW.seq (KW.region ?_)
  refine OW.boxS rfl rfl rfl ?_
  rintro cb w1 hge1 hcb1 hx1
  refine OW.val rfl rfl (EX.assign rfl) ?_
  refine OW.nil ?_
  refine KW.seq ?_
  have hv1 := hv.ext hx1
  have hvd := hv1.ext (Ext.drew w1)
  have hcbd : Bk w1.drew cb 124 (chV c) := hcb1
  refine KW.cut2 (fun (v4 : Value) (w5 : World) => RDev w5 B b (D.pushed (some c)) vS vN v4 vK ∧ Bk w5 cb 124 (chV c) ∧ Tm w w5 B rty) (fun (v4 : Value) (w5 : World) => [(0, .pointer (some ⟨b, 0, none⟩)), (3, .pointer (some ⟨cb, 0, none⟩))]) (fun (v4 : Value) (w5 : World) => w5) ?_ ?_
  · refine KW.regionG (N := 11) (fun w' => (∃ u, Bk w' b 64 [.int .i64 (D.cap : Int), vS, vN, u, .int .i64 (D.at_ : Int), vK, .bool D.dead, .int .i64 (D.calls : Int)]) ∧ Bk w' cb 124 (chV c)) (by kernel_rfl) rfl ?_
    have hS := (⟨⟨_, hvd.cells⟩, hcbd⟩ : (∃ u, Bk w1.drew b 64 [.int .i64 (D.cap : Int), vS, vN, u, .int .i64 (D.at_ : Int), vK, .bool D.dead, .int .i64 (D.calls : Int)]) ∧ Bk w1.drew cb 124 (chV c))
    refine GW.val 0 rfl (by kernel_rfl) (by kernel_rfl) (by kernel_rfl) rfl rfl hS (fun w' hS' => EX.move rfl) ?_
    refine GW.val 1 rfl (by kernel_rfl) (by kernel_rfl) (by kernel_rfl) rfl rfl hS (fun w' hS' => EX.move rfl) ?_
    refine GW.val 2 rfl (by kernel_rfl) (by kernel_rfl) (by kernel_rfl) rfl rfl hS (fun w' hS' => EX.nilCheck rfl) ?_
    refine GW.val 3 rfl (by kernel_rfl) (by kernel_rfl) (by kernel_rfl) rfl rfl hS (fun w' hS' => EX.fieldAddr (off := 3) Try.underlying64 rfl rfl ti62 rfl rfl) ?_
    refine GW.val 5 rfl (by kernel_rfl) (by kernel_rfl) (by kernel_rfl) rfl rfl hS (fun w' hS' => EX.loadBk Try.underlying124 rfl ti124 rfl (hS'.2) (by cases c <;> rfl)) ?_
    refine GW.two 4 6 (by kernel_rfl) ?_ ?_
    · refine GO.new 4 rfl rfl rfl (EX.load Try.underlying62 rfl rfl (hvd.cells.cell_of rfl)) ⟨hS, fun hS => ?_⟩
      refine GW.buildG 6 1 ([chV c]) rfl (by kernel_rfl) rfl rfl Try.underlying62 ti124 rfl (by decide) rfl rfl rfl (by repeat' (first | exact List.forall_mem_nil _ | refine List.forall_mem_cons.2 ⟨by first | rfl | assumption, ?_⟩)) (by decide) ?_
      rintro nb w3 hge3 hn3 hx3
      refine ⟨⟨hS.1.imp fun u hu => hu.ext hx3, hS.2.ext hx3⟩, fun hS => ?_⟩
      have hn3' : Bk w3 nb 124 (chV c) := by simpa using hn3
      have hv3 := hvd.ext hx3
      have hcb3 := hcbd.ext hx3
      refine GW.append 7 0 rfl (by kernel_rfl) rfl rfl Try.underlying62 ti124 rfl (by decide) rfl rfl ((hv3.pend.more (Nat.zero_le _))) (Src.of_sl Try.underlying62 hn3'.sl (by cases c <;> rfl) (chV_one c) (by decide)) (by simp only [maxLen]; omega) (by omega) (Nat.zero_le _) ?_
      rintro v4 w4 hown4 hg4 hq4
      have t4 := Tm.grown hv3.pend hg4
      have hcb4 : Bk w4 cb 124 (chV c) := hcb3.grown hg4 (fun q => by have := hv.pend.lt cb q.symm; omega)
      have hd4 := t4.bk hv3.cells (by decide)
      refine ⟨⟨⟨_, hd4⟩, hcb4⟩, fun hS => ?_⟩
      refine GW.val 8 rfl (by kernel_rfl) (by kernel_rfl) (by kernel_rfl) rfl rfl hS (fun w' hS' => EX.nilCheck rfl) ?_
      refine GW.val 9 rfl (by kernel_rfl) (by kernel_rfl) (by kernel_rfl) rfl rfl hS (fun w' hS' => EX.fieldAddr (off := 3) Try.underlying64 rfl rfl ti62 rfl rfl) ?_
      have hown4' : Own w4 B 124 3 v4 (D.pend ++ [c]).length (chsV (D.pend ++ [c])) := by
        have e1 : chsV (D.pend ++ [c]) = chsV D.pend ++ chV c := by simp
        rw [List.length_append, List.length_singleton, e1]
        refine hown4.base (fun k hk => ?_)
        rcases hq4 with e | e
        · exact (hv.pend.lt k (by rw [← e]; exact hk)).1
        · rw [e] at hk; injection hk with hk; have := hx3.size; have : w1.drew.heap.size = w1.heap.size := rfl; have := hx1.size; omega
      have hv41 := hown4'.one
      refine GW.storeB 10 rfl (by kernel_rfl) rfl ti62 rfl rfl (by first | rfl | assumption | exact Own.one (by assumption)) (hd4) (by simp) ?_
      rintro w5 hb5 hm5
      refine ⟨⟨⟨_, hb5⟩, hcb4.mo hm5 (by simp; exact hd4.ne hcb4 (by decide) |>.symm)⟩, fun hS => ?_⟩
      refine GW.done (by kernel_rfl) ?_
      have hcb5 : Bk w5 cb 124 (chV c) := hcb4.mo hm5 (by simp; exact (hd4.ne hcb4 (by decide)).symm)
      refine KW.meet2 (v4) (w5) ⟨rfl, rfl, trivial⟩ rfl ?_
      have tx : Tm w w3 B rty := (Tm.of_ext (hx1.trans (Ext.drew w1)) B rty).trans (Tm.of_ext hx3 B rty)
      exact ⟨RDev.after (D' := D.pushed (some c)) hlo hd4 hm5 hb5 (t4.own hv3.synced (by decide)) (t4.own hv3.now (by decide)) hown4' (t4.own hv3.keep (by decide)), hcb5, (tx.trans (t4.mono fun T hT => by simp at hT; simp [rty, hT])).trans (RDev.tmD hlo hd4 hm5)⟩
    · refine GO.buildG 6 1 ([chV c]) rfl rfl rfl Try.underlying62 ti124 rfl (by decide) rfl rfl rfl (by repeat' (first | exact List.forall_mem_nil _ | refine List.forall_mem_cons.2 ⟨by first | rfl | assumption, ?_⟩)) (by decide) ?_
      rintro nb w3 hge3 hn3 hx3
      refine ⟨⟨hS.1.imp fun u hu => hu.ext hx3, hS.2.ext hx3⟩, fun hS => ?_⟩
      refine GW.new 4 rfl (by kernel_rfl) rfl rfl (EX.load Try.underlying62 rfl rfl ((hvd.ext hx3).cells.cell_of rfl)) ⟨hS, fun hS => ?_⟩
      have hn3' : Bk w3 nb 124 (chV c) := by simpa using hn3
      have hv3 := hvd.ext hx3
      have hcb3 := hcbd.ext hx3
      refine GW.append 7 0 rfl (by kernel_rfl) rfl rfl Try.underlying62 ti124 rfl (by decide) rfl rfl ((hv3.pend.more (Nat.zero_le _))) (Src.of_sl Try.underlying62 hn3'.sl (by cases c <;> rfl) (chV_one c) (by decide)) (by simp only [maxLen]; omega) (by omega) (Nat.zero_le _) ?_
      rintro v4 w4 hown4 hg4 hq4
      have t4 := Tm.grown hv3.pend hg4
      have hcb4 : Bk w4 cb 124 (chV c) := hcb3.grown hg4 (fun q => by have := hv.pend.lt cb q.symm; omega)
      have hd4 := t4.bk hv3.cells (by decide)
      refine ⟨⟨⟨_, hd4⟩, hcb4⟩, fun hS => ?_⟩
      refine GW.val 8 rfl (by kernel_rfl) (by kernel_rfl) (by kernel_rfl) rfl rfl hS (fun w' hS' => EX.nilCheck rfl) ?_
      refine GW.val 9 rfl (by kernel_rfl) (by kernel_rfl) (by kernel_rfl) rfl rfl hS (fun w' hS' => EX.fieldAddr (off := 3) Try.underlying64 rfl rfl ti62 rfl rfl) ?_
      have hown4' : Own w4 B 124 3 v4 (D.pend ++ [c]).length (chsV (D.pend ++ [c])) := by
        have e1 : chsV (D.pend ++ [c]) = chsV D.pend ++ chV c := by simp
        rw [List.length_append, List.length_singleton, e1]
        refine hown4.base (fun k hk => ?_)
        rcases hq4 with e | e
        · exact (hv.pend.lt k (by rw [← e]; exact hk)).1
        · rw [e] at hk; injection hk with hk; have := hx3.size; have : w1.drew.heap.size = w1.heap.size := rfl; have := hx1.size; omega
      have hv41 := hown4'.one
      refine GW.storeB 10 rfl (by kernel_rfl) rfl ti62 rfl rfl (by first | rfl | assumption | exact Own.one (by assumption)) (hd4) (by simp) ?_
      rintro w5 hb5 hm5
      refine ⟨⟨⟨_, hb5⟩, hcb4.mo hm5 (by simp; exact hd4.ne hcb4 (by decide) |>.symm)⟩, fun hS => ?_⟩
      refine GW.done (by kernel_rfl) ?_
      have hcb5 : Bk w5 cb 124 (chV c) := hcb4.mo hm5 (by simp; exact (hd4.ne hcb4 (by decide)).symm)
      refine KW.meet2 (v4) (w5) ⟨rfl, rfl, trivial⟩ rfl ?_
      have tx : Tm w w3 B rty := (Tm.of_ext (hx1.trans (Ext.drew w1)) B rty).trans (Tm.of_ext hx3 B rty)
      exact ⟨RDev.after (D' := D.pushed (some c)) hlo hd4 hm5 hb5 (t4.own hv3.synced (by decide)) (t4.own hv3.now (by decide)) hown4' (t4.own hv3.keep (by decide)), hcb5, (tx.trans (t4.mono fun T hT => by simp at hT; simp [rty, hT])).trans (RDev.tmD hlo hd4 hm5)⟩
  · rintro v4 w5 ⟨hv5, hcb5, t5⟩
    have hpl : (D.pushed (some c)).pend.length = D.pend.length + 1 := by simp [Dv.pushed]
    refine KW.seq (KW.seq (KW.region ?_))
    refine OW.val rfl rfl (EX.move rfl) ?_
    refine OW.call rfl rfl rfl (rfalls_d ⟨_, _, _, _, hv5⟩ hpo (by rw [hpl]; omega) ha hk) ?_
    rintro _ w6 ⟨rfl, hv6, t6⟩
    refine OW.nil ?_
    have hfo := falls_ok hpo
    have hcb6 := t6.bk hcb5 (by decide)
    have t06 := t5.trans (rdy_rty t6)
    refine KW.cond rfl (fun hf => ?_) (fun hf => ?_)
    · refine KW.seq (KW.region ?_)
      refine OW.val rfl rfl (EX.assign rfl) ?_
      refine OW.nil ?_
      refine KW.ret (ret1 rfl rfl ?_)
      rw [hdf, if_pos hf]
      exact ⟨rfl, hv6, t06⟩
    · rw [hf, if_neg (by decide)] at hdf
      have hfs := falls_same hf
      have hec : (D.pushed (some c)).falls.1.cap = D.cap := by rw [hfs]; rfl
      have hecl : (D.pushed (some c)).falls.1.calls = D.calls := by rw [hfs]; rfl
      generalize (D.pushed (some c)).falls.1 = E at hv6 hfo hdf hec hecl
      have hen := hfo.now
      have henm := hfo.nowM
      obtain ⟨uS, uN, uP, uK, hvE⟩ := hv6
      have hvEd := hvE.ext (Ext.drew w6)
      have hcb6d : Bk w6.drew cb 124 (chV c) := hcb6
      obtain ⟨AN, cN, rfl, _, slN⟩ := hvEd.now.slice
      have hblE := hvE.cells.lt
      refine KW.skip (KW.seq ?_)
      refine KW.regionG (N := 10) (fun w' => (∃ u, Bk w' b 64 [.int .i64 (E.cap : Int), uS, u, uP, .int .i64 (E.at_ : Int), uK, .bool E.dead, .int .i64 (E.calls : Int)]) ∧ Bk w' cb 124 (chV c)) (by kernel_rfl) rfl ?_
      have hS := (⟨⟨_, hvEd.cells⟩, hcb6d⟩ : (∃ u, Bk w6.drew b 64 [.int .i64 (E.cap : Int), uS, u, uP, .int .i64 (E.at_ : Int), uK, .bool E.dead, .int .i64 (E.calls : Int)]) ∧ Bk w6.drew cb 124 (chV c))
      refine GW.val 0 rfl (by kernel_rfl) (by kernel_rfl) (by kernel_rfl) rfl rfl hS (fun w' hS' => EX.move rfl) ?_
      refine GW.val 1 rfl (by kernel_rfl) (by kernel_rfl) (by kernel_rfl) rfl rfl hS (fun w' hS' => EX.move rfl) ?_
      refine GW.val 2 rfl (by kernel_rfl) (by kernel_rfl) (by kernel_rfl) rfl rfl hS (fun w' hS' => EX.nilCheck rfl) ?_
      refine GW.val 3 rfl (by kernel_rfl) (by kernel_rfl) (by kernel_rfl) rfl rfl hS (fun w' hS' => EX.fieldAddr (off := 2) Try.underlying64 rfl rfl ti61 rfl rfl) ?_
      refine GW.val 5 rfl (by kernel_rfl) (by kernel_rfl) (by kernel_rfl) rfl rfl hS (fun w' hS' => EX.loadBk Try.underlying124 rfl ti124 rfl (hS'.2) (by cases c <;> rfl)) ?_
      refine GW.new 4 rfl (by kernel_rfl) rfl rfl (EX.load Try.underlying61 rfl rfl (hvEd.cells.cell_of rfl)) ⟨hS, fun hS => ?_⟩
      refine GW.call 6 rfl (by kernel_rfl) rfl rfl rfl (done_s c (by rw [← hec] at hc; exact hc) (by omega) E.now henm hen AN cN _ w6.drew slN) ?_
      rintro v8 w8 ⟨hown8, hx8⟩
      refine ⟨⟨hS.1.imp fun u hu => hu.ext hx8, hS.2.ext hx8⟩, fun hS => ?_⟩
      refine GW.val 7 rfl (by kernel_rfl) (by kernel_rfl) (by kernel_rfl) rfl rfl hS (fun w' hS' => EX.nilCheck rfl) ?_
      refine GW.val 8 rfl (by kernel_rfl) (by kernel_rfl) (by kernel_rfl) rfl rfl hS (fun w' hS' => EX.fieldAddr (off := 2) Try.underlying64 rfl rfl ti61 rfl rfl) ?_
      have hv8 := hvEd.ext hx8
      refine GW.storeB 9 rfl (by kernel_rfl) rfl ti61 rfl rfl (by first | rfl | assumption | exact Own.one (by assumption)) (hv8.cells) (by simp) ?_
      rintro w9 hb9 hm9
      refine ⟨⟨⟨_, hb9⟩, hS.2.mo hm9 (by simp; exact (hv8.cells.ne hS.2 (by decide)).symm)⟩, fun hS => ?_⟩
      refine GW.done (by kernel_rfl) ?_
      refine KW.seq (KW.region ?_)
      refine OW.val rfl rfl (EX.move rfl) ?_
      refine OW.val rfl rfl (EX.nilCheck rfl) ?_
      refine OW.val rfl rfl (EX.fieldAddr (off := 7) Try.underlying64 rfl rfl ti3 rfl rfl) ?_
      have z8 : B ≤ w6.drew.heap.size := by show B ≤ w6.heap.size; omega
      have hv9 := RDev.after (D' := { E with now := c.ap E.now }) hlo hv8.cells hm9 hb9 hv8.synced (hown8.more z8) hv8.pend hv8.keep
      have hc9 : Bk w9 b 64 [.int .i64 (E.cap : Int), uS, v8, uP, .int .i64 (E.at_ : Int), uK, .bool E.dead, .int .i64 (E.calls : Int)] := hv9.cells
      refine OW.val rfl rfl (EX.load Try.underlying3 rfl rfl (hc9.cell_of rfl)) ?_
      refine OW.val rfl rfl (by first | exact EX.addN (b := 1) (m := 9223372036854775807) rfl rfl rfl (by omega) | exact EX.addZ (m := 9223372036854775807) rfl rfl rfl rfl (by omega)) ?_
      refine OW.val rfl rfl (EX.nilCheck rfl) ?_
      refine OW.val rfl rfl (EX.fieldAddr (off := 7) Try.underlying64 rfl rfl ti3 rfl rfl) ?_
      refine OW.storeB rfl ti3 rfl rfl (by first | rfl | assumption | exact Own.one (by assumption)) (hc9) (by simp) ?_
      rintro w10 hb10 hm10
      refine OW.nil ?_
      refine KW.seq (KW.region ?_)
      refine OW.val rfl rfl (EX.assign rfl) ?_
      refine OW.nil ?_
      have hv10 := RDev.after (D' := { E with now := c.ap E.now, calls := E.calls + 1 }) hlo hc9 hm10 hb10 hv9.synced hv9.now hv9.pend hv9.keep
      refine KW.ret (ret1 rfl rfl ?_)
      rw [hdf]
      exact ⟨rfl, ⟨_, _, _, _, hv10⟩, (((t06.trans (Tm.of_ext (Ext.drew w6) B rty)).trans (Tm.of_ext hx8 B rty)).trans (RDev.tmD hlo hv8.cells hm9)).trans (RDev.tmD hlo hv9.cells hm10)⟩
theorem rwrite_d (h : RDevAt w B b D) (hD : D.Ok) (hs : Small D) (hp : D.pend.length ≤ 900000) (i : Int) (i0 : -9223372036854775808 ≤ i) (i1 : i ≤ 9223372036854775807) (s : List UInt8) (hsl : s.length ≤ 140737488355328) :
    Ret Try.prog 48 [.pointer (some ⟨b, 0, none⟩), .int .i64 i, str s] w fun v w' => v = .int .i64 (((D.write i s).2 : Nat) : Int) ∧ RDevAt w' B b (D.write i s).1 ∧ Tm w w' B rty := by
  have h0 := h
  have hcap := hD.cap
  obtain ⟨vS, vN, vP, vK, hv⟩ := h
  refine Ret.enter Try.func48 rfl Try.ntmps48 (by kernel_rfl) rfl ?_
  refine KW.seq (KW.region ?_)
  refine OW.val rfl rfl (EX.assign rfl) ?_
  refine OW.nil ?_
  refine KW.seq (KW.seq (KW.region ?_))
  refine OW.val rfl rfl (EX.move rfl) ?_
  refine OW.val rfl rfl (by first | exact EX.eqlP1 Try.underlying36 rfl rfl | exact EX.eqlP0 Try.underlying36 rfl rfl) ?_
  refine OW.nil ?_
  refine KW.condF rfl (KW.skip (KW.seq (KW.seq (KW.region ?_))))
  refine OW.val rfl rfl (EX.move rfl) ?_
  refine OW.val rfl rfl (EX.nilCheck rfl) ?_
  refine OW.val rfl rfl (EX.fieldAddr (off := 6) Try.underlying64 rfl rfl ti4 rfl rfl) ?_
  refine OW.val rfl rfl (EX.load Try.underlying4 rfl rfl (hv.cells.cell_of rfl)) ?_
  refine OW.nil ?_
  refine KW.cond rfl (fun hd => ?_) (fun hd => ?_)
  · have e : D.write i s = (D, 190) := by unfold Dv.write; rw [hd]; rfl
    refine KW.seq (KW.region ?_)
    refine OW.val rfl rfl (EX.assign rfl) ?_
    refine OW.nil ?_
    refine KW.ret (ret1 rfl rfl ?_)
    rw [e]
    exact ⟨rfl, h0, Tm.refl _ _ _⟩
  · have no : (i < 0 ∨ (D.cap : Int) ≤ i) → D.write i s = (D, 191) := fun q => by unfold Dv.write; rw [hd, if_neg (by simp), if_pos q]
    refine KW.skip (KW.seq (KW.seq ?_))
    refine KW.region ?_
    refine OW.val rfl rfl (EX.move rfl) ?_
    refine OW.val rfl rfl (by first | exact EX.lssN (b := 0) rfl rfl | exact EX.lssZ rfl rfl) ?_
    refine OW.val rfl rfl (EX.move rfl) ?_
    refine OW.splitD 15 rfl (fun a1 => ?_) (fun a1 => ?_)
    · refine OW.pass rfl rfl ?_
      refine OW.pass rfl rfl ?_
      refine OW.pass rfl rfl ?_
      refine OW.pass rfl rfl ?_
      refine OW.pass rfl rfl ?_
      refine OW.pass rfl rfl ?_
      refine OW.val rfl rfl (EX.pickT rfl rfl) ?_
      refine OW.nil ?_
      refine KW.condT rfl (KW.seq (KW.region ?_))
      refine OW.val rfl rfl (EX.assign rfl) ?_
      refine OW.nil ?_
      refine KW.ret (ret1 rfl rfl ?_)
      rw [no (.inl a1)]
      exact ⟨rfl, h0, Tm.refl _ _ _⟩
    · refine OW.val rfl rfl (EX.move rfl) ?_
      refine OW.val rfl rfl (EX.move rfl) ?_
      refine OW.val rfl rfl (EX.nilCheck rfl) ?_
      refine OW.val rfl rfl (EX.fieldAddr (off := 0) Try.underlying64 rfl rfl ti3 rfl rfl) ?_
      refine OW.val rfl rfl (EX.load Try.underlying3 rfl rfl (hv.cells.cell_of rfl)) ?_
      refine OW.val rfl rfl (by first | exact EX.geqN rfl rfl | exact EX.geqZ rfl rfl) ?_
      refine OW.val rfl rfl (EX.pickF rfl rfl) ?_
      refine OW.nil ?_
      refine KW.condD rfl (fun a2 => ?_) (fun a2 => ?_)
      · refine KW.seq (KW.region ?_)
        refine OW.val rfl rfl (EX.assign rfl) ?_
        refine OW.nil ?_
        refine KW.ret (ret1 rfl rfl ?_)
        rw [no (.inr a2)]
        exact ⟨rfl, h0, Tm.refl _ _ _⟩
      · refine KW.skip (KW.seq (KW.seq (KW.region ?_)))
        refine OW.val rfl rfl (EX.move rfl) ?_
        refine OW.val rfl rfl (EX.lenS Try.underlying9 rfl) ?_
        refine OW.val rfl rfl (by first | exact EX.neqN (b := 512) rfl rfl | exact EX.neqZ rfl rfl) ?_
        refine OW.nil ?_
        refine KW.condD rfl (fun a3 => ?_) (fun a3 => ?_)
        · have e : D.write i s = (D, 2) := by unfold Dv.write; rw [hd, if_neg (by simp), if_neg (by omega), if_pos a3]
          refine KW.seq (KW.region ?_)
          refine OW.val rfl rfl (EX.assign rfl) ?_
          refine OW.nil ?_
          refine KW.ret (ret1 rfl rfl ?_)
          rw [e]
          exact ⟨rfl, h0, Tm.refl _ _ _⟩
        · obtain ⟨j, rfl⟩ := Int.eq_ofNat_of_zero_le (show 0 ≤ i by omega)
          have e : D.write (j : Int) s = D.does (some (.write j s)) := by unfold Dv.write; rw [hd, if_neg (by simp), if_neg (by omega), if_neg a3]; rfl
          refine KW.skip (KW.seq (KW.region ?_))
          refine OW.val rfl rfl (EX.move rfl) ?_
          refine OW.val rfl rfl (EX.move rfl) ?_
          refine OW.val rfl rfl (EX.move rfl) ?_
          refine OW.val rfl rfl (EX.buildS (pl := [(0, 1), (1, 1), (2, 1)]) (ks := [1, 2]) (is := [1, 2]) (zs := [.bool false, .int .i64 0, str []]) Try.underlying124 ti124 (by kernel_rfl) rfl rfl rfl (by first | rfl | (simp only [List.all_cons, List.all_nil, Bool.and_true, Bool.true_and, Bool.and_eq_true, Value.oneCell']; repeat (first | assumption | exact Own.one (by assumption) | constructor))) (by simp only [setAll, List.set_cons_zero, List.set_cons_succ]; rfl)) ?_
          refine OW.call rfl rfl rfl (change_d h0 hD (.write j s) ⟨by omega, Classical.not_not.1 a3⟩ hs.calls hp hs.at_ hs.keep) ?_
          rintro _ w2 ⟨rfl, h2, t2⟩
          refine OW.val rfl rfl (EX.assign rfl) ?_
          refine OW.nil ?_
          refine KW.ret (ret1 rfl rfl ?_)
          rw [e]
          exact ⟨rfl, h2, t2⟩
set_option maxRecDepth 20000 in
theorem rsync_d (h : RDevAt w B b D) (hD : D.Ok) (hs : Small D) : Ret Try.prog 49 [.pointer (some ⟨b, 0, none⟩)] w fun v w' => v = .int .i64 ((D.sync.2 : Nat) : Int) ∧ RDevAt w' B b D.sync.1 ∧ Tm w w' B rty := by
  have h0 := h
  have hdf := does_falls D none
  have hpe : D.pushed none = D := rfl
  rw [hpe] at hdf
  obtain ⟨vS, vN, vP, vK, hv⟩ := h
  have hlo := hv.lo
  refine Ret.enter Try.func49 rfl Try.ntmps49 (by kernel_rfl) rfl ?_
  refine KW.seq (KW.region ?_)
  refine OW.val rfl rfl (EX.assign rfl) ?_
  refine OW.nil ?_
  refine KW.seq (KW.seq (KW.region ?_))
  refine OW.val rfl rfl (EX.move rfl) ?_
  refine OW.val rfl rfl (by first | exact EX.eqlP1 Try.underlying36 rfl rfl | exact EX.eqlP0 Try.underlying36 rfl rfl) ?_
  refine OW.nil ?_
  refine KW.condF rfl (KW.skip (KW.seq (KW.seq ?_)))
  refine KW.region ?_
  refine OW.val rfl rfl (EX.move rfl) ?_
  refine OW.val rfl rfl (EX.nilCheck rfl) ?_
  refine OW.val rfl rfl (EX.fieldAddr (off := 6) Try.underlying64 rfl rfl ti4 rfl rfl) ?_
  refine OW.val rfl rfl (EX.load Try.underlying4 rfl rfl (hv.cells.cell_of rfl)) ?_
  refine OW.val rfl rfl (EX.move rfl) ?_
  rcases hd : D.dead with _ | _
  · have e : D.sync = D.does none := by unfold Dv.sync; rw [if_neg (by rw [hd]; decide)]
    refine OW.val rfl rfl (EX.move rfl) ?_
    refine OW.call rfl rfl rfl (rfalls_d h0 hD hs.pend hs.at_ hs.keep) ?_
    rintro _ w1 ⟨rfl, h1, t1⟩
    refine OW.val rfl rfl (EX.pickF rfl rfl) ?_
    refine OW.nil ?_
    have hfo := falls_ok hD
    refine KW.cond rfl (fun hf => ?_) (fun hf => ?_)
    · refine KW.seq (KW.region ?_)
      refine OW.val rfl rfl (EX.assign rfl) ?_
      refine OW.nil ?_
      refine KW.ret (ret1 rfl rfl ?_)
      rw [e, hdf, if_pos hf]
      exact ⟨rfl, h1, rdy_rty t1⟩
    · rw [hf, if_neg (by decide)] at hdf
      have hfs := falls_same hf
      have hecl : D.falls.1.calls ≤ 1000000 := by rw [hfs]; exact hs.calls
      generalize D.falls.1 = E at h1 hfo hdf hecl
      obtain ⟨uS, uN, uP, uK, hvE⟩ := h1
      have hno := hvE.now.one
      refine KW.skip (KW.seq (KW.region ?_))
      refine OW.val rfl rfl (EX.move rfl) ?_
      refine OW.val rfl rfl (EX.move rfl) ?_
      refine OW.val rfl rfl (EX.nilCheck rfl) ?_
      refine OW.val rfl rfl (EX.fieldAddr (off := 2) Try.underlying64 rfl rfl ti61 rfl rfl) ?_
      refine OW.val rfl rfl (EX.load Try.underlying61 rfl rfl (hvE.cells.cell_of rfl)) ?_
      refine OW.val rfl rfl (EX.nilCheck rfl) ?_
      refine OW.val rfl rfl (EX.fieldAddr (off := 1) Try.underlying64 rfl rfl ti61 rfl rfl) ?_
      refine OW.storeB rfl ti61 rfl rfl (by first | rfl | assumption | exact Own.one (by assumption)) (hvE.cells) (by simp) ?_
      rintro w2 hb2 hm2
      refine OW.nil ?_
      refine KW.seq (KW.region ?_)
      refine OW.val rfl rfl (EX.move rfl) ?_
      refine OW.val rfl rfl (EX.nilCheck rfl) ?_
      refine OW.val rfl rfl (EX.fieldAddr (off := 3) Try.underlying64 rfl rfl ti62 rfl rfl) ?_
      have t2 := RDev.tmS hlo hvE.cells hm2
      refine OW.storeB rfl ti62 rfl rfl (by first | rfl | assumption | exact Own.one (by assumption)) (hb2) (by simp) ?_
      rintro w3 hb3 hm3
      refine OW.nil ?_
      refine KW.seq (KW.region ?_)
      refine OW.val rfl rfl (EX.move rfl) ?_
      refine OW.val rfl rfl (EX.nilCheck rfl) ?_
      refine OW.val rfl rfl (EX.fieldAddr (off := 7) Try.underlying64 rfl rfl ti3 rfl rfl) ?_
      have t3 := RDev.tmS hlo hb2 hm3
      refine OW.val rfl rfl (EX.load Try.underlying3 rfl rfl (hb3.cell_of rfl)) ?_
      refine OW.val rfl rfl (by first | exact EX.addN (b := 1) (m := 9223372036854775807) rfl rfl rfl (by omega) | exact EX.addZ (m := 9223372036854775807) rfl rfl rfl rfl (by omega)) ?_
      refine OW.val rfl rfl (EX.nilCheck rfl) ?_
      refine OW.val rfl rfl (EX.fieldAddr (off := 7) Try.underlying64 rfl rfl ti3 rfl rfl) ?_
      refine OW.storeB rfl ti3 rfl rfl (by first | rfl | assumption | exact Own.one (by assumption)) (hb3) (by simp) ?_
      rintro w4 hb4 hm4
      refine OW.nil ?_
      refine KW.seq (KW.region ?_)
      refine OW.val rfl rfl (EX.assign rfl) ?_
      refine OW.nil ?_
      have t4 := RDev.tmS hlo hb3 hm4
      have tt := (t2.trans t3).trans t4
      refine KW.ret (ret1 rfl rfl ?_)
      rw [e, hdf]
      exact ⟨rfl, ⟨uN, uN, .slice none 0 0, uK, ⟨hlo, hb4, tt.own hvE.now rfl, tt.own hvE.now rfl, Own.nil _ _ _ _, tt.own hvE.keep rfl⟩⟩, rdy_rty (t1.trans tt)⟩
  · have e : D.sync = (D, 190) := by unfold Dv.sync; rw [if_pos hd]
    refine OW.pass rfl rfl ?_
    refine OW.pass rfl rfl ?_
    refine OW.val rfl rfl (EX.pickT rfl rfl) ?_
    refine OW.nil ?_
    refine KW.condT rfl (KW.seq (KW.region ?_))
    refine OW.val rfl rfl (EX.assign rfl) ?_
    refine OW.nil ?_
    refine KW.ret (ret1 rfl rfl ?_)
    rw [e]
    exact ⟨rfl, h0, Tm.refl _ _ _⟩
theorem rup_d (h : RDevAt w B b D) (hD : D.Ok) : Ret Try.prog 22 [.pointer (some ⟨b, 0, none⟩)] w fun v w' => v = .int .i64 0 ∧ RDevAt w' B b { D with dead := false } ∧ Tm w w' B rty := by
  obtain ⟨vS, vN, vP, vK, hv⟩ := h
  refine Ret.enter Try.func22 rfl Try.ntmps22 (by kernel_rfl) rfl ?_
  refine KW.seq (KW.region ?_)
  refine OW.val rfl rfl (EX.assign rfl) ?_
  refine OW.nil ?_
  refine KW.seq (KW.seq (KW.region ?_))
  refine OW.val rfl rfl (EX.move rfl) ?_
  refine OW.val rfl rfl (by first | exact EX.eqlP1 Try.underlying36 rfl rfl | exact EX.eqlP0 Try.underlying36 rfl rfl) ?_
  refine OW.nil ?_
  refine KW.condF rfl (KW.skip (KW.seq (KW.region ?_)))
  refine OW.val rfl rfl (EX.move rfl) ?_
  refine OW.val rfl rfl (EX.nilCheck rfl) ?_
  refine OW.val rfl rfl (EX.fieldAddr (off := 6) Try.underlying64 rfl rfl ti4 rfl rfl) ?_
  refine OW.storeB rfl ti4 rfl rfl (by first | rfl | assumption | exact Own.one (by assumption)) (hv.cells) (by simp) ?_
  rintro w2 hb2 hm2
  refine OW.nil ?_
  refine KW.seq (KW.region ?_)
  refine OW.val rfl rfl (EX.assign rfl) ?_
  refine OW.nil ?_
  refine KW.ret (ret1 rfl rfl ?_)
  exact ⟨rfl, ⟨_, _, _, _, RDev.after (D' := { D with dead := false }) hv.lo hv.cells hm2 hb2 hv.synced hv.now hv.pend hv.keep⟩, RDev.tmD hv.lo hv.cells hm2⟩
set_option maxRecDepth 20000 in
theorem rplan_d (h : RDevAt w B b D) (hD : D.Ok) (a : Int) (i0 : -9223372036854775808 ≤ a) (i1 : a ≤ 9223372036854775807) (A : Option Addr) (c C : Nat) (k : List Bool) (hsl : Sl w C A (boolsV k)) (hCB : C ≤ B) (hk : k.length ≤ 140737488351232) :
    Ret Try.prog 23 [.pointer (some ⟨b, 0, none⟩), .agg [.int .i64 a, .slice A k.length c].toArray] w fun v w' => v = .int .i64 (((D.plan a k).2 : Nat) : Int) ∧ RDevAt w' B b (D.plan a k).1 ∧ Tm w w' B rty := by
  have h0 := h
  obtain ⟨vS, vN, vP, vK, hv⟩ := h
  have hlo := hv.lo
  refine Ret.enter Try.func23 rfl Try.ntmps23 (by kernel_rfl) rfl ?_
  refine KW.seq (KW.region ?_)
  refine OW.boxS rfl rfl rfl ?_
  rintro fb w1 hge1 hfb1 hx1
  refine OW.val rfl rfl (EX.assign rfl) ?_
  refine OW.nil ?_
  refine KW.seq (KW.seq (KW.region ?_))
  refine OW.val rfl rfl (EX.move rfl) ?_
  refine OW.val rfl rfl (by first | exact EX.eqlP1 Try.underlying36 rfl rfl | exact EX.eqlP0 Try.underlying36 rfl rfl) ?_
  refine OW.nil ?_
  replace hfb1 : Bk w1 fb 45 [.int .i64 a, .slice A k.length c] := hfb1
  have hv1 := hv.ext hx1
  refine KW.condF rfl (KW.skip (KW.seq (KW.seq (KW.region ?_))))
  refine OW.val rfl rfl (EX.move rfl) ?_
  refine OW.val rfl rfl (EX.nilCheck rfl) ?_
  refine OW.val rfl rfl (EX.fieldAddr (off := 6) Try.underlying64 rfl rfl ti4 rfl rfl) ?_
  refine OW.val rfl rfl (EX.load Try.underlying4 rfl rfl (hv1.cells.cell_of rfl)) ?_
  refine OW.nil ?_
  refine KW.cond rfl (fun hd => ?_) (fun hd => ?_)
  · have e : D.plan a k = (D, 190) := by unfold Dv.plan; rw [hd]; rfl
    refine KW.seq (KW.region ?_)
    refine OW.val rfl rfl (EX.assign rfl) ?_
    refine OW.nil ?_
    refine KW.ret (ret1 rfl rfl ?_)
    rw [e]
    exact ⟨rfl, h0.ext hx1, Tm.of_ext hx1 _ _⟩
  · refine KW.skip (KW.seq (KW.seq (KW.region ?_)))
    refine OW.val rfl rfl (EX.fieldAddr (off := 0) Try.underlying45 rfl rfl ti3 rfl rfl) ?_
    refine OW.val rfl rfl (EX.load Try.underlying3 rfl rfl (hfb1.cell_of rfl)) ?_
    refine OW.val rfl rfl (by first | exact EX.lssN (b := 0) rfl rfl | exact EX.lssZ rfl rfl) ?_
    refine OW.nil ?_
    refine KW.condD rfl (fun a1 => ?_) (fun a1 => ?_)
    · have e : D.plan a k = (D, 2) := by unfold Dv.plan; rw [hd, if_neg (by simp), if_pos a1]
      refine KW.seq (KW.region ?_)
      refine OW.val rfl rfl (EX.assign rfl) ?_
      refine OW.nil ?_
      refine KW.ret (ret1 rfl rfl ?_)
      rw [e]
      exact ⟨rfl, h0.ext hx1, Tm.of_ext hx1 _ _⟩
    · obtain ⟨j, rfl⟩ := Int.eq_ofNat_of_zero_le (show 0 ≤ a by omega)
      have e : D.plan (j : Int) k = ({ D with at_ := j, keep := k }, 0) := by unfold Dv.plan; rw [hd, if_neg (by simp), if_neg (by omega)]; rfl
      have hlt := hv1.cells.lt
      refine KW.skip (KW.seq (KW.region ?_))
      refine OW.val rfl rfl (EX.move rfl) ?_
      refine OW.val rfl rfl (EX.fieldAddr (off := 0) Try.underlying45 rfl rfl ti3 rfl rfl) ?_
      refine OW.val rfl rfl (EX.load Try.underlying3 rfl rfl (hfb1.cell_of rfl)) ?_
      refine OW.val rfl rfl (EX.nilCheck rfl) ?_
      refine OW.val rfl rfl (EX.fieldAddr (off := 4) Try.underlying64 rfl rfl ti3 rfl rfl) ?_
      refine OW.storeB rfl ti3 rfl rfl (by first | rfl | assumption | exact Own.one (by assumption)) (hv1.cells) (by simp) ?_
      rintro w2 hb2 hm2
      refine OW.nil ?_
      refine KW.seq (KW.region ?_)
      refine OW.val rfl rfl (EX.move rfl) ?_
      have t2 := RDev.tmS hlo hv1.cells hm2
      have hfb2 := t2.bk hfb1 (by decide)
      refine OW.buildB 0 rfl rfl Try.underlying43 ti4 rfl rfl rfl rfl (by first | rfl | (simp only [List.all_cons, List.all_nil, Bool.and_true, Bool.and_eq_true]; assumption)) (by decide) ?_
      rintro eb w3 hge3 he3 hx3
      refine OW.val rfl rfl (EX.fieldAddr (off := 1) Try.underlying45 rfl rfl ti43 rfl rfl) ?_
      have owne : Own w3 w2.heap.size 4 1 (.slice (some ⟨eb, 0, none⟩) 0 0) 0 [] := ⟨rfl, .inr ⟨eb, 0, [], rfl, hge3, he3, rfl, Nat.le_refl _, by decide⟩⟩
      refine OW.val rfl rfl (EX.load Try.underlying43 rfl rfl ((hfb2.ext hx3).cell_of rfl)) ?_
      have sl3 : Sl w3 C A (boolsV k) := Sl.ext (Sl.mo (hsl.ext hx1) hm2 (by omega) (fun q hq => by simp at hq; omega)) hx3
      refine OW.appendX rfl rfl Try.underlying43 ti4 rfl (by decide) rfl rfl (hx3) (owne) (Src.of_sl Try.underlying43 sl3 (by rw [boolsV_length, Nat.mul_one]) (boolsV_one k) (by decide)) (by simp only [maxLen]; omega) (by omega) ?_
      rintro v4 w4 hown4 hx4 _ _
      refine OW.val rfl rfl (EX.nilCheck rfl) ?_
      refine OW.val rfl rfl (EX.fieldAddr (off := 5) Try.underlying64 rfl rfl ti43 rfl rfl) ?_
      have hb4 := hb2.ext hx4
      have hv4o := hown4.one
      refine OW.storeB rfl ti43 rfl rfl (by first | rfl | assumption | exact Own.one (by assumption)) (hb4) (by simp) ?_
      rintro w5 hb5 hm5
      refine OW.nil ?_
      refine KW.seq (KW.region ?_)
      refine OW.val rfl rfl (EX.assign rfl) ?_
      refine OW.nil ?_
      have t5 := RDev.tmS hlo hb4 hm5
      have z2 := hx1.size
      have z3 := t2.size
      have tx : Tm w2 w4 B rdy := Tm.of_ext hx4 B rdy
      have tt := (t2.trans tx).trans t5
      refine KW.ret (ret1 rfl rfl ?_)
      rw [e]
      refine ⟨rfl, ⟨vS, vN, vP, v4, ⟨hlo, hb5, tt.own hv1.synced rfl, tt.own hv1.now rfl, tt.own hv1.pend rfl, ?_⟩⟩, (Tm.of_ext hx1 B rty).trans (rdy_rty tt)⟩
      have e1 : 0 + k.length = k.length := Nat.zero_add _
      have e2 : [] ++ boolsV k = boolsV k := rfl
      rw [e1, e2] at hown4
      exact (t5.own hown4 rfl).more (by omega)
theorem rimage_d (h : RDevAt w B b D) (hD : D.Ok) : Ret Try.prog 25 [.pointer (some ⟨b, 0, none⟩)] w fun v w' => v = str D.now ∧ w = w' := by
  have hn := hD.now
  have hm := hD.nowM
  have hcap := hD.cap
  obtain ⟨vS, vN, vP, vK, hv⟩ := h
  obtain ⟨AN, cN, rfl, _, slN⟩ := hv.now.slice
  refine Ret.enter Try.func25 rfl Try.ntmps25 (by kernel_rfl) rfl ?_
  refine KW.seq (KW.region ?_)
  refine OW.val rfl rfl (EX.assign rfl) ?_
  refine OW.nil ?_
  refine KW.seq (KW.region ?_)
  refine OW.val rfl rfl (EX.assign rfl) ?_
  refine OW.nil ?_
  refine KW.seq (KW.seq (KW.region ?_))
  refine OW.val rfl rfl (EX.move rfl) ?_
  refine OW.val rfl rfl (by first | exact EX.eqlP1 Try.underlying36 rfl rfl | exact EX.eqlP0 Try.underlying36 rfl rfl) ?_
  refine OW.nil ?_
  refine KW.condF rfl (KW.skip (KW.seq (KW.seq (KW.region ?_))))
  refine OW.val rfl rfl (EX.assign rfl) ?_
  refine OW.nil ?_
  refine KW.block ?_
  refine KW.loop1 (fun (i : Nat) => i ≤ D.now.length / 512) (fun (i : Nat) => [(0, .pointer (some ⟨b, 0, none⟩)), (3, str ((D.now.take (i * 512)))), (4, .int .i64 ((i : Nat) : Int))]) (fun (i : Nat) => w) (fun (i : Nat) => D.now.length / 512 - i) (0) ⟨rfl, rfl, rfl, trivial⟩ rfl ?_ ?_
  · omega
  · rintro i hi
    refine KW.seq (KW.seq (KW.region ?_))
    refine OW.val rfl rfl (EX.move rfl) ?_
    refine OW.val rfl rfl (EX.move rfl) ?_
    refine OW.val rfl rfl (EX.nilCheck rfl) ?_
    refine OW.val rfl rfl (EX.fieldAddr (off := 2) Try.underlying64 rfl rfl ti61 rfl rfl) ?_
    refine OW.val rfl rfl (EX.load Try.underlying61 rfl rfl (hv.cells.cell_of rfl)) ?_
    refine OW.val rfl rfl (EX.lenA Try.underlying61 rfl) ?_
    refine OW.val rfl rfl (by first | exact EX.lssN rfl rfl | exact EX.lssZ rfl rfl) ?_
    refine OW.nil ?_
    refine KW.condD rfl (fun hlt => ?_) (fun hlt => ?_)
    · have hg : (secsV D.now)[i]? = some (str (scr D.now i)) := by rw [List.getElem?_map, scrs_get _ hlt]; rfl
      obtain ⟨b0, o0, rfl, _, hc0⟩ := slN.at_ (by rw [List.length_map, scrs_length]; omega)
      have hlen := scr_length hlt
      have htk : D.now.take ((i + 1) * 512) = D.now.take (i * 512) ++ scr D.now i := by
        unfold scr
        rw [Nat.add_mul, Nat.one_mul, List.take_add]
      refine KW.skip (KW.seq (KW.block (KW.region ?_)))
      refine OW.val rfl rfl (EX.move rfl) ?_
      refine OW.val rfl rfl (EX.move rfl) ?_
      refine OW.val rfl rfl (EX.nilCheck rfl) ?_
      refine OW.val rfl rfl (EX.fieldAddr (off := 2) Try.underlying64 rfl rfl ti61 rfl rfl) ?_
      refine OW.val rfl rfl (EX.load Try.underlying61 rfl rfl (hv.cells.cell_of rfl)) ?_
      refine OW.val rfl rfl (EX.move rfl) ?_
      refine OW.val rfl rfl (by first | exact EX.indexAddrS0 Try.underlying61 ti9 rfl rfl (by omega) | exact EX.indexAddrS1 Try.underlying61 ti9 rfl rfl (by omega)) ?_
      refine OW.val rfl rfl (EX.load Try.underlying9 rfl rfl (hc0 i _ hg)) ?_
      refine OW.val rfl rfl (EX.addS rfl rfl (by first | omega | (simp only [List.length_append, List.length_cons, List.length_nil, List.length_take, List.length_drop, List.length_replicate]; omega))) ?_
      refine OW.val rfl rfl (EX.assign rfl) ?_
      refine OW.nil ?_
      refine KW.leave (KW.region ?_)
      refine OW.val rfl rfl (EX.move rfl) ?_
      refine OW.val rfl rfl (by first | exact EX.addN (b := 1) (m := 9223372036854775807) rfl rfl rfl (by omega) | exact EX.addZ (m := 9223372036854775807) rfl rfl rfl rfl (by omega)) ?_
      refine OW.val rfl rfl (EX.assign rfl) ?_
      refine OW.nil ?_
      refine KW.as 3 (str ((D.now.take ((i + 1) * 512)))) rfl (by rw [htk]) ?_
      refine KW.back1 (i + 1) ⟨rfl, rfl, rfl, trivial⟩ rfl ?_ (by omega)
      omega
    · have hlt' : ¬ i < D.now.length / 512 := hlt
      have htk : D.now.take (i * 512) = D.now := List.take_of_length_le (by omega)
      refine KW.exit rfl (KW.seq (KW.region ?_))
      refine OW.val rfl rfl (EX.move rfl) ?_
      refine OW.val rfl rfl (EX.assign rfl) ?_
      refine OW.nil ?_
      refine KW.ret (ret1 rfl rfl ?_)
      rw [htk]
      exact ⟨rfl, rfl⟩
theorem rnew_s (c : Int) (c0 : -9223372036854775808 ≤ c) (c1 : c ≤ 9223372036854775807) (w : World) :
    Ret Try.prog 21 [.int .i64 c] w fun v w' => ∃ (p : Value) (e : Nat), v = .tuple #[p, .int .i64 (e : Int)] ∧ Ext w w' ∧ ((¬ may c [] ∧ p = .pointer none ∧ e = 2) ∨ (may c [] ∧ ∃ b, p = .pointer (some ⟨b, 0, none⟩) ∧ e = 0 ∧ RDevAt w' w.heap.size b (fresh c.toNat []))) := by
  refine Ret.enter Try.func21 rfl Try.ntmps21 (by kernel_rfl) rfl ?_
  refine KW.seq (KW.region ?_)
  refine OW.val rfl rfl (EX.assign rfl) ?_
  refine OW.val rfl rfl (EX.assign rfl) ?_
  refine OW.nil ?_
  refine KW.seq (KW.region ?_)
  refine OW.val rfl rfl (EX.move rfl) ?_
  refine OW.call rfl rfl rfl (rload_s c c0 c1 [] (by simp) w) ?_
  rintro _ w1 ⟨p, e, rfl, hx, hor⟩
  refine OW.val rfl rfl (EX.extract rfl rfl) ?_
  refine OW.val rfl rfl (EX.extract rfl rfl) ?_
  refine OW.val rfl rfl (EX.assign rfl) ?_
  refine OW.val rfl rfl (EX.assign rfl) ?_
  refine OW.nil ?_
  refine KW.ret (ret2 rfl rfl rfl ?_)
  exact ⟨p, e, rfl, hx, hor⟩
end
end Go.Proofs.Ytlpnoogcdnfllaa
