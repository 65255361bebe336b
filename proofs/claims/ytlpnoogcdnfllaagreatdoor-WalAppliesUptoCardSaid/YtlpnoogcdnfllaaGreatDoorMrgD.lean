/-
  What the statements rest on, part 4 of 4: many small texts, one behind the other.
-/
import Derived.Test.YtlpnoogcdnfllaaGreatDoorMrgC
import Derived.ProofKit
import Derived.OpenShut
import Derived.ShutString
import Derived.SizedLaws
import Derived.SliceStrings
import Derived.Deep.Slices
import Derived.Deep.Grids
set_option linter.unusedSimpArgs false
set_option linter.unusedVariables false
set_option linter.unnecessarySimpa false
namespace Go.Proofs.YtlpnoogcdnfllaaGreatDoor
open Go.RowKit Rec Pth Dsk Wal
abbrev Txl := List (List Nt)
def TxO (w : World) (B : Nat) : List Value → List (List Nt) → Prop
  | [], [] => True
  | v :: vs, l :: ls => Own w B 39 6 v l.length (ntsV l) ∧ TxO w B vs ls
  | _, _ => False
theorem TxO.len {w : World} {B : Nat} : ∀ {vs : List Value} {ls : List (List Nt)}, TxO w B vs ls → vs.length = ls.length
  | [], [], _ => rfl
  | v :: vs, l :: ls, ⟨_, h2⟩ => by simp [TxO.len h2]
  | [], _ :: _, h => h.elim
  | _ :: _, [], h => h.elim
theorem TxO.snoc {w : World} {B : Nat} : ∀ {vs : List Value} {ls : List (List Nt)} {v : Value} {l : List Nt}, TxO w B vs ls → Own w B 39 6 v l.length (ntsV l) → TxO w B (vs ++ [v]) (ls ++ [l])
  | [], [], _, _, _, h => ⟨h, trivial⟩
  | c :: cs, v :: vs, _, _, ⟨h1, h2⟩, h => ⟨h1, TxO.snoc h2 h⟩
  | [], _ :: _, _, _, h, _ => h.elim
  | _ :: _, [], _, _, h, _ => h.elim
theorem TxO.mo {w w' : World} {B : Nat} {S : List Nat} (hm : Mo w w' S) : ∀ {vs : List Value} {ls : List (List Nt)}, (∀ v ∈ vs, ∀ k, v.ownBlock = some k → k ∉ S) → TxO w B vs ls → TxO w' B vs ls
  | [], [], _, h => h
  | v :: vs, l :: ls, hS, ⟨h1, h2⟩ => ⟨h1.mo hm (hS v (by simp)), TxO.mo hm (fun x hx => hS x (by simp [hx])) h2⟩
  | [], _ :: _, _, h => h.elim
  | _ :: _, [], _, h => h.elim
theorem TxO.ext {w w' : World} {B : Nat} (hx : Ext w w') : ∀ {vs : List Value} {ls : List (List Nt)}, TxO w B vs ls → TxO w' B vs ls
  | [], [], h => h
  | v :: vs, l :: ls, ⟨h1, h2⟩ => ⟨h1.ext hx, TxO.ext hx h2⟩
  | [], _ :: _, h => h.elim
  | _ :: _, [], h => h.elim
theorem TxO.tm {w w' : World} {B C : Nat} {p : TypeId → Bool} (h : Tm w w' C p) (hp : p 39 = false) : ∀ {vs : List Value} {ls : List (List Nt)}, TxO w B vs ls → TxO w' B vs ls
  | [], [], h => h
  | v :: vs, l :: ls, ⟨h1, h2⟩ => ⟨h.own h1 hp, TxO.tm h hp h2⟩
  | [], _ :: _, h => h.elim
  | _ :: _, [], h => h.elim
theorem TxO.lt {w : World} {B : Nat} : ∀ {vs : List Value} {ls : List (List Nt)}, TxO w B vs ls → ∀ v ∈ vs, ∀ k, v.ownBlock = some k → B ≤ k ∧ k < w.heap.size ∧ ∃ l, Bk w k 39 l
  | v :: vs, l :: ls, ⟨h1, h2⟩, u, hu, k, hk => by
    rcases List.mem_cons.1 hu with rfl | hu
    · exact ⟨(h1.lt k hk).1, (h1.lt k hk).2, (h1.blkT k hk).2⟩
    · exact TxO.lt h2 u hu k hk
  | [], _ :: _, h, _, _, _, _ => h.elim
  | _ :: _, [], h, _, _, _, _ => h.elim
  | [], [], _, u, hu, _, _ => by simp at hu
theorem TxO.one {w : World} {B : Nat} : ∀ {vs : List Value} {ls : List (List Nt)}, TxO w B vs ls → ∀ v ∈ vs, v.oneCell' = true
  | v :: vs, l :: ls, ⟨h1, h2⟩, u, hu => by
    rcases List.mem_cons.1 hu with rfl | hu
    · exact h1.one
    · exact TxO.one h2 u hu
  | [], _ :: _, h, _, _ => h.elim
  | _ :: _, [], h, _, _ => h.elim
  | [], [], _, u, hu => by simp at hu
theorem DevAt.tm {w w' : World} {B b C : Nat} {D : Dv} {p : TypeId → Bool} (h : DevAt w B b D) (t : Tm w w' C p) (p1 : p 74 = false) (p2 : p 5 = false) (p3 : p 124 = false) (p4 : p 4 = false) (p5 : p 3 = false) (p6 : p 9 = false) : DevAt w' B b D := by
  obtain ⟨vk, vn, vp, vq, vs, h1, h2, h3, h4, h5, h6, h7, h8⟩ := h
  exact ⟨vk, vn, vp, vq, vs, h1, t.bk h2 p1, t.own h3 p2, t.own h4 p2, h5, t.own h6 p3, h7.tm t p5 p6, t.own h8 p4⟩
theorem dec_bounds (s : List UInt8) (hs : s.length ≤ 512) : (decodeR s).1.kind ≤ 255 ∧ (decodeR s).1.data.length ≤ 512 := by
  unfold decodeR
  split
  · refine ⟨?_, ?_⟩
    · have := (s.getD 4 0).toNat_lt
      show (s.getD 4 0).toNat ≤ 255
      omega
    · show ((s.drop 19).take _).length ≤ 512
      rw [List.length_take, List.length_drop]
      omega
  · exact ⟨by decide, by decide⟩
theorem sec_le (s : List UInt8) (i : Nat) : (sec s i).length ≤ 512 := by unfold sec; rw [List.length_take]; omega
theorem logN_lt (s : List UInt8) (i : Nat) : i < logN s ↔ i < 20 ∧ 10 + i < s.length / 512 := by unfold logN; omega
def Found (w : World) (B : Nat) (r : List (List Nt) × Nat) (e : Nat) (v : Value) : Prop :=
  ∃ vt vs, v = .tuple #[vt, .int .i64 (r.2 : Int), .int .i64 (e : Int)] ∧ Own w B 23 1 vt r.1.length vs ∧ TxO w B vs r.1
theorem found_nil (w : World) (B e : Nat) : Found w B ([], 0) e (.tuple #[.slice none 0 0, .int .i64 0, .int .i64 (e : Int)]) := ⟨_, [], rfl, Own.nil _ _ _ _, trivial⟩
set_option maxRecDepth 20000 in
theorem replay_s {D : Dv} (hD : D.Ok) {k : Nat} (hsm : Sm D k) (hk : k ≤ 900000) (B b : Nat) (gen : Int) (w : World) (h : DevAt w B b D) :
    Ret Tryz.prog 11 [.pointer (some ⟨b, 0, none⟩), .int .i64 gen] w fun v w' => Found w' w.heap.size (replayD D gen).1 (replayD D gen).2 v ∧ DevAt w' B b (replayed D gen) ∧ Tm w w' B dty := by
  have hcap := hD.cap
  have hno : readsD D gen = 0 → replayed D gen = D := fun e => by unfold replayed; rw [e]; rfl
  refine Ret.enter Tryz.func11 rfl Tryz.ntmps11 (by kernel_rfl) rfl ?_
  refine KW.seq (KW.region ?_)
  refine OW.val rfl rfl (EX.assign rfl) ?_
  refine OW.val rfl rfl (EX.assign rfl) ?_
  refine OW.val rfl rfl (EX.assign rfl) ?_
  refine OW.nil ?_
  refine KW.scope (KW.seq (KW.seq (KW.region ?_)))
  refine OW.val rfl rfl (EX.move rfl) ?_
  refine OW.call rfl rfl rfl (capacity_d h hD) ?_
  rintro _ _ ⟨rfl, rfl⟩
  refine OW.val rfl rfl (by first | exact EX.eqlN (b := 0) rfl rfl | exact EX.eqlZ rfl rfl) ?_
  refine OW.nil ?_
  refine KW.condD rfl (fun h0 => ?_) (fun h0 => ?_)
  · omega
  · refine KW.skip (KW.seq (KW.seq (KW.region ?_)))
    refine OW.val rfl rfl (EX.move rfl) ?_
    refine OW.call rfl rfl rfl (right_s gen w) ?_
    rintro _ _ ⟨rfl, rfl⟩
    refine OW.val rfl rfl (by first | exact EX.notD rfl | exact EX.notB rfl) ?_
    refine OW.nil ?_
    refine KW.condD rfl (fun hg => ?_) (fun hg => ?_)
    · have hb : badG gen := Classical.not_not.1 hg
      have e1 : replayD D gen = (([], 0), 210) := by unfold replayD; rw [if_pos hb]
      have e2 : readsD D gen = 0 := by unfold readsD; rw [if_pos hb]
      refine KW.seq (KW.region ?_)
      refine OW.val rfl rfl (EX.assign rfl) ?_
      refine OW.val rfl rfl (EX.assign rfl) ?_
      refine OW.val rfl rfl (EX.assign rfl) ?_
      refine OW.nil ?_
      refine KW.ret (ret3 rfl rfl rfl rfl ?_)
      rw [e1, hno e2]
      exact ⟨found_nil _ _ 210, h, Tm.refl _ _ _⟩
    · have hb : ¬ badG gen := fun q => hg (not_not_intro q)
      refine KW.skip (KW.seq (KW.seq (KW.region ?_)))
      refine OW.val rfl rfl (EX.move rfl) ?_
      refine OW.call rfl rfl rfl (dead_d h hD) ?_
      rintro _ _ ⟨rfl, rfl⟩
      refine OW.nil ?_
      refine KW.cond rfl (fun hd => ?_) (fun hd => ?_)
      · have e1 : replayD D gen = (([], 0), 190) := by unfold replayD; rw [if_neg hb, hd]; rfl
        have e2 : readsD D gen = 0 := by unfold readsD; rw [if_neg hb, hd]; rfl
        refine KW.seq (KW.region ?_)
        refine OW.val rfl rfl (EX.assign rfl) ?_
        refine OW.val rfl rfl (EX.assign rfl) ?_
        refine OW.val rfl rfl (EX.assign rfl) ?_
        refine OW.nil ?_
        refine KW.ret (ret3 rfl rfl rfl rfl ?_)
        rw [e1, hno e2]
        exact ⟨found_nil _ _ 190, h, Tm.refl _ _ _⟩
      · have e1 : replayD D gen = (rep gen (fun i => sec D.now (10 + i)) (logN D.now) 21 0 [] [] 0, 0) := by unfold replayD; rw [if_neg hb, hd]; rfl
        have e2 : readsD D gen = repN gen (fun i => sec D.now (10 + i)) (logN D.now) 21 0 [] := by unfold readsD; rw [if_neg hb, hd]; rfl
        generalize hM : logN D.now = m at e1 e2
        have hM2 := fun i => logN_lt D.now i
        rw [hM] at hM2
        have hm20 : m ≤ 20 := by rw [← hM]; unfold logN; omega
        generalize hR : (fun i => sec D.now (10 + i)) = rd at e1 e2
        have hrd : ∀ i, sec D.now (10 + i) = rd i := fun i => by rw [← hR]
        have fin : ∀ (wr : World) (out : List (List Nt)) (bh j : Nat) (vt : Value) (vs : List Value), rep gen rd m 21 0 [] [] 0 = (out, bh) → repN gen rd m 21 0 [] = j → DevAt wr B b { D with calls := D.calls + j } → Own wr w.heap.size 23 1 vt out.length vs → TxO wr w.heap.size vs out → Tm w wr B dty → (Found wr w.heap.size (replayD D gen).1 (replayD D gen).2 (.tuple #[vt, .int .i64 (bh : Int), .int .i64 0]) ∧ DevAt wr B b (replayed D gen) ∧ Tm w wr B dty) := by
          intro wr out bh j vt vs h1 h2 h3 h4 h5 h6
          rw [e1, h1]
          refine ⟨⟨vt, vs, rfl, h4, h5⟩, ?_, h6⟩
          have e : replayed D gen = { D with calls := D.calls + j } := by unfold replayed; rw [e2, h2]
          rw [e]
          exact h3
        refine KW.skip (KW.seq (KW.region ?_))
        refine OW.val rfl rfl (EX.assign rfl) ?_
        refine OW.nil ?_
        refine KW.seq (KW.region ?_)
        refine OW.val rfl rfl (EX.assign rfl) ?_
        refine OW.nil ?_
        refine KW.seq (KW.region ?_)
        refine OW.val rfl rfl (EX.assign rfl) ?_
        refine OW.nil ?_
        refine KW.seq (KW.label (KW.seq (KW.seq (KW.region ?_))))
        refine OW.val rfl rfl (EX.assign rfl) ?_
        refine OW.nil ?_
        refine KW.block ?_
        refine KW.loop7 (fun (i : Nat) (op : (List Nt)) (out : Txl) (bh : Nat) (vo : Value) (vt : Value) (wr : World) => i ≤ 20 ∧ bh ≤ 20 ∧ op.length ≤ i ∧ out.length ≤ i ∧ rep gen rd m 21 0 [] [] 0 = rep gen rd m (21 - i) i op out bh ∧ repN gen rd m 21 0 [] = repN gen rd m (21 - i) i op + i ∧ DevAt wr B b { D with calls := D.calls + i } ∧ Own wr w.heap.size 39 6 vo op.length (ntsV op) ∧ Tm w wr B dty ∧ ∃ vs, Own wr w.heap.size 23 1 vt out.length vs ∧ TxO wr w.heap.size vs out ∧ (∀ k, vo.ownBlock = some k → ∀ v ∈ vs, v.ownBlock ≠ some k)) (fun (i : Nat) (op : (List Nt)) (out : Txl) (bh : Nat) (vo : Value) (vt : Value) (wr : World) => [(0, .pointer (some ⟨b, 0, none⟩)), (1, .int .i64 (gen : Int)), (7, vt), (8, vo), (9, .int .i64 ((bh : Nat) : Int)), (10, .int .i64 ((i : Nat) : Int))]) (fun (i : Nat) (op : (List Nt)) (out : Txl) (bh : Nat) (vo : Value) (vt : Value) (wr : World) => wr) (fun (i : Nat) (op : (List Nt)) (out : Txl) (bh : Nat) (vo : Value) (vt : Value) (wr : World) => 21 - i) (0) ([]) ([]) (0) (.slice none 0 0) (.slice none 0 0) (w) ⟨rfl, rfl, rfl, rfl, rfl, rfl, trivial⟩ rfl ?_ ?_
        · exact ⟨by omega, by omega, by simp, by simp, rfl, rfl, h, Own.nil _ _ _ _, Tm.refl _ _ _, [], Own.nil _ _ _ _, trivial, fun k hk => by simp [Value.ownBlock] at hk⟩
        · rintro i op out bh vo vt wr ⟨hi, hbh, hol, hul, hrp, hrn, hdev, hown, htm, vs, hout, htx, hap⟩
          have hE : Dv.Ok { D with calls := D.calls + i } := ⟨hD.cap, hD.kept, hD.now, hD.keptM, hD.nowM, hD.pend⟩
          have hsE : Sm { D with calls := D.calls + i } (k + 20) := ⟨by have := hsm.calls; show D.calls + i ≤ _; omega, by have := hsm.pend; show D.pend.length ≤ _; omega, hsm.at_, hsm.keep⟩
          obtain ⟨f, hf⟩ : ∃ f, 21 - i = f + 1 := ⟨20 - i, by omega⟩
          have hf2 : f = 21 - (i + 1) := by omega
          rw [hf] at hrp hrn
          have over : ¬ i < m → (rep gen rd m 21 0 [] [] 0 = (out, bh) ∧ repN gen rd m 21 0 [] = i) := fun q => by
            obtain ⟨q1, q2⟩ := rep_0 (gen := gen) (rd := rd) (f := f) (op := op) (out := out) (b := bh) q
            rw [hrp, hrn, q1, q2]
            exact ⟨rfl, by omega⟩
          refine KW.seq (KW.seq ?_)
          refine KW.region ?_
          refine OW.val rfl rfl (EX.move rfl) ?_
          refine OW.val rfl rfl (by first | exact EX.lssN (b := 20) rfl rfl | exact EX.lssZ rfl rfl) ?_
          refine OW.val rfl rfl (EX.move rfl) ?_
          refine OW.splitD 26 rfl (fun c1 => ?_) (fun c1 => ?_)
          · refine OW.val rfl rfl (EX.move rfl) ?_
            refine OW.val rfl rfl (by first | exact EX.addN (a := 10) (m := 9223372036854775807) rfl rfl rfl (by omega) | exact EX.addZ (m := 9223372036854775807) rfl rfl rfl rfl (by omega)) ?_
            refine OW.val rfl rfl (EX.move rfl) ?_
            refine OW.call rfl rfl rfl (len_d hdev hE) ?_
            rintro _ _ ⟨rfl, rfl⟩
            refine OW.val rfl rfl (by first | exact EX.lssN rfl rfl | exact EX.lssZ rfl rfl) ?_
            refine OW.val rfl rfl (EX.pickT rfl rfl) ?_
            refine OW.nil ?_
            refine KW.condD rfl (fun c2 => ?_) (fun c2 => ?_)
            · have him : i < m := (hM2 i).2 ⟨by omega, c2⟩
              have er : Dv.read { D with calls := D.calls + i } ((10 + i : Nat) : Int) = ({ D with calls := D.calls + (i + 1) }, rd i, 0) := by
                unfold Dv.read
                rw [if_neg (by rw [hd]; decide), if_neg (by show ¬ (_ ∨ ((D.now.length / 512 : Nat) : Int) ≤ _); have : 10 + i < D.now.length / 512 := c2; omega), ← hrd]
                rfl
              have cr := read_d hdev hE (hsE.small (by omega)) ((10 + i : Nat) : Int) (by omega) (by omega)
              rw [er] at cr
              have hrl : (rd i).length ≤ 512 := by rw [← hrd]; exact sec_le _ _
              refine KW.skip (KW.seq (KW.block (KW.seq (KW.region ?_))))
              refine OW.val rfl rfl (EX.move rfl) ?_
              refine OW.val rfl rfl (EX.move rfl) ?_
              refine OW.val rfl rfl (by first | exact EX.addN (a := 10) (m := 9223372036854775807) rfl rfl rfl (by omega) | exact EX.addZ (m := 9223372036854775807) rfl rfl rfl rfl (by omega)) ?_
              refine OW.call rfl rfl rfl (cr) ?_
              rintro _ w5 ⟨rfl, hdev5, htm5⟩
              refine OW.val rfl rfl (EX.move rfl) ?_
              refine OW.val rfl rfl (EX.extract rfl rfl) ?_
              refine OW.val rfl rfl (EX.extract rfl rfl) ?_
              refine OW.val rfl rfl (EX.assign rfl) ?_
              refine OW.val rfl rfl (EX.assign rfl) ?_
              refine OW.nil ?_
              refine KW.seq (KW.seq (KW.region ?_))
              refine OW.val rfl rfl (EX.move rfl) ?_
              refine OW.val rfl rfl (by first | exact EX.neqN (b := 0) rfl rfl | exact EX.neqZ rfl rfl) ?_
              refine OW.nil ?_
              have hown5 := htm5.own hown rfl
              have hout5 := htm5.own hout rfl
              have htx5 := htx.tm htm5 rfl
              have tm5 := htm.trans htm5
              have z5 := tm5.size
              have cd := decode_s (rd i) w5
              have hdb := dec_bounds (rd i) hrl
              rcases hde : decodeR (rd i) with ⟨x, ee⟩
              rw [hde] at cd hdb
              have stop : (ee ≠ 0 ∨ x.gen ≠ gen ∨ x.index ≠ i) → (rep gen rd m 21 0 [] [] 0 = (out, bh) ∧ repN gen rd m 21 0 [] = i + 1) := fun q => by
                obtain ⟨q1, q2⟩ := rep_1 (f := f) (op := op) (out := out) (b := bh) him hde q
                rw [hrp, hrn, q1, q2]
                exact ⟨rfl, by omega⟩
              refine KW.as 43 (.bool false) rfl (congrArg Value.bool (decide_eq_false (by simp))) ?_
              refine KW.condF rfl (KW.skip (KW.seq (KW.region ?_)))
              refine OW.val rfl rfl (EX.move rfl) ?_
              refine OW.call rfl rfl rfl (cd) ?_
              rintro _ w6 ⟨rfl, hx6⟩
              refine OW.val rfl rfl (EX.move rfl) ?_
              refine OW.val rfl rfl (EX.extract rfl rfl) ?_
              refine OW.val rfl rfl (EX.extract rfl rfl) ?_
              have hb1 : x.kind ≤ 255 := hdb.1
              have hb2 : x.data.length ≤ 512 := hdb.2
              refine OW.allocB (l := [.int .u8 0, .int .i64 0, .int .i64 0, str []]) rfl rfl ti64 rfl ?_
              rintro xb w7 hge7 hx7b hx7
              refine OW.storeS rfl ti64 rfl rfl rfl (by first | rfl | (simp only [List.all_cons, List.all_nil, Bool.and_true, Bool.true_and, Bool.and_eq_true, Value.oneCell']; repeat (first | assumption | exact Own.one (by assumption) | constructor))) (hx7b) (Nat.le_refl _) ?_
              rintro w8 hb8 hm8
              refine OW.val rfl rfl (EX.assign rfl) ?_
              refine OW.nil ?_
              refine KW.seq (KW.seq ?_)
              replace hb8 : Bk w8 xb 64 x.cells := hb8
              have x8 : Ext w5 w8 := below_mo (hx6.trans hx7) hm8 (hx6.trans hx7).size (fun k hk => by simp at hk; have := hx6.size; omega)
              have hown8 := hown5.ext x8
              have hout8 := hout5.ext x8
              have htx8 := htx5.ext x8
              have hdev8 := hdev5.ext x8
              have tm8 := tm5.trans (Tm.of_ext x8 B dty)
              have z8 := tm8.size
              refine KW.region ?_
              refine OW.val rfl rfl (EX.move rfl) ?_
              refine OW.val rfl rfl (by first | exact EX.neqN (b := 0) rfl rfl | exact EX.neqZ rfl rfl) ?_
              refine OW.val rfl rfl (EX.move rfl) ?_
              refine OW.splitD 52 rfl (fun s1 => ?_) (fun s1 => ?_)
              · refine OW.pass rfl rfl ?_
                refine OW.pass rfl rfl ?_
                refine OW.pass rfl rfl ?_
                refine OW.pass rfl rfl ?_
                refine OW.val rfl rfl (EX.pickT rfl rfl) ?_
                refine OW.val rfl rfl (EX.move rfl) ?_
                refine OW.pass rfl rfl ?_
                refine OW.pass rfl rfl ?_
                refine OW.pass rfl rfl ?_
                refine OW.pass rfl rfl ?_
                refine OW.val rfl rfl (EX.pickT rfl rfl) ?_
                refine OW.nil ?_
                refine KW.condT rfl (KW.exit rfl (KW.seq (KW.region ?_)))
                refine OW.val rfl rfl (EX.move rfl) ?_
                refine OW.val rfl rfl (EX.move rfl) ?_
                refine OW.val rfl rfl (EX.assign rfl) ?_
                refine OW.val rfl rfl (EX.assign rfl) ?_
                refine OW.val rfl rfl (EX.assign rfl) ?_
                refine OW.nil ?_
                refine KW.ret (ret3 rfl rfl rfl rfl ?_)
                obtain ⟨q1, q2⟩ := stop (.inl (by omega))
                exact fin w8 out bh (i + 1) vt vs q1 q2 hdev8 hout8 htx8 tm8
              · refine OW.val rfl rfl (EX.fieldAddr (off := 1) Tryz.underlying64 rfl rfl ti3 rfl rfl) ?_
                refine OW.val rfl rfl (EX.load Tryz.underlying3 rfl rfl (hb8.cell_of rfl)) ?_
                refine OW.val rfl rfl (EX.move rfl) ?_
                refine OW.val rfl rfl (by first | exact EX.neqN rfl rfl | exact EX.neqZ rfl rfl) ?_
                refine OW.val rfl rfl (EX.pickF rfl rfl) ?_
                refine OW.val rfl rfl (EX.move rfl) ?_
                refine OW.splitD 58 rfl (fun s2 => ?_) (fun s2 => ?_)
                · refine OW.pass rfl rfl ?_
                  refine OW.pass rfl rfl ?_
                  refine OW.pass rfl rfl ?_
                  refine OW.pass rfl rfl ?_
                  refine OW.val rfl rfl (EX.pickT rfl rfl) ?_
                  refine OW.nil ?_
                  refine KW.condT rfl (KW.exit rfl (KW.seq (KW.region ?_)))
                  refine OW.val rfl rfl (EX.move rfl) ?_
                  refine OW.val rfl rfl (EX.move rfl) ?_
                  refine OW.val rfl rfl (EX.assign rfl) ?_
                  refine OW.val rfl rfl (EX.assign rfl) ?_
                  refine OW.val rfl rfl (EX.assign rfl) ?_
                  refine OW.nil ?_
                  refine KW.ret (ret3 rfl rfl rfl rfl ?_)
                  obtain ⟨q1, q2⟩ := stop (.inr (.inl s2))
                  exact fin w8 out bh (i + 1) vt vs q1 q2 hdev8 hout8 htx8 tm8
                · refine OW.val rfl rfl (EX.fieldAddr (off := 2) Tryz.underlying64 rfl rfl ti3 rfl rfl) ?_
                  refine OW.val rfl rfl (EX.load Tryz.underlying3 rfl rfl (hb8.cell_of rfl)) ?_
                  refine OW.val rfl rfl (EX.move rfl) ?_
                  refine OW.val rfl rfl (by first | exact EX.neqN rfl rfl | exact EX.neqZ rfl rfl) ?_
                  refine OW.val rfl rfl (EX.pickF rfl rfl) ?_
                  refine OW.nil ?_
                  refine KW.condD rfl (fun s3 => ?_) (fun s3 => ?_)
                  · refine KW.exit rfl (KW.seq (KW.region ?_))
                    refine OW.val rfl rfl (EX.move rfl) ?_
                    refine OW.val rfl rfl (EX.move rfl) ?_
                    refine OW.val rfl rfl (EX.assign rfl) ?_
                    refine OW.val rfl rfl (EX.assign rfl) ?_
                    refine OW.val rfl rfl (EX.assign rfl) ?_
                    refine OW.nil ?_
                    refine KW.ret (ret3 rfl rfl rfl rfl ?_)
                    obtain ⟨q1, q2⟩ := stop (.inr (.inr s3))
                    exact fin w8 out bh (i + 1) vt vs q1 q2 hdev8 hout8 htx8 tm8
                  · have go_ : ¬ (ee ≠ 0 ∨ x.gen ≠ gen ∨ x.index ≠ i) := by omega
                    refine KW.skip (KW.seq (KW.seq (KW.region ?_)))
                    refine OW.val rfl rfl (EX.fieldAddr (off := 0) Tryz.underlying64 rfl rfl ti5 rfl rfl) ?_
                    refine OW.val rfl rfl (EX.load Tryz.underlying5 rfl rfl (hb8.cell_of rfl)) ?_
                    refine OW.val rfl rfl (by first | exact EX.convN (m := 9223372036854775807) Tryz.underlying5 Tryz.underlying3 rfl rfl (by omega) | exact EX.convZ Tryz.underlying5 Tryz.underlying3 rfl) ?_
                    refine OW.val rfl rfl (by first | exact EX.eqlN (b := 3) rfl rfl | exact EX.eqlZ rfl rfl) ?_
                    refine OW.nil ?_
                    refine KW.condD rfl (fun k3 => ?_) (fun k3 => ?_)
                    · have k3' : x.kind = 3 := by omega
                      have stop2 : (op = [] ∨ x.data ≠ [UInt8.ofNat op.length]) → (rep gen rd m 21 0 [] [] 0 = (out, bh) ∧ repN gen rd m 21 0 [] = i + 1) := fun q => by
                        obtain ⟨q1, q2⟩ := rep_2 (f := f) (op := op) (out := out) (b := bh) him hde go_ k3' q
                        rw [hrp, hrn, q1, q2]
                        exact ⟨rfl, by omega⟩
                      obtain ⟨Ao, co, rfl, _, _⟩ := hown8.slice
                      refine KW.seq (KW.seq ?_)
                      refine KW.region ?_
                      refine OW.val rfl rfl (EX.move rfl) ?_
                      refine OW.val rfl rfl (EX.lenA Tryz.underlying23 rfl) ?_
                      refine OW.val rfl rfl (by first | exact EX.eqlN (b := 0) rfl rfl | exact EX.eqlZ rfl rfl) ?_
                      refine OW.val rfl rfl (EX.move rfl) ?_
                      refine OW.splitD 71 rfl (fun t1 => ?_) (fun t1 => ?_)
                      · refine OW.pass rfl rfl ?_
                        refine OW.pass rfl rfl ?_
                        refine OW.pass rfl rfl ?_
                        refine OW.pass rfl rfl ?_
                        refine OW.pass rfl rfl ?_
                        refine OW.pass rfl rfl ?_
                        refine OW.pass rfl rfl ?_
                        refine OW.pass rfl rfl ?_
                        refine OW.val rfl rfl (EX.pickT rfl rfl) ?_
                        refine OW.nil ?_
                        refine KW.condT rfl (KW.exit rfl (KW.seq (KW.region ?_)))
                        refine OW.val rfl rfl (EX.move rfl) ?_
                        refine OW.val rfl rfl (EX.move rfl) ?_
                        refine OW.val rfl rfl (EX.assign rfl) ?_
                        refine OW.val rfl rfl (EX.assign rfl) ?_
                        refine OW.val rfl rfl (EX.assign rfl) ?_
                        refine OW.nil ?_
                        refine KW.ret (ret3 rfl rfl rfl rfl ?_)
                        obtain ⟨q1, q2⟩ := stop2 (.inl (List.eq_nil_of_length_eq_zero (by omega)))
                        exact fin w8 out bh (i + 1) vt vs q1 q2 hdev8 hout8 htx8 tm8
                      · refine OW.val rfl rfl (EX.fieldAddr (off := 3) Tryz.underlying64 rfl rfl ti9 rfl rfl) ?_
                        refine OW.val rfl rfl (EX.load Tryz.underlying9 rfl rfl (hb8.cell_of rfl)) ?_
                        refine OW.val rfl rfl (EX.move rfl) ?_
                        refine OW.val rfl rfl (EX.lenA Tryz.underlying23 rfl) ?_
                        refine OW.val rfl rfl (by first | exact EX.convN (m := 255) Tryz.underlying3 Tryz.underlying5 rfl rfl (by omega) | exact EX.convW (m := 256) Tryz.underlying3 Tryz.underlying5 rfl rfl (by decide) | exact EX.convZ Tryz.underlying3 Tryz.underlying5 rfl) ?_
                        refine OW.buildB 1 rfl rfl Tryz.underlying59 ti5 rfl rfl rfl rfl (by first | rfl | (simp only [List.all_cons, List.all_nil, Bool.and_true, Bool.and_eq_true]; assumption)) (by decide) ?_
                        rintro sb w9 hge9 hsb9 hx9
                        have hown9 := hown8.ext hx9
                        have hout9 := hout8.ext hx9
                        have htx9 := htx8.ext hx9
                        have hdev9 := hdev8.ext hx9
                        have tm9 := tm8.trans (Tm.of_ext hx9 B dty)
                        have z9 := tm9.size
                        refine OW.val rfl rfl (EX.strOf Tryz.underlying59 Tryz.underlying5 Tryz.underlying9 rfl (oneB hsb9 (by omega)) (rfl)) ?_
                        refine OW.val rfl rfl (EX.neqS rfl rfl) ?_
                        refine OW.val rfl rfl (EX.pickF rfl rfl) ?_
                        refine OW.nil ?_
                        refine KW.condD rfl (fun t2 => ?_) (fun t2 => ?_)
                        · refine KW.exit rfl (KW.seq (KW.region ?_))
                          refine OW.val rfl rfl (EX.move rfl) ?_
                          refine OW.val rfl rfl (EX.move rfl) ?_
                          refine OW.val rfl rfl (EX.assign rfl) ?_
                          refine OW.val rfl rfl (EX.assign rfl) ?_
                          refine OW.val rfl rfl (EX.assign rfl) ?_
                          refine OW.nil ?_
                          refine KW.ret (ret3 rfl rfl rfl rfl ?_)
                          obtain ⟨q1, q2⟩ := stop2 (.inr t2)
                          exact fin w9 out bh (i + 1) vt vs q1 q2 hdev9 hout9 htx9 tm9
                        · have hno : ¬ (op = [] ∨ x.data ≠ [UInt8.ofNat op.length]) := by
                            rintro (q | q)
                            · rw [q] at t1; exact t1 rfl
                            · exact t2 q
                          obtain ⟨r1, r2⟩ := rep_3 (f := f) (op := op) (out := out) (b := bh) him hde go_ k3' hno
                          refine KW.skip (KW.seq (KW.region ?_))
                          refine OW.val rfl rfl (EX.move rfl) ?_
                          refine OW.val rfl rfl (EX.move rfl) ?_
                          refine OW.pushB (w.heap.size) rfl rfl (fun _ => rfl) rfl Tryz.underlying41 ti23 rfl rfl (fun _ => rfl) (by first | rfl | assumption | exact Own.one (by assumption)) (z9) (hout9) (by simp only [maxLen]; omega) (by omega) ?_
                          rintro _ v10 w10 hout10 hm10 hbl10
                          refine OW.val rfl rfl (EX.move rfl) ?_
                          refine OW.val rfl rfl (by first | exact EX.addN (b := 1) (m := 9223372036854775807) rfl rfl rfl (by omega) | exact EX.addZ (m := 9223372036854775807) rfl rfl rfl rfl (by omega)) ?_
                          refine OW.val rfl rfl (EX.assign rfl) ?_
                          refine OW.val rfl rfl (EX.assign rfl) ?_
                          refine OW.val rfl rfl (EX.assign rfl) ?_
                          refine OW.nil ?_
                          refine KW.exit rfl (KW.region ?_)
                          refine OW.val rfl rfl (EX.move rfl) ?_
                          refine OW.val rfl rfl (by first | exact EX.addN (b := 1) (m := 9223372036854775807) rfl rfl rfl (by omega) | exact EX.addZ (m := 9223372036854775807) rfl rfl rfl rfl (by omega)) ?_
                          refine OW.val rfl rfl (EX.assign rfl) ?_
                          refine OW.nil ?_
                          have t10 := Tm.ownMo hout9 hm10
                          have hown10 := t10.own hown9 (by decide)
                          have htx10 := htx9.tm t10 (by decide)
                          have hdev10 := hdev9.tm t10 (by decide) (by decide) (by decide) (by decide) (by decide) (by decide)
                          have tm10 := tm9.fresh hm10 (fun k hk => (hout9.lt k (Option.mem_toList.1 hk)).1)
                          refine KW.back7 (i + 1) ([]) (out ++ [op]) (i + 1) (.slice none 0 0) (v10) (w10) ⟨rfl, rfl, rfl, rfl, rfl, rfl, trivial⟩ rfl ?_ (by omega)
                          refine ⟨by omega, by omega, by simp, by simp; omega, ?_, ?_, hdev10, Own.nil _ _ _ _, tm10, vs ++ [_], ?_, htx10.snoc hown10, fun k hk => by simp [Value.ownBlock] at hk⟩
                          · rw [hrp, r1, hf2]
                          · rw [hrn, r2, hf2]; omega
                          · rw [List.length_append, List.length_singleton]; exact hout10
                    · have k3' : ¬ x.kind = 3 := by omega
                      refine KW.skip (KW.seq (KW.region ?_))
                      refine OW.val rfl rfl (EX.loadBk Tryz.underlying64 rfl ti64 rfl (hb8) (rfl)) ?_
                      refine OW.call rfl rfl rfl (note_s x hb1 (by omega) w8) ?_
                      rintro _ w9 ⟨⟨n, rfl, hn⟩, hx9⟩
                      refine OW.val rfl rfl (EX.move rfl) ?_
                      refine OW.val rfl rfl (EX.extract rfl rfl) ?_
                      refine OW.val rfl rfl (EX.extract rfl rfl) ?_
                      refine OW.allocB (l := [.int .i64 0, str [], .int .i64 0, .int .i64 0, .int .i64 0, .int .u32 0]) rfl rfl ti39 rfl ?_
                      rintro nb w10 hge10 hn10 hx10
                      refine OW.storeS rfl ti39 rfl rfl rfl (by first | rfl | (simp only [List.all_cons, List.all_nil, Bool.and_true, Bool.true_and, Bool.and_eq_true, Value.oneCell']; repeat (first | assumption | exact Own.one (by assumption) | constructor))) (hn10) (Nat.le_refl _) ?_
                      rintro w11 hn11 hm11
                      refine OW.val rfl rfl (EX.assign rfl) ?_
                      refine OW.nil ?_
                      refine KW.seq (KW.seq (KW.region ?_))
                      refine OW.val rfl rfl (EX.move rfl) ?_
                      refine OW.val rfl rfl (by first | exact EX.notD rfl | exact EX.notB rfl) ?_
                      refine OW.nil ?_
                      replace hn11 : Bk w11 nb 39 n.cells := hn11
                      have x11 : Ext w8 w11 := below_mo (hx9.trans hx10) hm11 (hx9.trans hx10).size (fun k hk => by simp at hk; have := hx9.size; omega)
                      have hown11 := hown8.ext x11
                      have hout11 := hout8.ext x11
                      have htx11 := htx8.ext x11
                      have hdev11 := hdev8.ext x11
                      have tm11 := tm8.trans (Tm.of_ext x11 B dty)
                      have z11 := tm11.size
                      rcases hno : noteOf x with _ | n'
                      · obtain ⟨r1, r2⟩ := rep_4 (f := f) (op := op) (out := out) (b := bh) him hde go_ k3' hno
                        refine KW.condT rfl (KW.exit rfl (KW.seq (KW.region ?_)))
                        refine OW.val rfl rfl (EX.move rfl) ?_
                        refine OW.val rfl rfl (EX.move rfl) ?_
                        refine OW.val rfl rfl (EX.assign rfl) ?_
                        refine OW.val rfl rfl (EX.assign rfl) ?_
                        refine OW.val rfl rfl (EX.assign rfl) ?_
                        refine OW.nil ?_
                        refine KW.ret (ret3 rfl rfl rfl rfl ?_)
                        exact fin w11 out bh (i + 1) vt vs (by rw [hrp, r1]) (by rw [hrn, r2]; omega) hdev11 hout11 htx11 tm11
                      · obtain ⟨r1, r2⟩ := rep_5 (f := f) (op := op) (out := out) (b := bh) him hde go_ k3' hno
                        obtain rfl := hn n' hno
                        refine KW.condF rfl (KW.skip (KW.region ?_))
                        refine OW.val rfl rfl (EX.move rfl) ?_
                        refine OW.val rfl rfl (EX.loadBk Tryz.underlying39 rfl ti39 rfl (hn11) (rfl)) ?_
                        refine OW.pushSB (w.heap.size) rfl rfl (fun _ => rfl) rfl Tryz.underlying23 ti39 rfl (by decide) (by decide) rfl rfl (fun _ => rfl) (by first | rfl | assumption | (simp only [List.all_cons, List.all_nil, Bool.and_true, Bool.true_and, Bool.and_eq_true, Value.oneCell']; repeat (first | assumption | constructor))) (z11) (hown11) (by simp only [maxLen]; omega) (by omega) ?_
                        rintro _ v12 w12 hown12 hm12 hbl12
                        refine OW.val rfl rfl (EX.assign rfl) ?_
                        refine OW.nil ?_
                        refine KW.leave (KW.region ?_)
                        refine OW.val rfl rfl (EX.move rfl) ?_
                        refine OW.val rfl rfl (by first | exact EX.addN (b := 1) (m := 9223372036854775807) rfl rfl rfl (by omega) | exact EX.addZ (m := 9223372036854775807) rfl rfl rfl rfl (by omega)) ?_
                        refine OW.val rfl rfl (EX.assign rfl) ?_
                        refine OW.nil ?_
                        have t12 := Tm.ownMo hown11 hm12
                        have hout12 := t12.own hout11 (by decide)
                        have htx12 := htx11.mo hm12 (fun v hv k hk q => hap k (Option.mem_toList.1 q) v hv hk)
                        have hdev12 := hdev11.tm t12 (by decide) (by decide) (by decide) (by decide) (by decide) (by decide)
                        have tm12 := tm11.fresh hm12 (fun k hk => (hown11.lt k (Option.mem_toList.1 hk)).1)
                        have en : ntsV (op ++ [n']) = ntsV op ++ n'.cells := by simp
                        refine KW.back7 (i + 1) (op ++ [n']) (out) (bh) (v12) (vt) (w12) ⟨rfl, rfl, rfl, rfl, rfl, rfl, trivial⟩ rfl ?_ (by omega)
                        refine ⟨by omega, by omega, by simp; omega, by omega, ?_, ?_, hdev12, ?_, tm12, vs, hout12, htx12, ?_⟩
                        · rw [hrp, r1, hf2]
                        · rw [hrn, r2, hf2]; omega
                        · rw [List.length_append, List.length_singleton, en]; exact hown12
                        · intro k hk v hv q
                          rcases hbl12 with e | ⟨g, e, hg⟩
                          · rw [e] at hk
                            exact hap k hk v hv q
                          · rw [e] at hk
                            cases hk
                            have := (htx11.lt v hv _ q).2.1
                            omega
            · refine KW.exit rfl (KW.seq (KW.region ?_))
              refine OW.val rfl rfl (EX.move rfl) ?_
              refine OW.val rfl rfl (EX.move rfl) ?_
              refine OW.val rfl rfl (EX.assign rfl) ?_
              refine OW.val rfl rfl (EX.assign rfl) ?_
              refine OW.val rfl rfl (EX.assign rfl) ?_
              refine OW.nil ?_
              refine KW.ret (ret3 rfl rfl rfl rfl ?_)
              obtain ⟨q1, q2⟩ := over (fun q => c2 ((hM2 i).1 q).2)
              exact fin wr out bh i vt vs q1 q2 hdev hout htx htm
          · refine OW.pass rfl rfl ?_
            refine OW.pass rfl rfl ?_
            refine OW.pass rfl rfl ?_
            refine OW.pass rfl rfl ?_
            refine OW.pass rfl rfl ?_
            refine OW.val rfl rfl (EX.pickF rfl rfl) ?_
            refine OW.nil ?_
            refine KW.condF rfl (KW.exit rfl (KW.seq (KW.region ?_)))
            refine OW.val rfl rfl (EX.move rfl) ?_
            refine OW.val rfl rfl (EX.move rfl) ?_
            refine OW.val rfl rfl (EX.assign rfl) ?_
            refine OW.val rfl rfl (EX.assign rfl) ?_
            refine OW.val rfl rfl (EX.assign rfl) ?_
            refine OW.nil ?_
            refine KW.ret (ret3 rfl rfl rfl rfl ?_)
            obtain ⟨q1, q2⟩ := over (fun q => c1 (by have := ((hM2 i).1 q).1; omega))
            exact fin wr out bh i vt vs q1 q2 hdev hout htx htm
end Go.Proofs.YtlpnoogcdnfllaaGreatDoor
namespace Go.Proofs.YtlpnoogcdnfllaaGreatDoor
open Go.RowKit Rec Pth Dsk Wal
def TxS (w : World) (C : Nat) : List Value → List (List Nt) → Prop
  | [], [] => True
  | v :: vs, l :: ls => (∃ A c, v = .slice A l.length c ∧ Sl w C A (ntsV l)) ∧ TxS w C vs ls
  | _, _ => False
theorem TxS.len {w : World} {B : Nat} : ∀ {vs : List Value} {ls : List (List Nt)}, TxS w B vs ls → vs.length = ls.length
  | [], [], _ => rfl
  | v :: vs, l :: ls, ⟨_, h2⟩ => by simp [TxS.len h2]
  | [], _ :: _, h => h.elim
  | _ :: _, [], h => h.elim
theorem TxS.at_ {w : World} {B : Nat} : ∀ {vs : List Value} {ls : List (List Nt)}, TxS w B vs ls → ∀ (i : Nat) (hi : i < ls.length), ∃ A c, vs[i]? = some (.slice A (ls[i]).length c) ∧ Sl w B A (ntsV ls[i])
  | [], [], _, i, hi => by simp at hi
  | v :: vs, l :: ls, ⟨⟨A, c, e, h1⟩, h2⟩, 0, hi => ⟨A, c, by simp [e], h1⟩
  | v :: vs, l :: ls, ⟨h1, h2⟩, i + 1, hi => by
    obtain ⟨A, c, h3, h4⟩ := TxS.at_ h2 i (by simpa using hi)
    exact ⟨A, c, by simpa using h3, by simpa using h4⟩
  | [], _ :: _, h, _, _ => h.elim
  | _ :: _, [], h, _, _ => h.elim
theorem TxS.snoc {w : World} {B : Nat} : ∀ {vs : List Value} {ls : List (List Nt)} {A : Option Addr} {c : Nat} {l : List Nt}, TxS w B vs ls → Sl w B A (ntsV l) → TxS w B (vs ++ [.slice A l.length c]) (ls ++ [l])
  | [], [], _, _, _, _, h => ⟨⟨_, _, rfl, h⟩, trivial⟩
  | v :: vs, l :: ls, _, _, _, ⟨h1, h2⟩, h => ⟨h1, TxS.snoc h2 h⟩
  | [], _ :: _, _, _, _, h, _ => h.elim
  | _ :: _, [], _, _, _, h, _ => h.elim
theorem TxS.below {w w' : World} {B C : Nat} (hx : Below C w w') (hB : B ≤ C) : ∀ {vs : List Value} {ls : List (List Nt)}, TxS w B vs ls → TxS w' B vs ls
  | [], [], h => h
  | v :: vs, l :: ls, ⟨⟨A, c, e, h1⟩, h2⟩ => ⟨⟨A, c, e, h1.keep fun p hp => hx.cell (Nat.lt_of_lt_of_le hp hB)⟩, TxS.below hx hB h2⟩
  | [], _ :: _, h => h.elim
  | _ :: _, [], h => h.elim
theorem TxS.ext {w w' : World} {B : Nat} (hx : Ext w w') : ∀ {vs : List Value} {ls : List (List Nt)}, TxS w B vs ls → TxS w' B vs ls
  | [], [], h => h
  | v :: vs, l :: ls, ⟨⟨A, c, e, h1⟩, h2⟩ => ⟨⟨A, c, e, h1.ext hx⟩, TxS.ext hx h2⟩
  | [], _ :: _, h => h.elim
  | _ :: _, [], h => h.elim
theorem TxO.txs {w : World} {B : Nat} : ∀ {vs : List Value} {ls : List (List Nt)}, TxO w B vs ls → TxS w w.heap.size vs ls
  | [], [], _ => trivial
  | v :: vs, l :: ls, ⟨h1, h2⟩ => by
    obtain ⟨A, c, e, _, h3⟩ := h1.slice
    exact ⟨⟨A, c, e, h3⟩, TxO.txs h2⟩
  | [], _ :: _, h => h.elim
  | _ :: _, [], h => h.elim
theorem TxS.take {w : World} {B : Nat} : ∀ {vs : List Value} {ls : List (List Nt)} (n : Nat), TxS w B vs ls → TxS w B (vs.take n) (ls.take n)
  | [], [], n, h => by simp [TxS]
  | v :: vs, l :: ls, 0, h => by simp [TxS]
  | v :: vs, l :: ls, n + 1, ⟨h1, h2⟩ => ⟨h1, TxS.take n h2⟩
  | [], _ :: _, _, h => h.elim
  | _ :: _, [], _, h => h.elim
set_option maxRecDepth 20000 in
theorem same_s (ls1 ls2 : List (List Nt)) (vs1 vs2 : List Value) (A1 A2 : Option Addr) (k1 k2 : Nat) (w : World) (B1 B2 C1 C2 : Nat) (h1 : Sl w B1 A1 vs1) (h2 : Sl w B2 A2 vs2) (x1 : TxS w C1 vs1 ls1) (x2 : TxS w C2 vs2 ls2) (hn : ls1.length ≤ 1000000000000) (hb : ∀ l ∈ ls1, l.length ≤ 140737488355328) :
    Ret Tryz.prog 13 [.slice A1 ls1.length k1, .slice A2 ls2.length k2] w fun v w' => v = .bool (decide (ls1 = ls2)) ∧ Ext w w' := by
  have e1 := x1.len
  have e2 := x2.len
  refine Ret.enter Tryz.func13 rfl Tryz.ntmps13 (by kernel_rfl) rfl ?_
  refine KW.seq (KW.region ?_)
  refine OW.val rfl rfl (EX.assign rfl) ?_
  refine OW.nil ?_
  refine KW.seq (KW.seq (KW.region ?_))
  refine OW.val rfl rfl (EX.move rfl) ?_
  refine OW.val rfl rfl (EX.lenA Tryz.underlying41 rfl) ?_
  refine OW.val rfl rfl (EX.move rfl) ?_
  refine OW.val rfl rfl (EX.lenA Tryz.underlying41 rfl) ?_
  refine OW.val rfl rfl (by first | exact EX.neqN rfl rfl | exact EX.neqZ rfl rfl) ?_
  refine OW.nil ?_
  refine KW.condD rfl (fun hl => ?_) (fun hl => ?_)
  · refine KW.seq (KW.region ?_)
    refine OW.val rfl rfl (EX.assign rfl) ?_
    refine OW.nil ?_
    refine KW.ret (ret1 rfl rfl ?_)
    refine ⟨congrArg Value.bool (decide_eq_false (fun e => hl (by rw [e]))).symm, Ext.refl _⟩
  · have hll : ls1.length = ls2.length := by omega
    refine KW.skip (KW.seq (KW.seq (KW.region ?_)))
    refine OW.val rfl rfl (EX.assign rfl) ?_
    refine OW.nil ?_
    refine KW.block ?_
    refine KW.loop2 (fun (i : Nat) (wr : World) => i ≤ ls1.length ∧ (∀ j, j < i → ls1[j]? = ls2[j]?) ∧ Ext w wr) (fun (i : Nat) (wr : World) => [(0, .slice A1 ls1.length k1), (1, .slice A2 ls2.length k2), (5, .int .i64 ((i : Nat) : Int))]) (fun (i : Nat) (wr : World) => wr) (fun (i : Nat) (wr : World) => ls1.length - i) (0) (w) ⟨rfl, rfl, rfl, trivial⟩ rfl ?_ ?_
    · exact ⟨by omega, fun j hj => by omega, Ext.refl _⟩
    · rintro i wr ⟨hi, he, hx⟩
      refine KW.seq (KW.seq (KW.region ?_))
      refine OW.val rfl rfl (EX.move rfl) ?_
      refine OW.val rfl rfl (EX.move rfl) ?_
      refine OW.val rfl rfl (EX.lenA Tryz.underlying41 rfl) ?_
      refine OW.val rfl rfl (by first | exact EX.lssN rfl rfl | exact EX.lssZ rfl rfl) ?_
      refine OW.nil ?_
      refine KW.condD rfl (fun hlt => ?_) (fun hlt => ?_)
      · have hlt2 : i < ls2.length := by omega
        obtain ⟨a1, c1, g1, s1⟩ := (x1.ext hx).at_ i hlt
        obtain ⟨a2, c2, g2, s2⟩ := (x2.ext hx).at_ i hlt2
        obtain ⟨b1, o1, rfl, _, hc1⟩ := (h1.ext hx).at_ (by omega)
        obtain ⟨b2, o2, rfl, _, hc2⟩ := (h2.ext hx).at_ (by omega)
        have hbi := hb ls1[i] (List.getElem_mem hlt)
        have hi1 : ls1[i]? = some ls1[i] := List.getElem?_eq_getElem hlt
        have hi2 : ls2[i]? = some ls2[i] := List.getElem?_eq_getElem hlt2
        generalize ls1[i] = l1 at g1 s1 hbi hi1
        generalize ls2[i] = l2 at g2 s2 hi2
        refine KW.skip (KW.seq (KW.block (KW.seq (KW.seq ?_))))
        refine KW.regionQ (by kernel_rfl) (by kernel_rfl) ?_
        refine QW.val rfl rfl (fun _ => EX.move rfl) ?_
        refine QW.val rfl rfl (fun _ => EX.move rfl) ?_
        refine QW.val rfl rfl (fun _ => by first | exact EX.indexAddrS0 Tryz.underlying41 ti23 rfl rfl (by omega) | exact EX.indexAddrS1 Tryz.underlying41 ti23 rfl rfl (by omega)) ?_
        refine QW.val rfl rfl (fun _ => EX.load Tryz.underlying23 rfl rfl (hc1 i _ g1)) ?_
        refine QW.val rfl rfl (fun _ => EX.lenA Tryz.underlying23 rfl) ?_
        refine QW.val rfl rfl (fun _ => EX.move rfl) ?_
        refine QW.val rfl rfl (fun _ => EX.move rfl) ?_
        refine QW.val rfl rfl (fun _ => by first | exact EX.indexAddrS0 Tryz.underlying41 ti23 rfl rfl (by omega) | exact EX.indexAddrS1 Tryz.underlying41 ti23 rfl rfl (by omega)) ?_
        refine QW.val rfl rfl (fun _ => EX.load Tryz.underlying23 rfl rfl (hc2 i _ g2)) ?_
        refine QW.val rfl rfl (fun _ => EX.lenA Tryz.underlying23 rfl) ?_
        refine QW.val rfl rfl (fun _ => by first | exact EX.neqN rfl rfl | exact EX.neqZ rfl rfl) ?_
        refine QW.nil (fun nq => ?_)
        refine KW.condD rfl (fun hlen => ?_) (fun hlen => ?_)
        · refine KW.seq (KW.region ?_)
          refine OW.val rfl rfl (EX.assign rfl) ?_
          refine OW.nil ?_
          refine KW.ret (ret1 rfl rfl ?_)
          refine ⟨congrArg Value.bool (decide_eq_false (fun e => hlen ?_)).symm, hx.trans (Ext.drewN wr nq)⟩
          rw [e, hi2] at hi1
          cases hi1
          rfl
        · have hll2 : l1.length = l2.length := by omega
          refine KW.skip (KW.seq (KW.region ?_))
          refine OW.val rfl rfl (EX.assign rfl) ?_
          refine OW.nil ?_
          refine KW.block ?_
          refine KW.loop2 (fun (k : Nat) (wq : World) => k ≤ l1.length ∧ (∀ j, j < k → l1[j]? = l2[j]?) ∧ Ext wr wq) (fun (k : Nat) (wq : World) => [(0, .slice (some ⟨b1, o1, none⟩) ls1.length k1), (1, .slice (some ⟨b2, o2, none⟩) ls2.length k2), (5, .int .i64 ((i : Nat) : Int)), (6, .int .i64 ((k : Nat) : Int))]) (fun (k : Nat) (wq : World) => wq) (fun (k : Nat) (wq : World) => l1.length - k) (0) (wr.drewN nq) ⟨rfl, rfl, rfl, rfl, trivial⟩ rfl ?_ ?_
          · exact ⟨by omega, fun j hj => by omega, Ext.drewN wr nq⟩
          · rintro k wq ⟨hk, hek, hxq⟩
            have hc1q : ∀ j u, vs1[j]? = some u → wq.cell? ⟨b1, o1 + j, none⟩ = some u := by
              obtain ⟨b1', o1', e', _, hc⟩ := ((h1.ext hx).ext hxq).at_ (by omega)
              cases e'
              exact hc
            have hc2q : ∀ j u, vs2[j]? = some u → wq.cell? ⟨b2, o2 + j, none⟩ = some u := by
              obtain ⟨b1', o1', e', _, hc⟩ := ((h2.ext hx).ext hxq).at_ (by omega)
              cases e'
              exact hc
            refine KW.seq (KW.seq (KW.region ?_))
            refine OW.val rfl rfl (EX.move rfl) ?_
            refine OW.val rfl rfl (EX.move rfl) ?_
            refine OW.val rfl rfl (EX.move rfl) ?_
            refine OW.val rfl rfl (by first | exact EX.indexAddrS0 Tryz.underlying41 ti23 rfl rfl (by omega) | exact EX.indexAddrS1 Tryz.underlying41 ti23 rfl rfl (by omega)) ?_
            refine OW.val rfl rfl (EX.load Tryz.underlying23 rfl rfl (hc1q i _ g1)) ?_
            refine OW.val rfl rfl (EX.lenA Tryz.underlying23 rfl) ?_
            refine OW.val rfl rfl (by first | exact EX.lssN rfl rfl | exact EX.lssZ rfl rfl) ?_
            refine OW.nil ?_
            refine KW.condD rfl (fun hlk => ?_) (fun hlk => ?_)
            · have hlk2 : k < l2.length := by omega
              obtain ⟨b3, o3, rfl, _, hd1⟩ := (s1.ext hxq).flat (c := 6) (fun _ => rfl) (by decide) hlk
              obtain ⟨b4, o4, rfl, _, hd2⟩ := (s2.ext hxq).flat (c := 6) (fun _ => rfl) (by decide) hlk2
              refine KW.skip (KW.seq (KW.block (KW.seq ?_)))
              refine KW.regionQ (by kernel_rfl) (by kernel_rfl) ?_
              refine QW.val rfl rfl (fun _ => EX.move rfl) ?_
              refine QW.val rfl rfl (fun _ => EX.move rfl) ?_
              refine QW.val rfl rfl (fun _ => by first | exact EX.indexAddrS0 Tryz.underlying41 ti23 rfl rfl (by omega) | exact EX.indexAddrS1 Tryz.underlying41 ti23 rfl rfl (by omega)) ?_
              refine QW.val rfl rfl (fun _ => EX.load Tryz.underlying23 rfl rfl (hc1q i _ g1)) ?_
              refine QW.val rfl rfl (fun _ => EX.move rfl) ?_
              refine QW.val rfl rfl (fun _ => EX.indexAddrS Tryz.underlying23 ti39 rfl rfl (by omega)) ?_
              refine QW.val rfl rfl (fun _ => EX.loadA (w := wq.drewN _) (l := (l1[k]).cells) Tryz.underlying39 rfl ti39 rfl rfl hd1) ?_
              refine QW.val rfl rfl (fun _ => EX.move rfl) ?_
              refine QW.val rfl rfl (fun _ => EX.move rfl) ?_
              refine QW.val rfl rfl (fun _ => by first | exact EX.indexAddrS0 Tryz.underlying41 ti23 rfl rfl (by omega) | exact EX.indexAddrS1 Tryz.underlying41 ti23 rfl rfl (by omega)) ?_
              refine QW.val rfl rfl (fun _ => EX.load Tryz.underlying23 rfl rfl (hc2q i _ g2)) ?_
              refine QW.val rfl rfl (fun _ => EX.move rfl) ?_
              refine QW.val rfl rfl (fun _ => EX.indexAddrS Tryz.underlying23 ti39 rfl rfl (by omega)) ?_
              refine QW.val rfl rfl (fun _ => EX.loadA (w := wq.drewN _) (l := (l2[k]).cells) Tryz.underlying39 rfl ti39 rfl rfl hd2) ?_
              refine QW.val rfl rfl (fun _ => EX.neqV Tryz.underlying39 (by kernel_rfl) (by kernel_rfl) rfl rfl (FE.one (by decide) Tryz.underlying3 rfl rfl rfl (eq_int Tryz.underlying3) (FE.str (by decide) Tryz.underlying27 (by kernel_rfl) ti27 rfl rfl (.cons (by decide) Tryz.underlying9 rfl rfl rfl (eq_str Tryz.underlying9) (.cons (by decide) Tryz.underlying3 rfl rfl rfl (eq_int Tryz.underlying3) (.cons (by decide) Tryz.underlying3 rfl rfl rfl (eq_int Tryz.underlying3) (.cons (by decide) Tryz.underlying3 rfl rfl rfl (eq_int Tryz.underlying3) (.cons (by decide) Tryz.underlying25 rfl rfl rfl (eq_int Tryz.underlying25) FEqs.nil))))) FE.nil)) rfl) ?_
              refine QW.nil (fun nq => ?_)
              refine KW.as 52 (.bool (decide (l1[k] ≠ l2[k]))) rfl (congrArg Value.bool (nt_ne _ _)) ?_
              refine KW.condD rfl (fun hne => ?_) (fun hne => ?_)
              · refine KW.seq (KW.region ?_)
                refine OW.val rfl rfl (EX.assign rfl) ?_
                refine OW.nil ?_
                refine KW.ret (ret1 rfl rfl ?_)
                refine ⟨congrArg Value.bool (decide_eq_false (fun e => hne ?_)).symm, (hx.trans hxq).trans (Ext.drewN wq _)⟩
                rw [e, hi2] at hi1
                cases hi1
                rfl
              · refine KW.skip (KW.leave (KW.region ?_))
                refine OW.val rfl rfl (EX.move rfl) ?_
                refine OW.val rfl rfl (by first | exact EX.addN (b := 1) (m := 9223372036854775807) rfl rfl rfl (by omega) | exact EX.addZ (m := 9223372036854775807) rfl rfl rfl rfl (by omega)) ?_
                refine OW.val rfl rfl (EX.assign rfl) ?_
                refine OW.nil ?_
                refine KW.back2 (k + 1) (wq.drewN _) ⟨rfl, rfl, rfl, rfl, trivial⟩ rfl ?_ (by omega)
                refine ⟨by omega, fun j hj => ?_, hxq.trans (Ext.drewN wq _)⟩
                by_cases e : j = k
                · subst e
                  rw [List.getElem?_eq_getElem hlk, List.getElem?_eq_getElem hlk2]
                  exact congrArg some (by simpa using hne)
                · exact hek j (by omega)
            · obtain rfl : k = l1.length := by omega
              have el : l1 = l2 := by
                apply List.ext_getElem?
                intro j
                by_cases hj : j < l1.length
                · exact hek j hj
                · rw [List.getElem?_eq_none (by omega), List.getElem?_eq_none (by omega)]
              refine KW.exit rfl (KW.leave (KW.region ?_))
              refine OW.val rfl rfl (EX.move rfl) ?_
              refine OW.val rfl rfl (by first | exact EX.addN (b := 1) (m := 9223372036854775807) rfl rfl rfl (by omega) | exact EX.addZ (m := 9223372036854775807) rfl rfl rfl rfl (by omega)) ?_
              refine OW.val rfl rfl (EX.assign rfl) ?_
              refine OW.nil ?_
              refine KW.back2 (i + 1) (wq) ⟨rfl, rfl, rfl, trivial⟩ rfl ?_ (by omega)
              refine ⟨by omega, fun j hj => ?_, hx.trans hxq⟩
              by_cases e : j = i
              · subst e
                rw [hi1, hi2, el]
              · exact he j (by omega)
      · obtain rfl : i = ls1.length := by omega
        refine KW.exit rfl (KW.seq (KW.region ?_))
        refine OW.val rfl rfl (EX.assign rfl) ?_
        refine OW.nil ?_
        refine KW.ret (ret1 rfl rfl ?_)
        refine ⟨congrArg Value.bool (decide_eq_true ?_).symm, hx⟩
        apply List.ext_getElem?
        intro j
        by_cases hj : j < ls1.length
        · exact he j hj
        · rw [List.getElem?_eq_none (by omega), List.getElem?_eq_none (by omega)]
end Go.Proofs.YtlpnoogcdnfllaaGreatDoor
namespace Go.Proofs.YtlpnoogcdnfllaaGreatDoor.Wal
open Go.RowKit Rec Pth Dsk
def chs : Nat → List By → List Ch
  | _, [] => []
  | i, t :: T => .write i t :: chs (i + 1) T
def apAll : Nat → List By → By → By
  | _, [], s => s
  | i, t :: T, s => apAll (i + 1) T ((Ch.write i t).ap s)
theorem mod_write {s t : By} {i : Nat} (ht : t.length = 512) (hm : s.length % 512 = 0) : ((Ch.write i t).ap s).length % 512 = 0 := by
  rw [len_write ht hm]
  omega
theorem apAll_len : ∀ (T : List By) (i : Nat) (s : By), (∀ t ∈ T, t.length = 512) → s.length % 512 = 0 → (apAll i T s).length = if T = [] then s.length else max s.length ((i + T.length) * 512)
  | [], i, s, _, _ => rfl
  | t :: T, i, s, hT, hm => by
    have ht := hT t (by simp)
    rw [apAll, apAll_len T (i + 1) _ (fun x hx => hT x (by simp [hx])) (mod_write ht hm), len_write ht hm, if_neg (List.cons_ne_nil _ _), List.length_cons]
    split
    · rename_i e
      subst e
      rfl
    · omega
theorem apAll_sec : ∀ (T : List By) (i : Nat) (s : By), (∀ t ∈ T, t.length = 512) → s.length % 512 = 0 → ∀ j, (i ≤ j ∧ j < i + T.length) ∨ j < s.length / 512 → sec (apAll i T s) j = if i ≤ j ∧ j < i + T.length then T.getD (j - i) [] else sec s j
  | [], i, s, _, _, j, _ => by
    rw [apAll, if_neg (by simp only [List.length_nil]; omega)]
  | t :: T, i, s, hT, hm, j, hj => by
    have ht := hT t (by simp)
    have hlen := len_write (i := i) ht hm
    simp only [List.length_cons] at hj ⊢
    rw [apAll, apAll_sec T (i + 1) _ (fun x hx => hT x (by simp [hx])) (mod_write ht hm) j (by rw [hlen]; omega)]
    by_cases h1 : i + 1 ≤ j ∧ j < i + 1 + T.length
    · rw [if_pos h1, if_pos (by omega), show j - i = (j - (i + 1)) + 1 by omega]
      rfl
    · rw [if_neg h1, sec_write hm ht (by omega)]
      by_cases h2 : j = i
      · subst h2
        rw [if_pos rfl, if_pos (by omega), Nat.sub_self]
        rfl
      · rw [if_neg h2, if_neg (by omega)]
theorem write_live {D : Dv} (h1 : D.dead = false) (h2 : D.at_ ≠ 1) {i : Nat} (hi : i < D.cap) {t : By} (ht : t.length = 512) :
    D.write (i : Int) t = ({ D with pend := D.pend ++ [.write i t], now := (Ch.write i t).ap D.now, at_ := D.at_ - 1, calls := D.calls + 1 }, 0) := by
  unfold Dv.write
  rw [if_neg (by rw [h1]; decide), if_neg (by omega), if_neg (by omega), does_go (by exact h2)]
  rfl
theorem writes_live : ∀ (T : List By) (D : Dv) (i : Nat), D.dead = false → (D.at_ = 0 ∨ T.length < D.at_) → (∀ t ∈ T, t.length = 512) → i + T.length ≤ D.cap →
    writes D i T = ({ D with pend := D.pend ++ chs i T, now := apAll i T D.now, at_ := D.at_ - T.length, calls := D.calls + T.length }, 0)
  | [], D, i, _, _, _, _ => by
    obtain ⟨a, b, c, d, e, f, g, h⟩ := D
    simp [writes, chs, apAll]
  | t :: T, D, i, h1, h2, hT, hi => by
    simp only [List.length_cons] at hi h2
    have ih := writes_live T { D with pend := D.pend ++ [.write i t], now := (Ch.write i t).ap D.now, at_ := D.at_ - 1, calls := D.calls + 1 } (i + 1) h1 (by simp only; omega) (fun x hx => hT x (by simp [hx])) (by simp only; omega)
    rw [writes_cons, write_live h1 (by omega) (by omega) (hT t (by simp)), if_pos rfl]
    simp only
    rw [ih]
    simp only [chs, apAll, List.append_assoc, List.cons_append, List.nil_append, List.length_cons]
    congr 2
    · omega
    · omega
structure Quiet (D : Dv) (rd : Nat → By) (n : Nat) : Prop where
  ok : D.Ok
  cap : D.cap = 40
  dead : D.dead = false
  at_ : D.at_ = 0
  pend : D.pend = []
  kept : D.kept = D.now
  len : D.now.length = if n = 0 then 0 else (10 + n) * 512
  rd : ∀ k, k < n → sec D.now (10 + k) = rd k
  le : n ≤ 20
theorem Quiet.fresh (rd : Nat → By) : Quiet (fresh 40 []) rd 0 := ⟨fresh_ok (by decide) (by decide) (by decide), rfl, rfl, rfl, rfl, rfl, rfl, fun k hk => by omega, by omega⟩
theorem Quiet.as {D : Dv} {rd rd' : Nat → By} {n : Nat} (h : Quiet D rd n) (e : ∀ k, k < n → rd k = rd' k) : Quiet D rd' n := ⟨h.ok, h.cap, h.dead, h.at_, h.pend, h.kept, h.len, fun k hk => (h.rd k hk).trans (e k hk), h.le⟩
theorem Quiet.logN {D : Dv} {rd : Nat → By} {n : Nat} (h : Quiet D rd n) : logN D.now = n := by
  have h1 := h.len
  have h2 := h.le
  unfold Wal.logN
  rw [h1]
  split <;> omega
def over (rd : Nat → By) (a : Nat) (T : List By) : Nat → By := fun k => if a ≤ k ∧ k < a + T.length then T.getD (k - a) [] else rd k
theorem quiet_append {D : Dv} {rd : Nat → By} {n g a : Nat} {l : List Nt} (h : Quiet D rd n) (hg : g ≤ 4611686018427387904) (ha : a ≤ n) (hne : l ≠ []) (hl : a + l.length + 1 ≤ 20) (hm : ∀ x ∈ l, mayN x) :
    ∃ D', appendW D (g : Int) (a : Int) l = (D', (a : Int) + l.length + 1, 0) ∧ Quiet D' (over rd a (txs g a l)) (max n (a + l.length + 1)) := by
  have hnb : ¬ badW (g : Int) (a : Int) l.length := by
    have : l.length ≠ 0 := fun e => hne (List.eq_nil_of_length_eq_zero e)
    unfold badW
    omega
  have hT := txs_len (g := g) (i := a) hm
  have hTl := txs_length g a l
  rw [app_go hnb hm]
  simp only [Int.toNat_natCast]
  generalize txs g a l = T at hT hTl
  have hTne : T ≠ [] := fun e => by rw [e] at hTl; simp at hTl
  rw [writes_live T D (10 + a) h.dead (.inl h.at_) hT (by rw [h.cap]; omega)]
  simp only [if_true]
  have hs : Dv.sync { D with pend := D.pend ++ chs (10 + a) T, now := apAll (10 + a) T D.now, at_ := D.at_ - T.length, calls := D.calls + T.length } = ({ D with pend := [], kept := apAll (10 + a) T D.now, now := apAll (10 + a) T D.now, at_ := 0, calls := D.calls + T.length + 1 }, 0) := by
    unfold Dv.sync
    rw [if_neg (by show ¬ D.dead = true; rw [h.dead]; decide), does_go (by show D.at_ - T.length ≠ 1; rw [h.at_]; omega)]
    simp only [Dv.done, Dv.pushed, h.at_, Nat.zero_sub]
  rw [hs]
  simp only [if_true]
  refine ⟨_, rfl, ?_⟩
  have hlen := h.len
  have hle := h.le
  have hmod := h.ok.nowM
  have hla := apAll_len T (10 + a) D.now hT hmod
  rw [if_neg hTne] at hla
  have hlb : (apAll (10 + a) T D.now).length = (10 + max n (a + l.length + 1)) * 512 := by
    rw [hla, hlen]
    split <;> omega
  refine ⟨⟨h.ok.cap, ?_, ?_, ?_, ?_, fun c hc => by simp at hc⟩, h.cap, h.dead, rfl, rfl, rfl, ?_, ?_, by omega⟩
  · show (apAll (10 + a) T D.now).length ≤ 512 * D.cap
    rw [hlb, h.cap]; omega
  · show (apAll (10 + a) T D.now).length ≤ 512 * D.cap
    rw [hlb, h.cap]; omega
  · show (apAll (10 + a) T D.now).length % 512 = 0
    rw [hlb]; omega
  · show (apAll (10 + a) T D.now).length % 512 = 0
    rw [hlb]; omega
  · show (apAll (10 + a) T D.now).length = _
    rw [hlb, if_neg (by omega)]
  · intro k hk
    show sec (apAll (10 + a) T D.now) (10 + k) = _
    have hj : (10 + a ≤ 10 + k ∧ 10 + k < 10 + a + T.length) ∨ 10 + k < D.now.length / 512 := by
      rw [hlen]
      by_cases q : k < n
      · right
        rw [if_neg (by omega)]
        omega
      · left
        omega
    rw [apAll_sec T (10 + a) D.now hT hmod (10 + k) hj]
    unfold over
    by_cases q : a ≤ k ∧ k < a + T.length
    · rw [if_pos q, if_pos (by omega), show 10 + k - (10 + a) = k - a by omega]
    · rw [if_neg q, if_neg (by omega)]
      exact h.rd k (by omega)
theorem txs_gen {g a : Nat} {l : List Nt} (hg : g ≤ 4611686018427387904) (hl : Good l) (ha : a + l.length ≤ 2147483647) (h2 : l.length ≤ 100) : ∀ k, k < l.length + 1 → (decodeR ((txs g a l).getD k [])).1.gen = (g : Int) := by
  intro k hk
  by_cases q : k < l.length
  · rw [txs_note g a l q, (rd_recs hg l a hl ha k q).eq]
  · obtain rfl : k = l.length := by omega
    rw [txs_end, (rd_text (k := 3) (by decide) hg ha (by simp)).eq]
theorem lay_at {g : Nat} : ∀ (ls : List (List Nt)) (i : Nat), i + total ls ≤ 20 → g ≤ 4611686018427387904 → Goods ls → ∀ k, k < total ls → (decodeR ((lay g i ls).getD k [])).1.gen = (g : Int)
  | [], i, _, _, _, k, hk => by simp [total] at hk
  | l :: ls, i, hi, hg, hl, k, hk => by
    rw [total_cons] at hi hk
    have h1 := hl l (by simp)
    by_cases q : k < l.length + 1
    · have e : (lay g i (l :: ls)).getD k [] = (txs g i l).getD k [] := by
        rw [lay]
        simp only [List.getD_eq_getElem?_getD]
        rw [List.getElem?_append_left (by rw [txs_length]; exact q)]
      rw [e]
      exact txs_gen hg h1.1 (by omega) (by omega) k q
    · have e : (lay g i (l :: ls)).getD k [] = (lay g (i + l.length + 1) ls).getD (k - (l.length + 1)) [] := by
        rw [lay]
        simp only [List.getD_eq_getElem?_getD]
        rw [List.getElem?_append_right (by rw [txs_length]; omega), txs_length]
      rw [e]
      exact lay_at ls _ (by omega) hg (fun x hx => hl x (by simp [hx])) _ (by omega)
theorem rep_end0 {gen : Int} {rd : Nat → By} {m f i : Nat} {op : List Nt} {out : List (List Nt)} {b : Nat} (hi : m ≤ i) : rep gen rd m f i op out b = (out, b) := by
  cases f with
  | zero => rfl
  | succ f => rw [rep, if_neg (by omega)]
theorem rep_stop {gen : Int} {rd : Nat → By} {m f i : Nat} {op : List Nt} {out : List (List Nt)} {b : Nat} (hf : 0 ≤ f) (h : (decodeR (rd i)).1.gen ≠ gen) : rep gen rd m f i op out b = (out, b) := by
  cases f with
  | zero => rfl
  | succ f =>
    rw [rep]
    split
    · simp only
      rw [if_pos (.inr (.inl h))]
    · rfl
theorem quiet_replay {D : Dv} {g : Nat} {ls : List (List Nt)} (h : Quiet D (fun k => (lay g 0 ls).getD k []) (total ls)) (hg : g ≤ 4611686018427387904) (hl : Goods ls) : replayD D (g : Int) = ((ls, total ls), 0) := by
  have hle := h.le
  unfold replayD
  rw [if_neg (by unfold badG; omega), h.dead, if_neg (by decide)]
  unfold replay
  rw [h.logN]
  have hr := rep_all (rd := fun i => sec D.now (10 + i)) (m := total ls) hg hle ls (21 - total ls) 0 [] 0 hl (fun k hk => by rw [Nat.zero_add]; exact h.rd k hk) (by omega)
  rw [show 21 - total ls + total ls = 21 by omega] at hr
  rw [hr, rep_over (by omega), List.nil_append]
  by_cases e : ls = []
  · subst e; rfl
  · rw [if_neg e, Nat.zero_add]
theorem quiet_other {D : Dv} {g : Nat} {ls : List (List Nt)} (h : Quiet D (fun k => (lay g 0 ls).getD k []) (total ls)) (hg : g ≤ 4611686018427387904) (hl : Goods ls) {o : Int} (ho : ¬ badG o) (hne : o ≠ (g : Int)) : replayD D o = (([], 0), 0) := by
  have hle := h.le
  unfold replayD
  rw [if_neg ho, h.dead, if_neg (by decide)]
  unfold replay
  rw [h.logN]
  by_cases q : 0 < total ls
  · have e : (decodeR (sec D.now (10 + 0))).1.gen = (g : Int) := by
      rw [h.rd 0 q]
      exact lay_at ls 0 (by omega) hg hl 0 q
    rw [rep_stop (by omega) (by rw [e]; exact fun q => hne q.symm)]
  · rw [rep_end0 (by omega)]
theorem Quiet.replayed {D : Dv} {rd : Nat → By} {n : Nat} (h : Quiet D rd n) (gen : Int) : Quiet (replayed D gen) rd n := ⟨replayed_ok h.ok gen, h.cap, h.dead, h.at_, h.pend, h.kept, h.len, h.rd, h.le⟩
theorem total_snoc (ls : List (List Nt)) (l : List Nt) : total (ls ++ [l]) = total ls + l.length + 1 := by simp [total]; omega
def onto (g : Nat) (ls : List (List Nt)) (rd : Nat → By) : Nat → By := fun k => if k < total ls then (lay g 0 ls).getD k [] else rd k
theorem quiet_more {D : Dv} {rd : Nat → By} {n g : Nat} {ls : List (List Nt)} {l : List Nt} (h : Quiet D (onto g ls rd) n) (hg : g ≤ 4611686018427387904) (ha : total ls ≤ n) (hne : l ≠ []) (hl : total ls + l.length + 1 ≤ 20) (hm : ∀ x ∈ l, mayN x) :
    ∃ D', appendW D (g : Int) (total ls : Int) l = (D', ((total ls + l.length + 1 : Nat) : Int), 0) ∧ Quiet D' (onto g (ls ++ [l]) rd) (max n (total ls + l.length + 1)) := by
  obtain ⟨D', h1, h2⟩ := quiet_append h hg ha hne hl hm
  refine ⟨D', by rw [h1]; rfl, h2.as fun k hk => ?_⟩
  unfold over onto
  rw [total_snoc, lay_snoc, Nat.zero_add, txs_length]
  by_cases q : k < total ls
  · rw [if_neg (by omega), if_pos q, if_pos (by omega)]
    simp only [List.getD_eq_getElem?_getD]
    rw [List.getElem?_append_left (by rw [lay_length]; exact q)]
  · by_cases q2 : k < total ls + l.length + 1
    · rw [if_pos (by omega), if_pos q2]
      simp only [List.getD_eq_getElem?_getD]
      rw [List.getElem?_append_right (by rw [lay_length]; omega), lay_length]
    · rw [if_neg (by omega), if_neg q, if_neg q2]
theorem quiet_lay {D : Dv} {rd : Nat → By} {g : Nat} {ls : List (List Nt)} (h : Quiet D (onto g ls rd) (total ls)) : Quiet D (fun k => (lay g 0 ls).getD k []) (total ls) := h.as fun k hk => by unfold onto; rw [if_pos hk]
def okT (a : Nat) (l : List Nt) : Prop := 0 < l.length ∧ l.length + a < 20 ∧ ∀ n ∈ l, n.kind = 1 ∧ mayM n.mem
instance (a : Nat) (l : List Nt) : Decidable (okT a l) := by unfold okT; infer_instance
def pick (r : List (List Nt) × Nat) (l : List Nt) : List (List Nt) × Nat := if okT r.2 l then (r.1 ++ [l], r.2 + l.length + 1) else r
theorem may_okT {n : Nt} (h : n.kind = 1 ∧ mayM n.mem) : mayN n := by
  unfold mayN noteD
  rw [if_pos h.1, if_pos h.2]
  simp
end Go.Proofs.YtlpnoogcdnfllaaGreatDoor.Wal
namespace Go.Proofs.YtlpnoogcdnfllaaGreatDoor
open Go.RowKit Rec Pth Dsk Wal
theorem append_q {D : Dv} {rd : Nat → List UInt8} {n g k : Nat} {ls : List (List Nt)} {l : List Nt} (hq : Quiet D (onto g ls rd) n) (hsm : Sm D k) (hk : k ≤ 800000) (hg : g ≤ 4611686018427387904) (ha : total ls ≤ n) (hne : l ≠ []) (hl : total ls + l.length + 1 ≤ 20) (hm : ∀ x ∈ l, mayN x) (hok : ∀ n ∈ l, n.mem.Ok)
    (B b : Nat) (A : Option Addr) (c C : Nat) (w : World) (h : DevAt w B b D) (hs : Sl w C A (ntsV l)) :
    Ret Tryz.prog 9 [.pointer (some ⟨b, 0, none⟩), .int .i64 (g : Int), .int .i64 (total ls : Int), .slice A l.length c] w fun v w' => v = .tuple #[.int .i64 ((total ls + l.length + 1 : Nat) : Int), .int .i64 0] ∧ Tm w w' B dty ∧ ∃ D', Quiet D' (onto g (ls ++ [l]) rd) (max n (total ls + l.length + 1)) ∧ Sm D' (k + 21) ∧ DevAt w' B b D' := by
  obtain ⟨D', h1, h2⟩ := quiet_more hq hg ha hne hl hm
  have c := append_s hq.ok hsm (by omega) B b (g : Int) (total ls : Int) (by omega) (by omega) (by omega) (by omega) l (by omega) hok A c C w h hs
  have h3 := append_sm hsm (g : Int) (total ls : Int) l
  rw [h1] at c h3
  exact c.mono fun v w' ⟨q1, q2, q3⟩ => ⟨q1, q3, D', h2, h3, q2⟩
theorem replay_q {D : Dv} {rd : Nat → List UInt8} {g k : Nat} {ls : List (List Nt)} (hq : Quiet D (onto g ls rd) (total ls)) (hsm : Sm D k) (hk : k ≤ 800000) (hg : g ≤ 4611686018427387904) (hl : Goods ls) (B b : Nat) (w : World) (h : DevAt w B b D) :
    Ret Tryz.prog 11 [.pointer (some ⟨b, 0, none⟩), .int .i64 (g : Int)] w fun v w' => Found w' w.heap.size (ls, total ls) 0 v ∧ Tm w w' B dty ∧ ∃ D', Quiet D' (onto g ls rd) (total ls) ∧ Sm D' (k + 21) ∧ DevAt w' B b D' := by
  have c := replay_s hq.ok hsm (by omega) B b (g : Int) w h
  rw [quiet_replay (quiet_lay hq) hg hl] at c
  exact c.mono fun v w' ⟨q1, q2, q3⟩ => ⟨q1, q3, _, hq.replayed _, replayed_sm hsm _, q2⟩
theorem replay_o {D : Dv} {rd : Nat → List UInt8} {g k : Nat} {ls : List (List Nt)} (hq : Quiet D (onto g ls rd) (total ls)) (hsm : Sm D k) (hk : k ≤ 800000) (hg : g ≤ 4611686018427387904) (hl : Goods ls) {o : Int} (ho : ¬ badG o) (hne : o ≠ (g : Int)) (B b : Nat) (w : World) (h : DevAt w B b D) :
    Ret Tryz.prog 11 [.pointer (some ⟨b, 0, none⟩), .int .i64 o] w fun v w' => Found w' w.heap.size ([], 0) 0 v ∧ Tm w w' B dty ∧ ∃ D', Quiet D' (onto g ls rd) (total ls) ∧ Sm D' (k + 21) ∧ DevAt w' B b D' := by
  have c := replay_s hq.ok hsm (by omega) B b o w h
  rw [quiet_other (quiet_lay hq) hg hl ho hne] at c
  exact c.mono fun v w' ⟨q1, q2, q3⟩ => ⟨q1, q3, _, hq.replayed _, replayed_sm hsm _, q2⟩
def aN : Nt := ⟨1, ⟨[97], 30, 2, 5, 1⟩⟩
theorem aN_may : mayN aN := may_okT ⟨rfl, by decide +kernel⟩
theorem aN_ok : aN.mem.Ok := ⟨by decide, by decide⟩
theorem put_s (w : World) : Ret Tryz.prog 10 [] w fun v w' => v = .agg (List.toArray aN.cells) ∧ Ext w w' := by
  refine Ret.enter Tryz.func10 rfl Tryz.ntmps10 (by kernel_rfl) rfl ?_
  refine KW.seq (KW.region ?_)
  refine OW.allocB (l := [.int .i64 0, str [], .int .i64 0, .int .i64 0, .int .i64 0, .int .u32 0]) rfl rfl ti39 rfl ?_
  rintro rb w1 hge1 hr1 hx1
  refine OW.nil ?_
  refine KW.seq (KW.region ?_)
  refine OW.val rfl rfl (EX.buildS (pl := [(0, 1), (1, 1), (2, 1), (3, 1), (4, 1)]) (ks := [0, 1, 2, 3, 4]) (is := [0, 1, 2, 3, 4]) (zs := [str [], .int .i64 0, .int .i64 0, .int .i64 0, .int .u32 0]) Tryz.underlying27 ti27 (by kernel_rfl) rfl rfl rfl (by first | rfl | (simp only [List.all_cons, List.all_nil, Bool.and_true, Bool.true_and, Bool.and_eq_true, Value.oneCell']; repeat (first | assumption | exact Own.one (by assumption) | constructor))) (by simp only [setAll, List.set_cons_zero, List.set_cons_succ]; rfl)) ?_
  refine OW.val rfl rfl (EX.buildG (pl := [(0, 1), (1, 5)]) (ks := [0, 1]) (zs := [.int .i64 0, str [], .int .i64 0, .int .i64 0, .int .i64 0, .int .u32 0]) Tryz.underlying39 ti39 (by kernel_rfl) rfl rfl rfl) ?_
  refine OW.storeS rfl ti39 rfl rfl rfl (by first | rfl | (simp only [List.all_cons, List.all_nil, Bool.and_true, Bool.true_and, Bool.and_eq_true, Value.oneCell']; repeat (first | assumption | exact Own.one (by assumption) | constructor))) (hr1) (Nat.le_refl _) ?_
  rintro w2 hr2 hm2
  refine OW.nil ?_
  refine KW.ret (retC1 rfl Tryz.underlying39 rfl ti39 rfl (hr2) rfl ?_)
  exact ⟨rfl, below_mo hx1 hm2 hx1.size (fun k hk => by simp at hk; omega)⟩
theorem quiet_start : Quiet (fresh 40 []) (onto 5 [] fun _ => []) 0 := Quiet.fresh _
theorem fresh_sm : Sm (fresh 40 []) 0 := ⟨Nat.le_refl _, Nat.le_refl _, Nat.zero_le _, Nat.zero_le _⟩
theorem may40 : Dsk.may 40 [] := by refine ⟨?_, ?_, ?_, ?_⟩ <;> decide
theorem new40 (w : World) : Ret Tryz.prog 8 [.int .i64 40] w fun v w' => Ext w w' ∧ ∃ b, v = .tuple #[.pointer (some ⟨b, 0, none⟩), .int .i64 0] ∧ DevAt w' w.heap.size b (fresh 40 []) :=
  (new_s 40 (by decide) (by decide) w).mono fun v w' ⟨p, e, h1, h2, h3⟩ => ⟨h2, by
    rcases h3 with ⟨q, _⟩ | ⟨_, b, h4, h5, h6⟩
    · exact absurd may40 q
    · exact ⟨b, by rw [h1, h4, h5]; rfl, h6⟩⟩
set_option maxRecDepth 20000 in
theorem awake_s (w : World) : Ret Tryz.prog 4 [] w fun v w' => v = .bool true ∧ Ext w w' := by
  refine Ret.enter Tryz.func4 rfl Tryz.ntmps4 (by kernel_rfl) rfl ?_
  refine KW.seq (KW.region ?_)
  refine OW.val rfl rfl (EX.assign rfl) ?_
  refine OW.nil ?_
  refine KW.seq (KW.region ?_)
  refine OW.call rfl rfl rfl (new40 w) ?_
  rintro _ w1 ⟨hx1, b, rfl, hdev1⟩
  refine OW.val rfl rfl (EX.move rfl) ?_
  refine OW.val rfl rfl (EX.extract rfl rfl) ?_
  refine OW.val rfl rfl (EX.extract rfl rfl) ?_
  refine OW.val rfl rfl (EX.assign rfl) ?_
  refine OW.val rfl rfl (EX.assign rfl) ?_
  refine OW.nil ?_
  refine KW.seq (KW.seq ?_)
  refine KW.region ?_
  refine OW.val rfl rfl (EX.move rfl) ?_
  refine OW.val rfl rfl (by first | exact EX.neqN (b := 0) rfl rfl | exact EX.neqZ rfl rfl) ?_
  refine OW.val rfl rfl (EX.move rfl) ?_
  refine OW.as 17 (.bool false) rfl (congrArg Value.bool (decide_eq_false (by simp))) ?_
  refine OW.val rfl rfl (EX.move rfl) ?_
  refine OW.val rfl rfl (by first | exact EX.eqlP1 Tryz.underlying32 rfl rfl | exact EX.eqlP0 Tryz.underlying32 rfl rfl) ?_
  refine OW.val rfl rfl (EX.pickF rfl rfl) ?_
  refine OW.nil ?_
  refine KW.condF rfl (KW.skip (KW.seq (KW.region ?_)))
  refine OW.val rfl rfl (EX.move rfl) ?_
  refine OW.call rfl rfl rfl (put_s w1) ?_
  rintro _ w2 ⟨rfl, hx2⟩
  refine OW.buildG 1 ([aN.cells]) rfl rfl Tryz.underlying23 ti39 rfl (by decide) rfl rfl rfl (by repeat' (first | exact List.forall_mem_nil _ | refine List.forall_mem_cons.2 ⟨by first | rfl | assumption, ?_⟩)) (by decide) ?_
  rintro sb w3 hge3 hs3 hx3
  replace hs3 : Bk w3 sb 39 (ntsV [aN]) := hs3
  have x3 := (hx1.trans hx2).trans hx3
  have sl3 : Sl w3 w3.heap.size (some ⟨sb, 0, none⟩) (ntsV [aN]) := hs3.sl
  have ca := append_q (ls := []) (l := [aN]) quiet_start fresh_sm (by decide) (by decide) (Nat.zero_le _) (by simp) (by decide) (fun x hx => by rw [List.mem_singleton.1 hx]; exact aN_may) (fun x hx => by rw [List.mem_singleton.1 hx]; exact aN_ok) w.heap.size b (some ⟨sb, 0, none⟩) 1 _ w3 ((hdev1.ext hx2).ext hx3) sl3
  refine OW.call rfl rfl rfl (ca) ?_
  rintro _ w4 ⟨rfl, tm4, D4, q4, sm4, hdev4⟩
  refine OW.val rfl rfl (EX.move rfl) ?_
  refine OW.val rfl rfl (EX.extract rfl rfl) ?_
  refine OW.val rfl rfl (EX.extract rfl rfl) ?_
  refine OW.val rfl rfl (EX.assign rfl) ?_
  refine OW.val rfl rfl (EX.assign rfl) ?_
  refine OW.nil ?_
  refine KW.seq (KW.region ?_)
  refine OW.val rfl rfl (EX.move rfl) ?_
  have g4 : Goods [[aN]] := fun l hl => by
    rw [List.mem_singleton.1 hl]
    exact ⟨fun x hx => by rw [List.mem_singleton.1 hx]; exact ⟨aN_may, by decide⟩, by simp⟩
  replace q4 : Quiet D4 (onto 5 [[aN]] fun _ => []) (total [[aN]]) := q4
  have x4 : Ext w w4 := Tm.below x3 tm4 x3.size (Nat.le_refl _)
  have c5 := replay_q q4 sm4 (by decide) (by decide) g4 w.heap.size b w4 hdev4
  refine OW.call rfl rfl rfl (c5) ?_
  rintro _ w5 ⟨⟨v5, vs5, rfl, own5, tx5⟩, tm5, D5, q5, sm5, hdev5⟩
  refine OW.val rfl rfl (EX.move rfl) ?_
  refine OW.val rfl rfl (EX.extract rfl rfl) ?_
  refine OW.val rfl rfl (EX.extract rfl rfl) ?_
  refine OW.val rfl rfl (EX.extract rfl rfl) ?_
  refine OW.val rfl rfl (EX.assign rfl) ?_
  refine OW.val rfl rfl (EX.assign rfl) ?_
  refine OW.val rfl rfl (EX.assign rfl) ?_
  refine OW.nil ?_
  refine KW.seq (KW.region ?_)
  refine OW.val rfl rfl (EX.move rfl) ?_
  have x5 : Ext w w5 := Tm.below x4 tm5 x4.size (Nat.le_refl _)
  have c6 := replay_o q5 sm5 (by decide) (by decide) g4 (o := 4) (by decide) (by decide) w.heap.size b w5 hdev5
  refine OW.call rfl rfl rfl (c6) ?_
  rintro _ w6 ⟨⟨v6, vs6, rfl, own6, tx6⟩, tm6, D6, q6, sm6, hdev6⟩
  refine OW.val rfl rfl (EX.move rfl) ?_
  refine OW.val rfl rfl (EX.extract rfl rfl) ?_
  refine OW.val rfl rfl (EX.extract rfl rfl) ?_
  refine OW.val rfl rfl (EX.extract rfl rfl) ?_
  refine OW.val rfl rfl (EX.assign rfl) ?_
  refine OW.val rfl rfl (EX.assign rfl) ?_
  refine OW.val rfl rfl (EX.assign rfl) ?_
  refine OW.nil ?_
  refine KW.seq ?_
  have x6 : Ext w w6 := Tm.below x5 tm6 x5.size (Nat.le_refl _)
  have own56 := tm6.own own5 (by decide)
  have tx56 := tx5.tm tm6 (by decide)
  obtain ⟨A5, c5, rfl, _, sl5⟩ := own56.slice
  obtain ⟨A6, c6, rfl, _, _⟩ := own6.slice
  refine KW.region ?_
  refine OW.val rfl rfl (EX.move rfl) ?_
  refine OW.val rfl rfl (by first | exact EX.eqlN (b := 2) rfl rfl | exact EX.eqlZ rfl rfl) ?_
  refine OW.val rfl rfl (EX.move rfl) ?_
  refine OW.as 42 (.bool true) rfl (congrArg Value.bool (decide_eq_true (rfl))) ?_
  refine OW.val rfl rfl (EX.move rfl) ?_
  refine OW.val rfl rfl (by first | exact EX.eqlN (b := 0) rfl rfl | exact EX.eqlZ rfl rfl) ?_
  refine OW.val rfl rfl (EX.pickT rfl rfl) ?_
  refine OW.val rfl rfl (EX.move rfl) ?_
  refine OW.as 46 (.bool true) rfl (congrArg Value.bool (decide_eq_true (rfl))) ?_
  refine OW.val rfl rfl (EX.move rfl) ?_
  refine OW.call rfl rfl rfl (len_d hdev6 q6.ok) ?_
  rintro _ _ ⟨rfl, rfl⟩
  refine OW.val rfl rfl (by first | exact EX.eqlN (b := 12) rfl rfl | exact EX.eqlZ rfl rfl) ?_
  refine OW.val rfl rfl (EX.pickT rfl rfl) ?_
  refine OW.val rfl rfl (EX.move rfl) ?_
  have l6 := q6.len
  rw [if_neg (by decide)] at l6
  have l6' : D6.now.length / 512 = 12 := by rw [l6]; decide
  refine OW.as 51 (.bool true) rfl (congrArg Value.bool (decide_eq_true (by omega))) ?_
  refine OW.val rfl rfl (EX.move rfl) ?_
  refine OW.call rfl rfl rfl (put_s w6) ?_
  rintro _ w7 ⟨rfl, hx7⟩
  refine OW.buildG 1 ([aN.cells]) rfl rfl Tryz.underlying23 ti39 rfl (by decide) rfl rfl rfl (by repeat' (first | exact List.forall_mem_nil _ | refine List.forall_mem_cons.2 ⟨by first | rfl | assumption, ?_⟩)) (by decide) ?_
  rintro nb w8 hge8 hn8 hx8
  replace hn8 : Bk w8 nb 39 (ntsV [aN]) := hn8
  refine OW.buildB 1 rfl rfl Tryz.underlying41 ti23 rfl rfl rfl rfl (by first | rfl | (simp only [List.all_cons, List.all_nil, Bool.and_true, Bool.and_eq_true]; assumption)) (by decide) ?_
  rintro tb w9 hge9 ht9 hx9
  have x9 := ((x6.trans hx7).trans hx8).trans hx9
  have t9 : TxS w9 w9.heap.size [.slice (some ⟨nb, 0, none⟩) 1 1] [[aN]] := ⟨⟨_, _, rfl, (hn8.ext hx9).sl⟩, trivial⟩
  have cs := same_s [[aN]] [[aN]] vs5 _ A5 (some ⟨tb, 0, none⟩) c5 1 w9 _ _ _ _ (((sl5.ext hx7).ext hx8).ext hx9) ht9.sl (((tx56.txs.ext hx7).ext hx8).ext hx9) t9 (by decide) (fun l hl => by rw [List.mem_singleton.1 hl]; decide)
  refine OW.call rfl rfl rfl (cs) ?_
  rintro _ w10 ⟨rfl, hx10⟩
  refine OW.val rfl rfl (EX.pickT rfl rfl) ?_
  refine OW.val rfl rfl (EX.move rfl) ?_
  refine OW.as 58 (.bool true) rfl (congrArg Value.bool (decide_eq_true (rfl))) ?_
  refine OW.val rfl rfl (EX.move rfl) ?_
  refine OW.val rfl rfl (by first | exact EX.eqlN (b := 2) rfl rfl | exact EX.eqlZ rfl rfl) ?_
  refine OW.val rfl rfl (EX.pickT rfl rfl) ?_
  refine OW.val rfl rfl (EX.move rfl) ?_
  refine OW.as 62 (.bool true) rfl (congrArg Value.bool (decide_eq_true (rfl))) ?_
  refine OW.val rfl rfl (EX.move rfl) ?_
  refine OW.val rfl rfl (by first | exact EX.eqlN (b := 0) rfl rfl | exact EX.eqlZ rfl rfl) ?_
  refine OW.val rfl rfl (EX.pickT rfl rfl) ?_
  refine OW.val rfl rfl (EX.move rfl) ?_
  refine OW.as 66 (.bool true) rfl (congrArg Value.bool (decide_eq_true (rfl))) ?_
  refine OW.val rfl rfl (EX.move rfl) ?_
  refine OW.val rfl rfl (EX.lenA Tryz.underlying41 rfl) ?_
  refine OW.val rfl rfl (by first | exact EX.eqlN (b := 0) rfl rfl | exact EX.eqlZ rfl rfl) ?_
  refine OW.val rfl rfl (EX.pickT rfl rfl) ?_
  refine OW.val rfl rfl (EX.move rfl) ?_
  refine OW.as 71 (.bool true) rfl (congrArg Value.bool (decide_eq_true (rfl))) ?_
  refine OW.val rfl rfl (EX.move rfl) ?_
  refine OW.val rfl rfl (by first | exact EX.eqlN (b := 0) rfl rfl | exact EX.eqlZ rfl rfl) ?_
  refine OW.val rfl rfl (EX.pickT rfl rfl) ?_
  refine OW.val rfl rfl (EX.move rfl) ?_
  refine OW.as 75 (.bool true) rfl (congrArg Value.bool (decide_eq_true (rfl))) ?_
  refine OW.val rfl rfl (EX.move rfl) ?_
  refine OW.val rfl rfl (by first | exact EX.eqlN (b := 0) rfl rfl | exact EX.eqlZ rfl rfl) ?_
  refine OW.val rfl rfl (EX.pickT rfl rfl) ?_
  refine OW.val rfl rfl (EX.assign rfl) ?_
  refine OW.nil ?_
  refine KW.ret (ret1 rfl rfl ?_)
  exact ⟨rfl, x9.trans hx10⟩
end Go.Proofs.YtlpnoogcdnfllaaGreatDoor
namespace Go.Proofs.YtlpnoogcdnfllaaGreatDoor
open Go.RowKit
theorem Sl.cutG {w : World} {B s : Nat} {A : Option Addr} {xs : List Value} (h : Sl w B A xs) {i c : Nat} (hc : xs.length ≤ c * s) : Sl w B (if c = i then A else A.map (·.add (i * s))) (xs.drop (i * s)) := by
  rcases h with h | ⟨b, o, rfl, hb, hcell⟩
  · subst h; left; simp
  · by_cases hi : xs.length ≤ i * s
    · left; exact List.drop_of_length_le hi
    · have hne : ¬ c = i := fun e => by subst e; exact hi hc
      rw [if_neg hne]
      refine .inr ⟨b, o + i * s, by simp [Addr.add_lit], hb, fun j u hu => ?_⟩
      rw [List.getElem?_drop] at hu
      rw [Nat.add_assoc]
      exact hcell _ _ hu
section
variable {P : Program} {n : Nat} {σ : Sig} {w : World} {x lo hi' : Operand} {t e ty : TypeId} {z : Value} {s bs : Nat} {A : Option Addr} {len cap i j : Nat} {kk : IntKind}
theorem EX.sliceGL (ht : P.underlying t = some (.slice e)) (hi : TI P e z s bs) (hx : ev σ x = some (.slice A len cap)) (hl : ev σ lo = some (.int kk (i : Int))) (h : i ≤ len) (hc : len ≤ cap) :
    EX P n σ (.slice t x (some lo) none none) ty w (.slice (if cap = i then A else A.map (·.add (i * s))) (len - i) (cap - i)) w := fun Ac ha dst pos after g => by
  simp only [execOp, ha.ev hx, ha.ev hl, Option.map_some, Option.map_none]
  simp [Instr.sliceAt, run_underlying ht, Instr.slice, Instr.sliceBounds, Sem.run_bind, run_sliceBoundI _ _ h, run_sizeOf hi]
theorem EX.sliceGF (ht : P.underlying t = some (.slice e)) (hi : TI P e z s bs) (hx : ev σ x = some (.slice A len cap)) (hl : ev σ hi' = some (.int kk (j : Int))) (h : j ≤ len) (hc : len ≤ cap) :
    EX P n σ (.slice t x none (some hi') none) ty w (.slice (if cap = 0 then A else A.map (·.add (0 * s))) j cap) w := fun Ac ha dst pos after g => by
  simp only [execOp, ha.ev hx, ha.ev hl, Option.map_some, Option.map_none]
  simp [Instr.sliceAt, run_underlying ht, Instr.slice, Instr.sliceBounds, Sem.run_bind, run_sliceBoundI cap _ (Nat.le_trans h hc), run_sizeOf hi]
end
section
variable {P : Program} {R : Act → World → Prop} {ops : Array Oper} {S : World → Prop} {fuel : Nat} {listed : Array Bool} {k : List KI} {n : Nat} {σ : Sig} {w : World} {x y : Operand} {t t' e ty : TypeId} {pos : String} {after : Array Edge} {gd : Option (Nat × Bool)} {d : Nat}
theorem GO.append (i B : Nat) {z : Value} {s bs : Nat} (hi' : ops[i]? = some ⟨some d, .call { callee := .builtin .append, args := #[x, y], argTypes := #[t, t'] }, ty, pos, after, gd⟩)
    (hg : wantS ops σ gd = some true) (hd : Nat.blt d n = true) (ht : P.underlying t = some (.slice e)) (hi : TI P e z s bs) (hzs : z.cells.size = s) (hs0 : 0 < s)
    {v xv : Value} {m l : Nat} {xs news : List Value} (hx : ev σ x = some v) (hy : ev σ y = some xv) (hown : Own w B e s v l xs) (hsrc : Src P s t' xv m news w)
    (h63 : l + m ≤ maxLen) (hbytes : (l + m) * bs ≤ 140737488355328) (hB : B ≤ w.heap.size)
    (h : ∀ v' w', Own w' B e s v' (l + m) (xs ++ news) → w.grownBy w' v.ownBlock → (v'.ownBlock = v.ownBlock ∨ v'.ownBlock = some w.heap.size) → S w' ∧ (S w' → GW P R ops S fuel (listed.setIfInBounds i true) k n ((d, v') :: σ) w')) : GO P R ops S fuel listed k n σ w i := by
  obtain ⟨v', w', hrun, h2, h3, h4⟩ := run_append (P := P) B t t' ty e ht hi hzs hs0 hown hsrc h63 hbytes hB
  refine GO.new i hi' hg hd (v := v') (w' := w') ?_ (h v' w' h2 h3 h4)
  intro A ha dst pos after g
  simp only [execOp, resolve, invoke, builtin, Sem.run_bind, Sem.run_pure, Result.andThen_ok, List.map_toArray, List.map_cons, List.map_nil, ha.ev hx, ha.ev hy, hrun]
end
end Go.Proofs.YtlpnoogcdnfllaaGreatDoor
namespace Go.Proofs.YtlpnoogcdnfllaaGreatDoor
open Go.RowKit
section
variable {P : Program} {n : Nat} {σ : Sig} {w : World} {x y : Operand} {ty : TypeId}
theorem EX.minZ {k : IntKind} {a b : Int} {ats : Array TypeId} (hx : ev σ x = some (.int k a)) (hy : ev σ y = some (.int k b)) : EX P n σ (.call { callee := .builtin .min, args := #[x, y], argTypes := ats }) ty w (.int k (min a b)) w := fun A ha dst pos after g => by
  simp only [execOp, resolve, invoke, builtin, Sem.run_bind, Sem.run_pure, Result.andThen_ok, List.map_toArray, List.map_cons, List.map_nil, ha.ev hx, ha.ev hy]
  have : (if b < a then b else a) = min a b := by split <;> omega
  simp only [Builtin.min_, Builtin.min2, List.foldlM, Sem.run_bind, Sem.run_pure, Result.andThen_ok, this]
theorem EX.maxN {k : IntKind} {a b : Nat} {ats : Array TypeId} (hx : ev σ x = some (.int k (a : Int))) (hy : ev σ y = some (.int k (b : Int))) : EX P n σ (.call { callee := .builtin .max, args := #[x, y], argTypes := ats }) ty w (.int k ((max a b : Nat) : Int)) w := fun A ha dst pos after g => by
  simp only [execOp, resolve, invoke, builtin, Sem.run_bind, Sem.run_pure, Result.andThen_ok, List.map_toArray, List.map_cons, List.map_nil, ha.ev hx, ha.ev hy]
  have : (if (b : Int) > a then (b : Int) else a) = ((max a b : Nat) : Int) := by split <;> omega
  simp only [Builtin.max_, Builtin.max2, List.foldlM, Sem.run_bind, Sem.run_pure, Result.andThen_ok, this]
end
end Go.Proofs.YtlpnoogcdnfllaaGreatDoor
namespace Go.Proofs.YtlpnoogcdnfllaaGreatDoor
open Go.RowKit Pth Rec Srt Wal
theorem cell_extW {w w' : World} (h : Ext w w') {a : Addr} {u : Value} (hc : w.cell? a = some u) : w'.cell? a = some u := by
  have hlt := World.block_lt_of_cell? w _ hc
  have := h.block _ hlt
  unfold World.cell? at hc ⊢
  rw [this]
  exact hc
theorem ins_at {α : Type} (key : α → List UInt8) (x : α) : ∀ (L : List α) (k : Nat), k ≤ L.length → (∀ j, j < k → ∀ y, L[j]? = some y → cmpK key y x = -1) → (∀ y, L[k]? = some y → 0 ≤ cmpK key y x) → (∀ y ∈ L, key y ≠ key x) → L.take k ++ x :: L.drop k = insR key x L
  | [], k, hk, _, _, _ => by
    obtain rfl : k = 0 := by simpa using hk
    rfl
  | y :: L, 0, _, _, h2, h3 => by
    have e1 := h2 y rfl
    have e2 := cmpK_neg key y x
    have e3 : cmpK key x y ≠ 0 := fun e => h3 y (by simp) ((cmpK_eq key x y).1 e).symm
    have e4 := cmpK_val key x y
    simp only [insR]
    rw [if_pos (by omega)]
    rfl
  | y :: L, k + 1, hk, h1, h2, h3 => by
    have e1 := h1 0 (by omega) y rfl
    have e2 := cmpK_neg key y x
    have ih := ins_at key x L k (by simpa using hk) (fun j hj z hz => h1 (j + 1) (by omega) z hz) (fun z hz => h2 z hz) (fun z hz => h3 z (by simp [hz]))
    simp only [insR]
    rw [if_neg (by omega), if_neg (by omega), ← ih]
    rfl
theorem upd_upd {α : Type} (f : List UInt8 → Option α) (p : List UInt8) (u v : Option α) : upd (upd f p u) p v = upd f p v := by
  funext q
  unfold upd
  split <;> rfl
def lessP (l : List M) (p : List UInt8) : List M := l.filter fun y => decide (y.path ≠ p)
theorem lessP_snoc (l : List M) (x : M) (p : List UInt8) : lessP (l ++ [x]) p = if x.path ≠ p then lessP l p ++ [x] else lessP l p := by
  unfold lessP
  rw [List.filter_append]
  by_cases h : x.path = p <;> simp [h]
theorem lessP_le (l : List M) (p : List UInt8) : (lessP l p).length ≤ l.length := List.length_filter_le _ _
set_option maxRecDepth 20000 in
theorem rwithout_s (l : List M) (hn : l.length ≤ 1000000) (p : List UInt8) (A : Option Addr) (c B : Nat) (w : World) (hs : Sl w B A (memsV l)) :
    Ret Tryz.prog 18 [.slice A l.length c, str p] w fun v w' => Own w' w.heap.size 27 5 v (lessP l p).length (memsV (lessP l p)) ∧ Ext w w' := by
  refine Ret.enter Tryz.func18 rfl Tryz.ntmps18 (by kernel_rfl) rfl ?_
  refine KW.seq (KW.region ?_)
  refine OW.val rfl rfl (EX.assign rfl) ?_
  refine OW.nil ?_
  refine KW.seq (KW.region ?_)
  refine OW.val rfl rfl (EX.assign rfl) ?_
  refine OW.nil ?_
  refine KW.seq (KW.seq (KW.region ?_))
  refine OW.val rfl rfl (EX.assign rfl) ?_
  refine OW.nil ?_
  refine KW.block ?_
  refine KW.loop3 (fun (i : Nat) (v : Value) (wr : World) => i ≤ l.length ∧ Own wr w.heap.size 27 5 v (lessP (l.take i) p).length (memsV (lessP (l.take i) p)) ∧ Ext w wr) (fun (i : Nat) (v : Value) (wr : World) => [(0, .slice A l.length c), (1, str (p)), (5, v), (6, .int .i64 ((i : Nat) : Int))]) (fun (i : Nat) (v : Value) (wr : World) => wr) (fun (i : Nat) (v : Value) (wr : World) => l.length - i) (0) (.slice none 0 0) (w) ⟨rfl, rfl, rfl, rfl, trivial⟩ rfl ?_ ?_
  · exact ⟨Nat.zero_le _, Own.nil _ _ _ _, Ext.refl _⟩
  · rintro i v wr ⟨hi, hown, hx⟩
    have hle := lessP_le (l.take i) p
    rw [List.length_take] at hle
    refine KW.seq (KW.seq (KW.region ?_))
    refine OW.val rfl rfl (EX.move rfl) ?_
    refine OW.val rfl rfl (EX.move rfl) ?_
    refine OW.val rfl rfl (EX.lenA Tryz.underlying22 rfl) ?_
    refine OW.val rfl rfl (by first | exact EX.lssN rfl rfl | exact EX.lssZ rfl rfl) ?_
    refine OW.nil ?_
    refine KW.condD rfl (fun hlt => ?_) (fun hlt => ?_)
    · obtain ⟨b, o, rfl, _, hcell⟩ := (hs.ext hx).flat (c := 5) (fun _ => rfl) (by decide) hlt
      have hsn : l.take (i + 1) = l.take i ++ [l[i]] := (List.take_append_getElem hlt).symm
      generalize l[i] = x at hcell hsn
      have hst := lessP_snoc (l.take i) x p
      rw [← hsn] at hst
      refine KW.skip (KW.seq (KW.block (KW.seq (KW.region ?_))))
      refine OW.val rfl rfl (EX.move rfl) ?_
      refine OW.val rfl rfl (EX.move rfl) ?_
      refine OW.val rfl rfl (EX.indexAddrS Tryz.underlying22 ti27 rfl rfl (by omega)) ?_
      refine OW.val rfl rfl (EX.fieldAddr (off := 0) Tryz.underlying27 rfl rfl ti9 rfl rfl) ?_
      refine OW.val rfl rfl (EX.load Tryz.underlying9 rfl rfl (hcell 0 _ rfl)) ?_
      refine OW.val rfl rfl (EX.move rfl) ?_
      refine OW.val rfl rfl (EX.neqS rfl rfl) ?_
      refine OW.nil ?_
      refine KW.condD rfl (fun hne => ?_) (fun hne => ?_)
      · rw [if_pos hne] at hst
        refine KW.region ?_
        refine OW.val rfl rfl (EX.move rfl) ?_
        refine OW.val rfl rfl (EX.move rfl) ?_
        refine OW.val rfl rfl (EX.move rfl) ?_
        refine OW.val rfl rfl (EX.indexAddrS Tryz.underlying22 ti27 rfl rfl (by omega)) ?_
        refine OW.val rfl rfl (EX.loadA (l := x.cells) Tryz.underlying27 rfl ti27 rfl rfl hcell) ?_
        refine OW.pushS rfl rfl (fun _ => rfl) rfl Tryz.underlying22 ti27 rfl (by decide) (by decide) rfl rfl (fun _ => rfl) (by first | rfl | assumption | (simp only [List.all_cons, List.all_nil, Bool.and_true, Bool.true_and, Bool.and_eq_true, Value.oneCell']; repeat (first | assumption | constructor))) (hx) (hown) (by simp only [maxLen]; omega) (by omega) ?_
        rintro _ v4 w4 hown4 x4 hg4
        refine OW.val rfl rfl (EX.assign rfl) ?_
        refine OW.nil ?_
        refine KW.leave (KW.region ?_)
        refine OW.val rfl rfl (EX.move rfl) ?_
        refine OW.val rfl rfl (by first | exact EX.addN (b := 1) (m := 9223372036854775807) rfl rfl rfl (by omega) | exact EX.addZ (m := 9223372036854775807) rfl rfl rfl rfl (by omega)) ?_
        refine OW.val rfl rfl (EX.assign rfl) ?_
        refine OW.nil ?_
        refine KW.back3 (i + 1) (v4) (w4) ⟨rfl, rfl, rfl, rfl, trivial⟩ rfl ?_ (by omega)
        exact ⟨by omega, by rw [hst, List.length_append, memsV_snoc]; exact hown4, x4⟩
      · rw [if_neg hne] at hst
        refine KW.skip (KW.leave (KW.region ?_))
        refine OW.val rfl rfl (EX.move rfl) ?_
        refine OW.val rfl rfl (by first | exact EX.addN (b := 1) (m := 9223372036854775807) rfl rfl rfl (by omega) | exact EX.addZ (m := 9223372036854775807) rfl rfl rfl rfl (by omega)) ?_
        refine OW.val rfl rfl (EX.assign rfl) ?_
        refine OW.nil ?_
        refine KW.back3 (i + 1) (v) (wr) ⟨rfl, rfl, rfl, rfl, trivial⟩ rfl ?_ (by omega)
        exact ⟨by omega, by rw [hst]; exact hown, hx⟩
    · obtain rfl : i = l.length := by omega
      rw [List.take_length] at hown
      refine KW.exit rfl (KW.seq (KW.region ?_))
      refine OW.val rfl rfl (EX.move rfl) ?_
      refine OW.val rfl rfl (EX.assign rfl) ?_
      refine OW.nil ?_
      refine KW.ret (ret1 rfl rfl ?_)
      exact ⟨hown, hx⟩
theorem mems_one (l : List M) : ∀ u ∈ memsV l, u.oneCell' = true := by
  intro u hu
  obtain ⟨m, _, h⟩ := List.mem_flatMap.1 hu
  simp [M.cells] at h
  rcases h with rfl | rfl | rfl | rfl | rfl <;> rfl
theorem below_ext {w a b : World} (h : Ext w a) (h2 : Ext a b) : Ext w b := h.trans h2
theorem mems_take : ∀ (L : List M) (k : Nat), (memsV L).take (k * 5) = memsV (L.take k)
  | [], k => by simp [memsV]
  | x :: L, 0 => by simp [memsV]
  | x :: L, k + 1 => by
    have e : (k + 1) * 5 = x.cells.length + k * 5 := by simp [M.cells]; omega
    simp only [memsV, List.flatMap_cons, List.take_succ_cons]
    rw [e, List.take_length_add_append]
    congr 1
    exact mems_take L k
theorem mems_drop : ∀ (L : List M) (k : Nat), (memsV L).drop (k * 5) = memsV (L.drop k)
  | [], k => by simp [memsV]
  | x :: L, 0 => by simp [memsV]
  | x :: L, k + 1 => by
    have e : (k + 1) * 5 = x.cells.length + k * 5 := by simp [M.cells]; omega
    simp only [memsV, List.flatMap_cons, List.drop_succ_cons]
    rw [e, List.drop_length_add_append]
    exact mems_drop L k
set_option maxRecDepth 20000 in
theorem rwith_s (f : List UInt8 → Option M) (l : List M) (hf : IsMap M.path f l) (hl : ∀ x ∈ l, x.path.length ≤ 2000000) (m : M) (hm : m.path.length ≤ 2000000) (hn : l.length ≤ 100000) (A : Option Addr) (c B : Nat) (w : World) (hs : Sl w B A (memsV l)) :
    Ret Tryz.prog 17 [.slice A l.length c, .agg m.cells.toArray] w fun v w' => ∃ out, IsMap M.path (upd f m.path (some m)) out ∧ out.length ≤ l.length + 1 ∧ Own w' w.heap.size 27 5 v out.length (memsV out) ∧ Ext w w' := by
  refine Ret.enter Tryz.func17 rfl Tryz.ntmps17 (by kernel_rfl) rfl ?_
  refine KW.seq (KW.region ?_)
  refine OW.val rfl rfl (EX.box (l := m.cells) rfl rfl) ?_
  refine OW.val rfl rfl (EX.assign rfl) ?_
  refine OW.nil ?_
  refine KW.seq (KW.region ?_)
  refine OW.val rfl rfl (EX.move rfl) ?_
  refine OW.val rfl rfl (EX.fieldAddr (off := 0) Tryz.underlying27 rfl rfl ti9 rfl rfl) ?_
  have hb1 := Bk.new w 27 m.cells
  have hx1 : Ext w (w.alloc (.cells m.cells.toArray 27)) := Ext.alloc w _
  have hge1 : w.heap.size ≤ w.heap.size := Nat.le_refl _
  generalize hmb : w.heap.size = mb at hb1
  have hmbg : w.heap.size ≤ mb := by omega
  generalize w.alloc (.cells m.cells.toArray 27) = w1 at hb1 hx1
  refine OW.val rfl rfl (EX.load Tryz.underlying9 rfl rfl (hb1.cell_of rfl)) ?_
  refine OW.call rfl rfl rfl (rwithout_s l (by omega) m.path A c B w1 (hs.ext hx1)) ?_
  rintro v2 w2 ⟨hown2, hx2⟩
  refine OW.val rfl rfl (EX.assign rfl) ?_
  refine OW.nil ?_
  refine KW.seq (KW.region ?_)
  refine OW.val rfl rfl (EX.assign rfl) ?_
  refine OW.nil ?_
  refine KW.seq ?_
  have hmap := IsMap.del M.path hf m.path
  have hne : ∀ y ∈ lessP l m.path, M.path y ≠ M.path m := fun y hy => by
    have := (List.mem_filter.1 hy).2
    simpa using this
  have hlL : ∀ x ∈ lessP l m.path, x.path.length ≤ 2000000 := fun x hx => hl x (List.mem_filter.1 hx).1
  have hLn := lessP_le l m.path
  change IsMap M.path (upd f m.path none) (lessP l m.path) at hmap
  generalize lessP l m.path = L at hown2 hmap hne hlL hLn
  have hput := IsMap.put M.path hmap m
  rw [upd_upd] at hput
  have hb2 := hb1.ext hx2
  have x2 := hx1.trans hx2
  obtain ⟨A2, c2, rfl, hc2, hsl2⟩ := hown2.slice
  refine KW.cut2 (fun (k : Nat) (wr : World) => k ≤ L.length ∧ L.take k ++ m :: L.drop k = insR M.path m L ∧ Ext w2 wr) (fun (k : Nat) (wr : World) => [(0, .slice A2 L.length c2), (3, .pointer (some ⟨mb, 0, none⟩)), (5, .int .i64 ((k : Nat) : Int))]) (fun (k : Nat) (wr : World) => wr) ?_ ?_
  · refine KW.block ?_
    refine KW.loop2 (fun (k : Nat) (wr : World) => k ≤ L.length ∧ (∀ j, j < k → ∀ y, L[j]? = some y → cmpK M.path y m = -1) ∧ Ext w2 wr) (fun (k : Nat) (wr : World) => [(0, .slice A2 L.length c2), (3, .pointer (some ⟨mb, 0, none⟩)), (5, .int .i64 ((k : Nat) : Int))]) (fun (k : Nat) (wr : World) => wr) (fun (k : Nat) (wr : World) => L.length - k) (0) (w2) ⟨rfl, rfl, rfl, trivial⟩ rfl ?_ ?_
    · exact ⟨Nat.zero_le _, fun j hj => by omega, Ext.refl _⟩
    · rintro k wr ⟨hk, hlow, hx⟩
      have hbr := hb2.ext hx
      have fin : (∀ y, L[k]? = some y → 0 ≤ cmpK M.path y m) → L.take k ++ m :: L.drop k = insR M.path m L := fun h => ins_at M.path m L k hk hlow h hne
      refine KW.seq (KW.seq ?_)
      rcases Nat.lt_or_ge k L.length with hkl | hkl
      · obtain ⟨b2, o2, rfl, _, hcell2⟩ := (hsl2.ext hx).flat (l := L) (i := k) (c := 5) (fun _ => rfl) (by decide) hkl
        have hyl := hlL L[k] (List.getElem_mem hkl)
        have hyd : L[k]? = some L[k] := List.getElem?_eq_getElem hkl
        generalize L[k] = y at hcell2 hyl hyd
        have c1 := fun w => rcmp_s y.path m.path hyl hm w
        have hcd : cmpK M.path y m = cmpP y.path m.path := rfl
        have hcv := cmpK_val M.path y m
        generalize cmpP y.path m.path = cc at c1 hcd
        refine KW.regionG (N := 15) (fun w' => Ext wr w') (by kernel_rfl) rfl ?_
        have hS := Ext.drew wr
        refine GW.val 0 rfl (by kernel_rfl) (by kernel_rfl) (by kernel_rfl) rfl rfl hS (fun w' hS' => EX.move rfl) ?_
        refine GW.val 1 rfl (by kernel_rfl) (by kernel_rfl) (by kernel_rfl) rfl rfl hS (fun w' hS' => EX.move rfl) ?_
        refine GW.val 2 rfl (by kernel_rfl) (by kernel_rfl) (by kernel_rfl) rfl rfl hS (fun w' hS' => EX.lenA Tryz.underlying22 rfl) ?_
        refine GW.val 3 rfl (by kernel_rfl) (by kernel_rfl) (by kernel_rfl) rfl rfl hS (fun w' hS' => by first | exact EX.lssN rfl rfl | exact EX.lssZ rfl rfl) ?_
        refine GW.val 4 rfl (by kernel_rfl) (by kernel_rfl) (by kernel_rfl) rfl rfl hS (fun w' hS' => EX.move rfl) ?_
        refine GW.as 14 (.bool true) rfl (congrArg Value.bool (decide_eq_true (by omega))) ?_
        refine GW.val 5 rfl (by kernel_rfl) (by kernel_rfl) (by kernel_rfl) rfl rfl hS (fun w' hS' => EX.move rfl) ?_
        refine GW.val 6 rfl (by kernel_rfl) (by kernel_rfl) (by kernel_rfl) rfl rfl hS (fun w' hS' => EX.move rfl) ?_
        refine GW.val 7 rfl (by kernel_rfl) (by kernel_rfl) (by kernel_rfl) rfl rfl hS (fun w' hS' => EX.indexAddrS Tryz.underlying22 ti27 rfl rfl (by omega)) ?_
        refine GW.val 8 rfl (by kernel_rfl) (by kernel_rfl) (by kernel_rfl) rfl rfl hS (fun w' hS' => EX.fieldAddr (off := 0) Tryz.underlying27 rfl rfl ti9 rfl rfl) ?_
        refine GW.val 9 rfl (by kernel_rfl) (by kernel_rfl) (by kernel_rfl) rfl rfl hS (fun w' hS' => EX.load Tryz.underlying9 rfl rfl (cell_extW hS' (hcell2 0 _ rfl))) ?_
        refine GW.val 10 rfl (by kernel_rfl) (by kernel_rfl) (by kernel_rfl) rfl rfl hS (fun w' hS' => EX.fieldAddr (off := 0) Tryz.underlying27 rfl rfl ti9 rfl rfl) ?_
        refine GW.val 11 rfl (by kernel_rfl) (by kernel_rfl) (by kernel_rfl) rfl rfl hS (fun w' hS' => EX.load Tryz.underlying9 rfl rfl ((hbr.ext hS').cell_of rfl)) ?_
        refine GW.call 12 rfl (by kernel_rfl) rfl rfl rfl (c1 _) ?_
        rintro _ w4 ⟨rfl, hx4⟩
        refine ⟨hS.trans hx4, fun hS => ?_⟩
        refine GW.val 13 rfl (by kernel_rfl) (by kernel_rfl) (by kernel_rfl) rfl rfl hS (fun w' hS' => by first | exact EX.lssN (b := 0) rfl rfl | exact EX.lssZ rfl rfl) ?_
        refine GW.val 14 rfl (by kernel_rfl) (by kernel_rfl) (by kernel_rfl) rfl rfl hS (fun w' hS' => EX.pickT rfl rfl) ?_
        refine GW.done (by kernel_rfl) ?_
        have hS4 : Ext wr w4 := hS
        refine KW.condD rfl (fun hlt0 => ?_) (fun hlt0 => ?_)
        · refine KW.skip (KW.block (KW.region ?_))
          refine OW.val rfl rfl (EX.move rfl) ?_
          refine OW.val rfl rfl (by first | exact EX.addN (b := 1) (m := 9223372036854775807) rfl rfl rfl (by omega) | exact EX.addZ (m := 9223372036854775807) rfl rfl rfl rfl (by omega)) ?_
          refine OW.val rfl rfl (EX.assign rfl) ?_
          refine OW.nil ?_
          refine KW.leave ?_
          refine KW.back2 (k + 1) (w4) ⟨rfl, rfl, rfl, trivial⟩ rfl ?_ (by omega)
          refine ⟨by omega, fun j hj z hz => ?_, hx.trans hS4⟩
          rcases Nat.lt_or_ge j k with q | q
          · exact hlow j q z hz
          · obtain rfl : j = k := by omega
            rw [hyd] at hz
            cases hz
            omega
        · have hfin := fin (fun z hz => by rw [hyd] at hz; cases hz; omega)
          refine KW.exit rfl ?_
          refine KW.meet2 (k) (w4) ⟨rfl, rfl, rfl, trivial⟩ rfl ?_
          exact ⟨hk, hfin, hx.trans hS4⟩
      · obtain rfl : k = L.length := by omega
        have hfin := fin (fun z hz => by rw [List.getElem?_eq_none (Nat.le_refl _)] at hz; cases hz)
        refine KW.regionG (N := 15) (fun w' => Ext wr w') (by kernel_rfl) rfl ?_
        have hS := Ext.drew wr
        refine GW.val 0 rfl (by kernel_rfl) (by kernel_rfl) (by kernel_rfl) rfl rfl hS (fun w' hS' => EX.move rfl) ?_
        refine GW.val 1 rfl (by kernel_rfl) (by kernel_rfl) (by kernel_rfl) rfl rfl hS (fun w' hS' => EX.move rfl) ?_
        refine GW.val 2 rfl (by kernel_rfl) (by kernel_rfl) (by kernel_rfl) rfl rfl hS (fun w' hS' => EX.lenA Tryz.underlying22 rfl) ?_
        refine GW.val 3 rfl (by kernel_rfl) (by kernel_rfl) (by kernel_rfl) rfl rfl hS (fun w' hS' => by first | exact EX.lssN rfl rfl | exact EX.lssZ rfl rfl) ?_
        refine GW.val 4 rfl (by kernel_rfl) (by kernel_rfl) (by kernel_rfl) rfl rfl hS (fun w' hS' => EX.move rfl) ?_
        refine GW.as 14 (.bool false) rfl (congrArg Value.bool (decide_eq_false (by omega))) ?_
        refine GW.pass 5 rfl (by kernel_rfl) (by kernel_rfl) (by kernel_rfl) rfl rfl hS ?_
        refine GW.pass 6 rfl (by kernel_rfl) (by kernel_rfl) (by kernel_rfl) rfl rfl hS ?_
        refine GW.pass 7 rfl (by kernel_rfl) (by kernel_rfl) (by kernel_rfl) rfl rfl hS ?_
        refine GW.pass 8 rfl (by kernel_rfl) (by kernel_rfl) (by kernel_rfl) rfl rfl hS ?_
        refine GW.pass 9 rfl (by kernel_rfl) (by kernel_rfl) (by kernel_rfl) rfl rfl hS ?_
        refine GW.pass 10 rfl (by kernel_rfl) (by kernel_rfl) (by kernel_rfl) rfl rfl hS ?_
        refine GW.pass 11 rfl (by kernel_rfl) (by kernel_rfl) (by kernel_rfl) rfl rfl hS ?_
        refine GW.pass 12 rfl (by kernel_rfl) (by kernel_rfl) (by kernel_rfl) rfl rfl hS ?_
        refine GW.pass 13 rfl (by kernel_rfl) (by kernel_rfl) (by kernel_rfl) rfl rfl hS ?_
        refine GW.val 14 rfl (by kernel_rfl) (by kernel_rfl) (by kernel_rfl) rfl rfl hS (fun w' hS' => EX.pickF rfl rfl) ?_
        refine GW.done (by kernel_rfl) ?_
        refine KW.condF rfl (KW.exit rfl ?_)
        refine KW.meet2 (L.length) (wr.drew) ⟨rfl, rfl, rfl, trivial⟩ rfl ?_
        exact ⟨hk, hfin, hx.trans (Ext.drew wr)⟩
  · rintro k wr ⟨hk, hfin, hx⟩
    have hbr := hb2.ext hx
    have hslr := hsl2.ext hx
    have hml := memsV_length L
    have xr := x2.trans hx
    have hxd := Ext.drew wr
    rw [← hfin] at hput
    have tl : (memsV L).length = L.length * 5 := memsV_length L
    have hslT := (hslr.ext hxd).cutG (s := 5) (i := 0) (c := c2) (by omega)
    rw [Nat.zero_mul, List.drop_zero] at hslT
    have hslA := hslT.pre (k * 5)
    have hslB := (hslr.ext hxd).cutG (s := 5) (i := k) (c := c2) (by omega)
    have etk : (memsV L).take (k * 5) = memsV (L.take k) := mems_take L k
    have edr : (memsV L).drop (k * 5) = memsV (L.drop k) := mems_drop L k
    rw [etk] at hslA
    rw [edr] at hslB
    have hlk : (L.take k).length = k := by rw [List.length_take]; omega
    have hlA : (memsV (L.take k)).length = k * 5 := by rw [memsV_length, hlk]
    have hlB : (memsV (L.drop k)).length = (L.length - k) * 5 := by rw [memsV_length, List.length_drop]
    refine KW.seq ?_
    refine KW.regionG (N := 13) (fun w' => Bk w' mb 27 m.cells) (by kernel_rfl) rfl ?_
    have hS := hbr.drew
    refine GW.val 1 rfl (by kernel_rfl) (by kernel_rfl) (by kernel_rfl) rfl rfl hS (fun w' hS' => EX.move rfl) ?_
    refine GW.val 2 rfl (by kernel_rfl) (by kernel_rfl) (by kernel_rfl) rfl rfl hS (fun w' hS' => EX.move rfl) ?_
    refine GW.val 3 rfl (by kernel_rfl) (by kernel_rfl) (by kernel_rfl) rfl rfl hS (fun w' hS' => EX.sliceGF Tryz.underlying22 ti27 rfl rfl hk hc2) ?_
    refine GW.val 5 rfl (by kernel_rfl) (by kernel_rfl) (by kernel_rfl) rfl rfl hS (fun w' hS' => EX.loadBk Tryz.underlying27 rfl ti27 rfl hS' rfl) ?_
    refine GW.val 8 rfl (by kernel_rfl) (by kernel_rfl) (by kernel_rfl) rfl rfl hS (fun w' hS' => EX.move rfl) ?_
    refine GW.val 9 rfl (by kernel_rfl) (by kernel_rfl) (by kernel_rfl) rfl rfl hS (fun w' hS' => EX.move rfl) ?_
    refine GW.val 10 rfl (by kernel_rfl) (by kernel_rfl) (by kernel_rfl) rfl rfl hS (fun w' hS' => EX.sliceGL Tryz.underlying22 ti27 rfl rfl hk hc2) ?_
    have e0 : memsV [m] = m.cells := by simp [memsV]
    have eout : L.take k ++ ([m] ++ L.drop k) = L.take k ++ m :: L.drop k := rfl
    have lout : (L.take k ++ m :: L.drop k).length = 0 + k + 1 + (L.length - k) := by rw [List.length_append, List.length_cons, List.length_drop, hlk]; omega
    have zr : w.heap.size ≤ wr.drew.heap.size := (xr.trans hxd).size
    have fin : ∀ u wz, Own wz w.heap.size 27 5 u (0 + k + 1 + (L.length - k)) ([] ++ memsV (L.take k) ++ m.cells ++ memsV (L.drop k)) → Ext w wz → ∃ out, IsMap M.path (upd f m.path (some m)) out ∧ out.length ≤ l.length + 1 ∧ Own wz w.heap.size 27 5 u out.length (memsV out) ∧ Ext w wz := fun u wz ho hxz => by
      refine ⟨_, hput, by rw [lout]; omega, ?_, hxz⟩
      rw [lout]
      have e : memsV (L.take k ++ m :: L.drop k) = [] ++ memsV (L.take k) ++ m.cells ++ memsV (L.drop k) := by simp [memsV]
      rw [e]
      exact ho
    have hbD := hbr.drew
    have zD : w.heap.size ≤ wr.drew.heap.size := zr
    generalize hDe : wr.drew.heap.size = DD at zD
    have low0 : ∀ (b q : Nat), DD ≤ b → (Value.slice (some ⟨b, 0, none⟩) 0 0).ownBlock = some q → wr.drew.heap.size ≤ q := fun b q h e => by simp [Value.ownBlock] at e; omega
    refine GW.two 0 6 (by kernel_rfl) ?_ ?_
    · refine GO.buildG 0 0 ([]) rfl rfl rfl Tryz.underlying22 ti27 rfl (by decide) rfl rfl rfl (by repeat' (first | exact List.forall_mem_nil _ | refine List.forall_mem_cons.2 ⟨by first | rfl | assumption, ?_⟩)) (by decide) ?_
      rintro eb w3 hge3 hb3 hx3
      refine ⟨hS.ext hx3, fun hS => ?_⟩
      have y3 := (Ext.refl wr.drew).trans hx3
      have own3 : Own w3 DD 27 5 (.slice (some ⟨eb, 0, none⟩) 0 0) 0 [] := Own.of_bk (cap := 0) hb3 (by have := ((Ext.refl wr.drew)).size; omega) rfl (by decide)
      have low3 : ∀ q, (Value.slice (some ⟨eb, 0, none⟩) 0 0).ownBlock = some q → wr.drew.heap.size ≤ q := fun q e => low0 eb q (by have := ((Ext.refl wr.drew)).size; omega) e
      refine GW.two 4 6 (by kernel_rfl) ?_ ?_
      · refine GO.append 4 0 rfl rfl rfl Tryz.underlying22 ti27 rfl (by decide) rfl rfl ((own3).more (Nat.zero_le _)) (Src.of_sl Tryz.underlying22 (hslA.ext y3) (hlA) (mems_one _) (by decide)) (by simp only [maxLen]; omega) (by omega) (Nat.zero_le _) ?_
        rintro v4 w4 hown4 hg4 hv4
        refine ⟨hbD.ext (y3.grown hg4 low3), fun hS => ?_⟩
        have y4 := y3.grown hg4 low3
        have low4 : ∀ q, v4.ownBlock = some q → wr.drew.heap.size ≤ q := fun q e => by
          rcases hv4 with z | z
          · exact low3 q (by rw [← z]; exact e)
          · rw [z] at e; cases e; exact y3.size
        refine GW.buildG 6 1 ([m.cells]) rfl (by kernel_rfl) rfl rfl Tryz.underlying22 ti27 rfl (by decide) rfl rfl rfl (by repeat' (first | exact List.forall_mem_nil _ | refine List.forall_mem_cons.2 ⟨by first | rfl | assumption, ?_⟩)) (by decide) ?_
        rintro fb w6 hge6 hb6 hx6
        refine ⟨hS.ext hx6, fun hS => ?_⟩
        have y6 := y4.trans hx6
        refine GW.append 7 0 rfl (by kernel_rfl) rfl rfl Tryz.underlying22 ti27 rfl (by decide) rfl rfl ((hown4.ext hx6).more (Nat.zero_le _)) (Src.of_sl Tryz.underlying22 (Sl.of_bk (hb6) (hb6).lt) (rfl) (by rw [← e0]; exact mems_one [m]) (by decide)) (by simp only [maxLen]; omega) (by omega) (Nat.zero_le _) ?_
        rintro v7 w7 hown7 hg7 hv7
        refine ⟨hbD.ext (y6.grown hg7 low4), fun hS => ?_⟩
        have y7 := y6.grown hg7 low4
        have low7 : ∀ q, v7.ownBlock = some q → wr.drew.heap.size ≤ q := fun q e => by
          rcases hv7 with z | z
          · exact low4 q (by rw [← z]; exact e)
          · rw [z] at e; cases e; exact y6.size
        refine GW.append 11 0 rfl (by kernel_rfl) rfl rfl Tryz.underlying22 ti27 rfl (by decide) rfl rfl ((hown7).more (Nat.zero_le _)) (Src.of_sl Tryz.underlying22 (hslB.ext y7) (hlB) (mems_one _) (by decide)) (by simp only [maxLen]; omega) (by omega) (Nat.zero_le _) ?_
        rintro v11 w11 hown11 hg11 hv11
        refine ⟨hbD.ext (y7.grown hg11 low7), fun hS => ?_⟩
        refine GW.val 12 rfl (by kernel_rfl) (by kernel_rfl) (by kernel_rfl) rfl rfl hS (fun w' hS' => EX.assign rfl) ?_
        refine GW.done (by kernel_rfl) ?_
        have y11 := y7.grown hg11 low7
        have low11 : ∀ q, v11.ownBlock = some q → wr.drew.heap.size ≤ q := fun q e => by
          rcases hv11 with z | z
          · exact low7 q (by rw [← z]; exact e)
          · rw [z] at e; cases e; exact y7.size
        refine KW.ret (ret1 rfl rfl ?_)
        subst hmb
        exact fin _ _ ((hown11.base (B := DD) (fun q e => by have := low11 q e; omega)).more zD) (below_ext (xr.trans hxd) y11)
      · refine GO.buildG 6 1 ([m.cells]) rfl rfl rfl Tryz.underlying22 ti27 rfl (by decide) rfl rfl rfl (by repeat' (first | exact List.forall_mem_nil _ | refine List.forall_mem_cons.2 ⟨by first | rfl | assumption, ?_⟩)) (by decide) ?_
        rintro fb w6 hge6 hb6 hx6
        refine ⟨hS.ext hx6, fun hS => ?_⟩
        have y6 := y3.trans hx6
        refine GW.append 4 0 rfl (by kernel_rfl) rfl rfl Tryz.underlying22 ti27 rfl (by decide) rfl rfl ((own3.ext hx6).more (Nat.zero_le _)) (Src.of_sl Tryz.underlying22 (hslA.ext y6) (hlA) (mems_one _) (by decide)) (by simp only [maxLen]; omega) (by omega) (Nat.zero_le _) ?_
        rintro v4 w4 hown4 hg4 hv4
        refine ⟨hbD.ext (y6.grown hg4 low3), fun hS => ?_⟩
        have y4 := y6.grown hg4 low3
        have low4 : ∀ q, v4.ownBlock = some q → wr.drew.heap.size ≤ q := fun q e => by
          rcases hv4 with z | z
          · exact low3 q (by rw [← z]; exact e)
          · rw [z] at e; cases e; exact y6.size
        refine GW.append 7 0 rfl (by kernel_rfl) rfl rfl Tryz.underlying22 ti27 rfl (by decide) rfl rfl ((hown4).more (Nat.zero_le _)) (Src.of_sl Tryz.underlying22 (Sl.of_bk (hb6.mo (Mo.grown (S := [eb]) hg4 (fun q e => by simp [Value.ownBlock] at e; simp [e])) (by simp; have := hb3.lt; omega)) (hb6.mo (Mo.grown (S := [eb]) hg4 (fun q e => by simp [Value.ownBlock] at e; simp [e])) (by simp; have := hb3.lt; omega)).lt) (rfl) (by rw [← e0]; exact mems_one [m]) (by decide)) (by simp only [maxLen]; omega) (by omega) (Nat.zero_le _) ?_
        rintro v7 w7 hown7 hg7 hv7
        refine ⟨hbD.ext (y4.grown hg7 low4), fun hS => ?_⟩
        have y7 := y4.grown hg7 low4
        have low7 : ∀ q, v7.ownBlock = some q → wr.drew.heap.size ≤ q := fun q e => by
          rcases hv7 with z | z
          · exact low4 q (by rw [← z]; exact e)
          · rw [z] at e; cases e; exact y4.size
        refine GW.append 11 0 rfl (by kernel_rfl) rfl rfl Tryz.underlying22 ti27 rfl (by decide) rfl rfl ((hown7).more (Nat.zero_le _)) (Src.of_sl Tryz.underlying22 (hslB.ext y7) (hlB) (mems_one _) (by decide)) (by simp only [maxLen]; omega) (by omega) (Nat.zero_le _) ?_
        rintro v11 w11 hown11 hg11 hv11
        refine ⟨hbD.ext (y7.grown hg11 low7), fun hS => ?_⟩
        refine GW.val 12 rfl (by kernel_rfl) (by kernel_rfl) (by kernel_rfl) rfl rfl hS (fun w' hS' => EX.assign rfl) ?_
        refine GW.done (by kernel_rfl) ?_
        have y11 := y7.grown hg11 low7
        have low11 : ∀ q, v11.ownBlock = some q → wr.drew.heap.size ≤ q := fun q e => by
          rcases hv11 with z | z
          · exact low7 q (by rw [← z]; exact e)
          · rw [z] at e; cases e; exact y7.size
        refine KW.ret (ret1 rfl rfl ?_)
        subst hmb
        exact fin _ _ ((hown11.base (B := DD) (fun q e => by have := low11 q e; omega)).more zD) (below_ext (xr.trans hxd) y11)
    · refine GO.buildG 6 1 ([m.cells]) rfl rfl rfl Tryz.underlying22 ti27 rfl (by decide) rfl rfl rfl (by repeat' (first | exact List.forall_mem_nil _ | refine List.forall_mem_cons.2 ⟨by first | rfl | assumption, ?_⟩)) (by decide) ?_
      rintro fb w6 hge6 hb6 hx6
      refine ⟨hS.ext hx6, fun hS => ?_⟩
      have y6 := (Ext.refl wr.drew).trans hx6
      refine GW.buildG 0 0 ([]) rfl (by kernel_rfl) rfl rfl Tryz.underlying22 ti27 rfl (by decide) rfl rfl rfl (by repeat' (first | exact List.forall_mem_nil _ | refine List.forall_mem_cons.2 ⟨by first | rfl | assumption, ?_⟩)) (by decide) ?_
      rintro eb w3 hge3 hb3 hx3
      refine ⟨hS.ext hx3, fun hS => ?_⟩
      have y3 := y6.trans hx3
      have own3 : Own w3 DD 27 5 (.slice (some ⟨eb, 0, none⟩) 0 0) 0 [] := Own.of_bk (cap := 0) hb3 (by have := (y6).size; omega) rfl (by decide)
      have low3 : ∀ q, (Value.slice (some ⟨eb, 0, none⟩) 0 0).ownBlock = some q → wr.drew.heap.size ≤ q := fun q e => low0 eb q (by have := (y6).size; omega) e
      refine GW.append 4 0 rfl (by kernel_rfl) rfl rfl Tryz.underlying22 ti27 rfl (by decide) rfl rfl ((own3).more (Nat.zero_le _)) (Src.of_sl Tryz.underlying22 (hslA.ext y3) (hlA) (mems_one _) (by decide)) (by simp only [maxLen]; omega) (by omega) (Nat.zero_le _) ?_
      rintro v4 w4 hown4 hg4 hv4
      refine ⟨hbD.ext (y3.grown hg4 low3), fun hS => ?_⟩
      have y4 := y3.grown hg4 low3
      have low4 : ∀ q, v4.ownBlock = some q → wr.drew.heap.size ≤ q := fun q e => by
        rcases hv4 with z | z
        · exact low3 q (by rw [← z]; exact e)
        · rw [z] at e; cases e; exact y3.size
      refine GW.append 7 0 rfl (by kernel_rfl) rfl rfl Tryz.underlying22 ti27 rfl (by decide) rfl rfl ((hown4).more (Nat.zero_le _)) (Src.of_sl Tryz.underlying22 (Sl.of_bk ((hb6.ext hx3).mo (Mo.grown (S := [eb]) hg4 (fun q e => by simp [Value.ownBlock] at e; simp [e])) (by simp; have := hb6.lt; omega)) ((hb6.ext hx3).mo (Mo.grown (S := [eb]) hg4 (fun q e => by simp [Value.ownBlock] at e; simp [e])) (by simp; have := hb6.lt; omega)).lt) (rfl) (by rw [← e0]; exact mems_one [m]) (by decide)) (by simp only [maxLen]; omega) (by omega) (Nat.zero_le _) ?_
      rintro v7 w7 hown7 hg7 hv7
      refine ⟨hbD.ext (y4.grown hg7 low4), fun hS => ?_⟩
      have y7 := y4.grown hg7 low4
      have low7 : ∀ q, v7.ownBlock = some q → wr.drew.heap.size ≤ q := fun q e => by
        rcases hv7 with z | z
        · exact low4 q (by rw [← z]; exact e)
        · rw [z] at e; cases e; exact y4.size
      refine GW.append 11 0 rfl (by kernel_rfl) rfl rfl Tryz.underlying22 ti27 rfl (by decide) rfl rfl ((hown7).more (Nat.zero_le _)) (Src.of_sl Tryz.underlying22 (hslB.ext y7) (hlB) (mems_one _) (by decide)) (by simp only [maxLen]; omega) (by omega) (Nat.zero_le _) ?_
      rintro v11 w11 hown11 hg11 hv11
      refine ⟨hbD.ext (y7.grown hg11 low7), fun hS => ?_⟩
      refine GW.val 12 rfl (by kernel_rfl) (by kernel_rfl) (by kernel_rfl) rfl rfl hS (fun w' hS' => EX.assign rfl) ?_
      refine GW.done (by kernel_rfl) ?_
      have y11 := y7.grown hg11 low7
      have low11 : ∀ q, v11.ownBlock = some q → wr.drew.heap.size ≤ q := fun q e => by
        rcases hv11 with z | z
        · exact low7 q (by rw [← z]; exact e)
        · rw [z] at e; cases e; exact y7.size
      refine KW.ret (ret1 rfl rfl ?_)
      subst hmb
      exact fin _ _ ((hown11.base (B := DD) (fun q e => by have := low11 q e; omega)).more zD) (below_ext (xr.trans hxd) y11)
theorem isMap_path {f : List UInt8 → Option M} {out : List M} (h : IsMap M.path f out) {k : Nat} (hb : ∀ p z, f p = some z → z.path.length ≤ k) : ∀ x ∈ out, x.path.length ≤ k := fun x hx => hb _ x ((h.mem x).1 hx)
theorem less_map {f : List UInt8 → Option M} {out : List M} (h : IsMap M.path f out) (p : List UInt8) : IsMap M.path (upd f p none) (lessP out p) := IsMap.del M.path h p
set_option maxRecDepth 20000 in
theorem rapply_s (l : List M) (hl : ∀ x ∈ l, x.path.length ≤ 2000000) (hn : l.length ≤ 1000) (ns : List Nt) (hl2 : ∀ x ∈ ns, x.mem.path.length ≤ 2000000) (hn2 : ns.length ≤ 1000) (A A2 : Option Addr) (c c2 B B2 : Nat) (w : World) (hs : Sl w B A (memsV l)) (hs2 : Sl w B2 A2 (ntsV ns)) :
    Ret Tryz.prog 7 [.slice A l.length c, .slice A2 ns.length c2] w fun v w' => ∃ out, IsMap M.path (appF l ns) out ∧ out.length ≤ l.length + ns.length ∧ Own w' w.heap.size 27 5 v out.length (memsV out) ∧ Ext w w' := by
  refine Ret.enter Tryz.func7 rfl Tryz.ntmps7 (by kernel_rfl) rfl ?_
  refine KW.seq (KW.region ?_)
  refine OW.val rfl rfl (EX.assign rfl) ?_
  refine OW.nil ?_
  refine KW.seq (KW.region ?_)
  refine OW.val rfl rfl (EX.assign rfl) ?_
  refine OW.nil ?_
  refine KW.seq (KW.seq (KW.region ?_))
  refine OW.val rfl rfl (EX.assign rfl) ?_
  refine OW.nil ?_
  refine KW.block ?_
  refine KW.loop4 (fun (i : Nat) (out : (List M)) (v : Value) (wr : World) => i ≤ l.length ∧ IsMap M.path (lastF M.path (l.take i)) out ∧ out.length ≤ i ∧ Own wr w.heap.size 27 5 v out.length (memsV out) ∧ Ext w wr) (fun (i : Nat) (out : (List M)) (v : Value) (wr : World) => [(0, .slice A l.length c), (1, .slice A2 ns.length c2), (5, v), (6, .int .i64 ((i : Nat) : Int))]) (fun (i : Nat) (out : (List M)) (v : Value) (wr : World) => wr) (fun (i : Nat) (out : (List M)) (v : Value) (wr : World) => l.length - i) (0) ([]) (.slice none 0 0) (w) ⟨rfl, rfl, rfl, rfl, trivial⟩ rfl ?_ ?_
  · exact ⟨Nat.zero_le _, IsMap.nil _, Nat.zero_le _, Own.nil _ _ _ _, Ext.refl _⟩
  · rintro i out v wr ⟨hi, hmap, hol, hown, hx⟩
    refine KW.seq (KW.seq (KW.region ?_))
    refine OW.val rfl rfl (EX.move rfl) ?_
    refine OW.val rfl rfl (EX.move rfl) ?_
    refine OW.val rfl rfl (EX.lenA Tryz.underlying22 rfl) ?_
    refine OW.val rfl rfl (by first | exact EX.lssN rfl rfl | exact EX.lssZ rfl rfl) ?_
    refine OW.nil ?_
    refine KW.condD rfl (fun hlt => ?_) (fun hlt => ?_)
    · obtain ⟨b, o, rfl, _, hcell⟩ := (hs.ext hx).flat (c := 5) (fun _ => rfl) (by decide) hlt
      have hsn : l.take (i + 1) = l.take i ++ [l[i]] := (List.take_append_getElem hlt).symm
      have hxl := hl l[i] (List.getElem_mem hlt)
      generalize l[i] = x at hcell hsn hxl
      obtain ⟨A3, c3, rfl, hc3, hsl3⟩ := hown.slice
      have hbd : ∀ y ∈ out, y.path.length ≤ 2000000 := isMap_path hmap fun p z hz => hl z (List.mem_of_mem_take (lastF_mem M.path hz))
      refine KW.skip (KW.seq (KW.block (KW.region ?_)))
      refine OW.val rfl rfl (EX.move rfl) ?_
      refine OW.val rfl rfl (EX.move rfl) ?_
      refine OW.val rfl rfl (EX.move rfl) ?_
      refine OW.val rfl rfl (EX.indexAddrS Tryz.underlying22 ti27 rfl rfl (by omega)) ?_
      refine OW.val rfl rfl (EX.loadA (l := x.cells) Tryz.underlying27 rfl ti27 rfl rfl hcell) ?_
      refine OW.call rfl rfl rfl (rwith_s _ out hmap hbd x hxl (by omega) A3 c3 _ wr hsl3) ?_
      rintro v4 w4 ⟨out4, hmap4, hol4, hown4, hx4⟩
      refine OW.val rfl rfl (EX.assign rfl) ?_
      refine OW.nil ?_
      refine KW.leave (KW.region ?_)
      refine OW.val rfl rfl (EX.move rfl) ?_
      refine OW.val rfl rfl (by first | exact EX.addN (b := 1) (m := 9223372036854775807) rfl rfl rfl (by omega) | exact EX.addZ (m := 9223372036854775807) rfl rfl rfl rfl (by omega)) ?_
      refine OW.val rfl rfl (EX.assign rfl) ?_
      refine OW.nil ?_
      refine KW.back4 (i + 1) (out4) (v4) (w4) ⟨rfl, rfl, rfl, rfl, trivial⟩ rfl ?_ (by omega)
      exact ⟨by omega, by rw [hsn, lastF_snoc]; exact hmap4, by omega, hown4.more hx.size, hx.trans hx4⟩
    · obtain rfl : i = l.length := by omega
      rw [List.take_length] at hmap
      refine KW.exit rfl (KW.seq (KW.seq (KW.region ?_)))
      refine OW.val rfl rfl (EX.assign rfl) ?_
      refine OW.nil ?_
      refine KW.block ?_
      refine KW.loop4 (fun (i : Nat) (out : (List M)) (v : Value) (wr : World) => i ≤ ns.length ∧ IsMap M.path (appF l (ns.take i)) out ∧ out.length ≤ l.length + i ∧ Own wr w.heap.size 27 5 v out.length (memsV out) ∧ Ext w wr) (fun (i : Nat) (out : (List M)) (v : Value) (wr : World) => [(1, .slice A2 ns.length c2), (5, v), (7, .int .i64 ((i : Nat) : Int))]) (fun (i : Nat) (out : (List M)) (v : Value) (wr : World) => wr) (fun (i : Nat) (out : (List M)) (v : Value) (wr : World) => ns.length - i) (0) (out) (v) (wr) ⟨rfl, rfl, rfl, trivial⟩ rfl ?_ ?_
      · exact ⟨Nat.zero_le _, hmap, hol, hown, hx⟩
      · clear hmap hol hown hx
        rintro i out v wr ⟨hi, hmap, hol, hown, hx⟩
        refine KW.seq (KW.seq (KW.region ?_))
        refine OW.val rfl rfl (EX.move rfl) ?_
        refine OW.val rfl rfl (EX.move rfl) ?_
        refine OW.val rfl rfl (EX.lenA Tryz.underlying23 rfl) ?_
        refine OW.val rfl rfl (by first | exact EX.lssN rfl rfl | exact EX.lssZ rfl rfl) ?_
        refine OW.nil ?_
        refine KW.condD rfl (fun hlt => ?_) (fun hlt => ?_)
        · obtain ⟨b, o, rfl, _, hcell⟩ := (hs2.ext hx).flat (c := 6) (fun _ => rfl) (by decide) hlt
          have hsn : ns.take (i + 1) = ns.take i ++ [ns[i]] := (List.take_append_getElem hlt).symm
          have hxl := hl2 ns[i] (List.getElem_mem hlt)
          generalize ns[i] = x at hcell hsn hxl
          obtain ⟨A3, c3, rfl, hc3, hsl3⟩ := hown.slice
          have hbd : ∀ y ∈ out, y.path.length ≤ 2000000 := isMap_path hmap fun p z hz => by
            obtain ⟨_, e2⟩ := appF_mem l _ _ _ hz
            rcases e2 with e2 | ⟨n, hn', e2⟩
            · exact hl _ e2
            · rw [← e2]; exact hl2 _ (List.mem_of_mem_take hn')
          have hst := appF_snoc l (ns.take i) x
          rw [← hsn] at hst
          unfold stepN at hst
          have hcm : ∀ j u, x.mem.cells[j]? = some u → wr.cell? ⟨b, o + i * 6 + 1 + j, none⟩ = some u := fun j u h => by
            rw [show o + i * 6 + 1 + j = o + i * 6 + (1 + j) by omega]
            exact hcell (1 + j) u (by simp only [Nt.cells]; rw [Nat.add_comm 1 j, List.getElem?_cons_succ]; exact h)
          refine KW.skip (KW.seq (KW.block (KW.seq (KW.seq (KW.region ?_)))))
          refine OW.val rfl rfl (EX.move rfl) ?_
          refine OW.val rfl rfl (EX.move rfl) ?_
          refine OW.val rfl rfl (EX.indexAddrS Tryz.underlying23 ti39 rfl rfl (by omega)) ?_
          refine OW.val rfl rfl (EX.fieldAddr (off := 0) Tryz.underlying39 rfl rfl ti3 rfl rfl) ?_
          refine OW.val rfl rfl (EX.load Tryz.underlying3 rfl rfl (hcell 0 _ rfl)) ?_
          refine OW.val rfl rfl (by first | exact EX.eqlN (b := 1) rfl rfl | exact EX.eqlZ rfl rfl) ?_
          refine OW.nil ?_
          refine KW.condD rfl (fun hk1 => ?_) (fun hk1 => ?_)
          · rw [if_pos hk1] at hst
            refine KW.region ?_
            refine OW.val rfl rfl (EX.move rfl) ?_
            refine OW.val rfl rfl (EX.move rfl) ?_
            refine OW.val rfl rfl (EX.move rfl) ?_
            refine OW.val rfl rfl (EX.indexAddrS Tryz.underlying23 ti39 rfl rfl (by omega)) ?_
            refine OW.val rfl rfl (EX.fieldAddr (off := 1) Tryz.underlying39 rfl rfl ti27 rfl rfl) ?_
            refine OW.val rfl rfl (EX.loadA (l := x.mem.cells) Tryz.underlying27 rfl ti27 rfl rfl hcm) ?_
            refine OW.call rfl rfl rfl (rwith_s _ out hmap hbd x.mem hxl (by omega) A3 c3 _ wr hsl3) ?_
            rintro v4 w4 ⟨out4, hmap4, hol4, hown4, hx4⟩
            refine OW.val rfl rfl (EX.assign rfl) ?_
            refine OW.nil ?_
            refine KW.seq (KW.region ?_)
            refine OW.val rfl rfl (EX.move rfl) ?_
            refine OW.val rfl rfl (EX.move rfl) ?_
            refine OW.val rfl rfl (EX.indexAddrS Tryz.underlying23 ti39 rfl rfl (by omega)) ?_
            refine OW.val rfl rfl (EX.fieldAddr (off := 0) Tryz.underlying39 rfl rfl ti3 rfl rfl) ?_
            have hcell4 := fun j u h => cell_extW hx4 (hcell j u h)
            refine OW.val rfl rfl (EX.load Tryz.underlying3 rfl rfl (hcell4 0 _ rfl)) ?_
            refine OW.val rfl rfl (by first | exact EX.eqlN (b := 2) rfl rfl | exact EX.eqlZ rfl rfl) ?_
            refine OW.nil ?_
            refine KW.condD rfl (fun hk2 => ?_) (fun hk2 => ?_)
            · omega
            · refine KW.skip (KW.leave (KW.region ?_))
              refine OW.val rfl rfl (EX.move rfl) ?_
              refine OW.val rfl rfl (by first | exact EX.addN (b := 1) (m := 9223372036854775807) rfl rfl rfl (by omega) | exact EX.addZ (m := 9223372036854775807) rfl rfl rfl rfl (by omega)) ?_
              refine OW.val rfl rfl (EX.assign rfl) ?_
              refine OW.nil ?_
              refine KW.back4 (i + 1) (out4) (v4) (w4) ⟨rfl, rfl, rfl, trivial⟩ rfl ?_ (by omega)
              exact ⟨by omega, by rw [hst]; exact hmap4, by omega, hown4.more hx.size, hx.trans hx4⟩
          · rw [if_neg hk1] at hst
            refine KW.skip (KW.seq (KW.region ?_))
            refine OW.val rfl rfl (EX.move rfl) ?_
            refine OW.val rfl rfl (EX.move rfl) ?_
            refine OW.val rfl rfl (EX.indexAddrS Tryz.underlying23 ti39 rfl rfl (by omega)) ?_
            refine OW.val rfl rfl (EX.fieldAddr (off := 0) Tryz.underlying39 rfl rfl ti3 rfl rfl) ?_
            refine OW.val rfl rfl (EX.load Tryz.underlying3 rfl rfl (hcell 0 _ rfl)) ?_
            refine OW.val rfl rfl (by first | exact EX.eqlN (b := 2) rfl rfl | exact EX.eqlZ rfl rfl) ?_
            refine OW.nil ?_
            refine KW.condD rfl (fun hk2 => ?_) (fun hk2 => ?_)
            · rw [if_pos hk2] at hst
              have hle := lessP_le out x.mem.path
              refine KW.region ?_
              refine OW.val rfl rfl (EX.move rfl) ?_
              refine OW.val rfl rfl (EX.move rfl) ?_
              refine OW.val rfl rfl (EX.move rfl) ?_
              refine OW.val rfl rfl (EX.indexAddrS Tryz.underlying23 ti39 rfl rfl (by omega)) ?_
              refine OW.val rfl rfl (EX.fieldAddr (off := 1) Tryz.underlying39 rfl rfl ti27 rfl rfl) ?_
              refine OW.val rfl rfl (EX.fieldAddr (off := 0) Tryz.underlying27 rfl rfl ti9 rfl rfl) ?_
              refine OW.val rfl rfl (EX.load Tryz.underlying9 rfl rfl (hcm 0 _ rfl)) ?_
              refine OW.call rfl rfl rfl (rwithout_s out (by omega) x.mem.path A3 c3 _ wr hsl3) ?_
              rintro v4 w4 ⟨hown4, hx4⟩
              refine OW.val rfl rfl (EX.assign rfl) ?_
              refine OW.nil ?_
              refine KW.leave (KW.region ?_)
              refine OW.val rfl rfl (EX.move rfl) ?_
              refine OW.val rfl rfl (by first | exact EX.addN (b := 1) (m := 9223372036854775807) rfl rfl rfl (by omega) | exact EX.addZ (m := 9223372036854775807) rfl rfl rfl rfl (by omega)) ?_
              refine OW.val rfl rfl (EX.assign rfl) ?_
              refine OW.nil ?_
              refine KW.back4 (i + 1) (lessP out x.mem.path) (v4) (w4) ⟨rfl, rfl, rfl, trivial⟩ rfl ?_ (by omega)
              exact ⟨by omega, by rw [hst]; exact less_map hmap _, by omega, hown4.more hx.size, hx.trans hx4⟩
            · rw [if_neg hk2] at hst
              refine KW.skip (KW.leave (KW.region ?_))
              refine OW.val rfl rfl (EX.move rfl) ?_
              refine OW.val rfl rfl (by first | exact EX.addN (b := 1) (m := 9223372036854775807) rfl rfl rfl (by omega) | exact EX.addZ (m := 9223372036854775807) rfl rfl rfl rfl (by omega)) ?_
              refine OW.val rfl rfl (EX.assign rfl) ?_
              refine OW.nil ?_
              refine KW.back4 (i + 1) (out) (.slice A3 out.length c3) (wr) ⟨rfl, rfl, rfl, trivial⟩ rfl ?_ (by omega)
              exact ⟨by omega, by rw [hst]; exact hmap, by omega, hown, hx⟩
        · obtain rfl : i = ns.length := by omega
          rw [List.take_length] at hmap
          refine KW.exit rfl (KW.seq (KW.region ?_))
          refine OW.val rfl rfl (EX.move rfl) ?_
          refine OW.val rfl rfl (EX.assign rfl) ?_
          refine OW.nil ?_
          refine KW.ret (ret1 rfl rfl ?_)
          exact ⟨out, hmap, hol, hown, hx⟩
theorem memW_eq (a b : M) : (!([decide (a.path = b.path), decide (a.start = b.start), decide (a.sectors = b.sectors), decide (a.size = b.size), decide ((a.sum : Int) = (b.sum : Int))].all id)) = decide (a ≠ b) := by
  obtain ⟨a1, a2, a3, a4, a5⟩ := a
  obtain ⟨b1, b2, b3, b4, b5⟩ := b
  have e : ((a5 : Int) = (b5 : Int)) ↔ a5 = b5 := by omega
  rw [Bool.eq_iff_iff]
  simp only [e, List.all_cons, List.all_nil, id, Bool.and_true, Bool.not_eq_true', Bool.and_eq_false_iff, decide_eq_false_iff_not, decide_eq_true_eq, M.mk.injEq, ne_eq, not_and]
  constructor
  · rintro (h | h | h | h | h) h1 h2 h3 h4 <;> simp_all
  · intro h
    by_cases c1 : a1 = b1 <;> by_cases c2 : a2 = b2 <;> by_cases c3 : a3 = b3 <;> by_cases c4 : a4 = b4 <;> simp_all
set_option maxRecDepth 20000 in
theorem sameM_s (l1 l2 : List M) (A1 A2 : Option Addr) (k1 k2 : Nat) (w : World) (B1 B2 : Nat) (h1 : Sl w B1 A1 (memsV l1)) (h2 : Sl w B2 A2 (memsV l2)) (hn : l1.length ≤ 1000000000000) :
    Ret Tryz.prog 5 [.slice A1 l1.length k1, .slice A2 l2.length k2] w fun v w' => v = .bool (decide (l1 = l2)) ∧ Ext w w' := by
  refine Ret.enter Tryz.func5 rfl Tryz.ntmps5 (by kernel_rfl) rfl ?_
  refine KW.seq (KW.region ?_)
  refine OW.val rfl rfl (EX.assign rfl) ?_
  refine OW.nil ?_
  refine KW.seq (KW.seq (KW.region ?_))
  refine OW.val rfl rfl (EX.move rfl) ?_
  refine OW.val rfl rfl (EX.lenA Tryz.underlying22 rfl) ?_
  refine OW.val rfl rfl (EX.move rfl) ?_
  refine OW.val rfl rfl (EX.lenA Tryz.underlying22 rfl) ?_
  refine OW.val rfl rfl (by first | exact EX.neqN rfl rfl | exact EX.neqZ rfl rfl) ?_
  refine OW.nil ?_
  refine KW.condD rfl (fun hl => ?_) (fun hl => ?_)
  · refine KW.seq (KW.region ?_)
    refine OW.val rfl rfl (EX.assign rfl) ?_
    refine OW.nil ?_
    refine KW.ret (ret1 rfl rfl ?_)
    refine ⟨congrArg Value.bool (decide_eq_false (fun e => hl (by rw [e]))).symm, Ext.refl _⟩
  · have hll : l1.length = l2.length := by omega
    refine KW.skip (KW.seq (KW.seq (KW.region ?_)))
    refine OW.val rfl rfl (EX.assign rfl) ?_
    refine OW.nil ?_
    refine KW.block ?_
    refine KW.loop2 (fun (i : Nat) (wr : World) => i ≤ l1.length ∧ (∀ j, j < i → l1[j]? = l2[j]?) ∧ Ext w wr) (fun (i : Nat) (wr : World) => [(0, .slice A1 l1.length k1), (1, .slice A2 l2.length k2), (5, .int .i64 ((i : Nat) : Int))]) (fun (i : Nat) (wr : World) => wr) (fun (i : Nat) (wr : World) => l1.length - i) (0) (w) ⟨rfl, rfl, rfl, trivial⟩ rfl ?_ ?_
    · exact ⟨by omega, fun j hj => by omega, Ext.refl _⟩
    · rintro i wr ⟨hi, he, hx⟩
      refine KW.seq (KW.seq (KW.region ?_))
      refine OW.val rfl rfl (EX.move rfl) ?_
      refine OW.val rfl rfl (EX.move rfl) ?_
      refine OW.val rfl rfl (EX.lenA Tryz.underlying22 rfl) ?_
      refine OW.val rfl rfl (by first | exact EX.lssN rfl rfl | exact EX.lssZ rfl rfl) ?_
      refine OW.nil ?_
      refine KW.condD rfl (fun hlt => ?_) (fun hlt => ?_)
      · have hlt2 : i < l2.length := by omega
        obtain ⟨b1, o1, rfl, _, hc1⟩ := (h1.ext hx).flat (c := 5) (fun _ => rfl) (by decide) hlt
        obtain ⟨b2, o2, rfl, _, hc2⟩ := (h2.ext hx).flat (c := 5) (fun _ => rfl) (by decide) hlt2
        refine KW.skip (KW.seq (KW.block (KW.seq ?_)))
        refine KW.regionQ (by kernel_rfl) (by kernel_rfl) ?_
        refine QW.val rfl rfl (fun _ => EX.move rfl) ?_
        refine QW.val rfl rfl (fun _ => EX.move rfl) ?_
        refine QW.val rfl rfl (fun _ => EX.indexAddrS Tryz.underlying22 ti27 rfl rfl (by omega)) ?_
        refine QW.val rfl rfl (fun _ => EX.loadA (w := wr.drewN _) (l := (l1[i]).cells) Tryz.underlying27 rfl ti27 rfl rfl hc1) ?_
        refine QW.val rfl rfl (fun _ => EX.move rfl) ?_
        refine QW.val rfl rfl (fun _ => EX.move rfl) ?_
        refine QW.val rfl rfl (fun _ => EX.indexAddrS Tryz.underlying22 ti27 rfl rfl (by omega)) ?_
        refine QW.val rfl rfl (fun _ => EX.loadA (w := wr.drewN _) (l := (l2[i]).cells) Tryz.underlying27 rfl ti27 rfl rfl hc2) ?_
        refine QW.val rfl rfl (fun _ => EX.neqG Tryz.underlying27 (by kernel_rfl) (by kernel_rfl) rfl rfl (.cons (by decide) Tryz.underlying9 rfl rfl rfl (eq_str Tryz.underlying9) (.cons (by decide) Tryz.underlying3 rfl rfl rfl (eq_int Tryz.underlying3) (.cons (by decide) Tryz.underlying3 rfl rfl rfl (eq_int Tryz.underlying3) (.cons (by decide) Tryz.underlying3 rfl rfl rfl (eq_int Tryz.underlying3) (.cons (by decide) Tryz.underlying25 rfl rfl rfl (eq_int Tryz.underlying25) .nil))))) rfl) ?_
        refine QW.nil (fun nq => ?_)
        refine KW.as 25 (.bool (decide (l1[i] ≠ l2[i]))) rfl (congrArg Value.bool (memW_eq _ _)) ?_
        refine KW.condD rfl (fun hne => ?_) (fun hne => ?_)
        · refine KW.seq (KW.region ?_)
          refine OW.val rfl rfl (EX.assign rfl) ?_
          refine OW.nil ?_
          refine KW.ret (ret1 rfl rfl ?_)
          refine ⟨congrArg Value.bool (decide_eq_false (fun e => hne ?_)).symm, hx.trans (Ext.drewN wr nq)⟩
          subst e
          rfl
        · refine KW.skip (KW.leave (KW.region ?_))
          refine OW.val rfl rfl (EX.move rfl) ?_
          refine OW.val rfl rfl (by first | exact EX.addN (b := 1) (m := 9223372036854775807) rfl rfl rfl (by omega) | exact EX.addZ (m := 9223372036854775807) rfl rfl rfl rfl (by omega)) ?_
          refine OW.val rfl rfl (EX.assign rfl) ?_
          refine OW.nil ?_
          refine KW.back2 (i + 1) (wr.drewN nq) ⟨rfl, rfl, rfl, trivial⟩ rfl ?_ (by omega)
          refine ⟨by omega, fun j hj => ?_, hx.trans (Ext.drewN wr nq)⟩
          by_cases e : j = i
          · subst e
            rw [List.getElem?_eq_getElem hlt, List.getElem?_eq_getElem hlt2]
            exact congrArg some (by simpa using hne)
          · exact he j (by omega)
      · obtain rfl : i = l1.length := by omega
        refine KW.exit rfl (KW.seq (KW.region ?_))
        refine OW.val rfl rfl (EX.assign rfl) ?_
        refine OW.nil ?_
        refine KW.ret (ret1 rfl rfl ?_)
        refine ⟨congrArg Value.bool (decide_eq_true ?_).symm, hx⟩
        apply List.ext_getElem?
        intro j
        by_cases hj : j < l1.length
        · exact he j hj
        · rw [List.getElem?_eq_none (by omega), List.getElem?_eq_none (by omega)]
set_option maxRecDepth 20000 in
theorem walApplies_s (l : List M) (ns : List Nt) (hl2 : ∀ x ∈ ns, x.mem.path.length ≤ 2000000) (A A2 : Option Addr) (c c2 B B2 : Nat) (w : World) (hs : Sl w B A (memsV l)) (hs2 : Sl w B2 A2 (ntsV ns)) (hG : MLen w) :
    Ret Tryz.prog 3 [.slice A l.length c, .slice A2 ns.length c2] w fun v w' => v = .bool true ∧ Ext w w' := by
  have bye : ∀ w', Ext w w' → Ret Tryz.prog 4 [] w' fun v w'' => v = .bool true ∧ Ext w w'' := fun w' hx => (awake_s w').mono fun _ _ h => ⟨h.1, Ext.trans hx h.2⟩
  refine Ret.enter Tryz.func3 rfl Tryz.ntmps3 (by kernel_rfl) rfl ?_
  refine KW.seq (KW.region ?_)
  refine OW.val rfl rfl (EX.assign rfl) ?_
  refine OW.nil ?_
  refine KW.seq (KW.seq ?_)
  refine KW.region ?_
  refine OW.val rfl rfl (EX.move rfl) ?_
  refine OW.val rfl rfl (EX.lenA Tryz.underlying22 rfl) ?_
  refine OW.val rfl rfl (by first | exact EX.gtrN (b := 200) rfl rfl | exact EX.gtrZ rfl rfl) ?_
  refine OW.val rfl rfl (EX.move rfl) ?_
  refine OW.splitD 10 rfl (fun q0 => ?_) (fun q0 => ?_)
  · refine OW.pass rfl rfl ?_
    refine OW.pass rfl rfl ?_
    refine OW.pass rfl rfl ?_
    refine OW.val rfl rfl (EX.pickT rfl rfl) ?_
    refine OW.nil ?_
    refine KW.condT rfl (KW.seq (KW.region ?_))
    refine OW.call rfl rfl rfl (bye w (Ext.refl _)) ?_
    rintro _ w1 ⟨rfl, hx1⟩
    refine OW.val rfl rfl (EX.assign rfl) ?_
    refine OW.nil ?_
    refine KW.ret (ret1 rfl rfl ?_)
    exact ⟨rfl, hx1⟩
  · refine OW.val rfl rfl (EX.move rfl) ?_
    refine OW.val rfl rfl (EX.lenA Tryz.underlying23 rfl) ?_
    refine OW.val rfl rfl (by first | exact EX.gtrN (b := 200) rfl rfl | exact EX.gtrZ rfl rfl) ?_
    refine OW.val rfl rfl (EX.pickF rfl rfl) ?_
    refine OW.nil ?_
    refine KW.condD rfl (fun q1 => ?_) (fun q1 => ?_)
    · refine KW.seq (KW.region ?_)
      refine OW.call rfl rfl rfl (bye w (Ext.refl _)) ?_
      rintro _ w1 ⟨rfl, hx1⟩
      refine OW.val rfl rfl (EX.assign rfl) ?_
      refine OW.nil ?_
      refine KW.ret (ret1 rfl rfl ?_)
      exact ⟨rfl, hx1⟩
    · refine KW.skip (KW.seq (KW.seq (KW.region ?_)))
      refine OW.val rfl rfl (EX.assign rfl) ?_
      refine OW.nil ?_
      refine KW.block ?_
      refine KW.loop1 (fun (i : Nat) => i ≤ l.length ∧ ∀ x ∈ l.take i, x.path.length ≤ 200) (fun (i : Nat) => [(0, .slice A l.length c), (1, .slice A2 ns.length c2), (5, .int .i64 ((i : Nat) : Int))]) (fun (i : Nat) => w) (fun (i : Nat) => l.length - i) (0) ⟨rfl, rfl, rfl, trivial⟩ rfl ?_ ?_
      · exact ⟨Nat.zero_le _, by simp⟩
      · rintro i ⟨hi, hlow⟩
        refine KW.seq (KW.seq (KW.region ?_))
        refine OW.val rfl rfl (EX.move rfl) ?_
        refine OW.val rfl rfl (EX.move rfl) ?_
        refine OW.val rfl rfl (EX.lenA Tryz.underlying22 rfl) ?_
        refine OW.val rfl rfl (by first | exact EX.lssN rfl rfl | exact EX.lssZ rfl rfl) ?_
        refine OW.nil ?_
        refine KW.condD rfl (fun hlt => ?_) (fun hlt => ?_)
        · obtain ⟨b, o, rfl, _, hcell⟩ := hs.flat (c := 5) (fun _ => rfl) (by decide) hlt
          have hsn : l.take (i + 1) = l.take i ++ [l[i]] := (List.take_append_getElem hlt).symm
          generalize l[i] = x at hcell hsn
          refine KW.skip (KW.seq (KW.block (KW.seq (KW.region ?_))))
          refine OW.val rfl rfl (EX.move rfl) ?_
          refine OW.val rfl rfl (EX.move rfl) ?_
          refine OW.val rfl rfl (EX.indexAddrS Tryz.underlying22 ti27 rfl rfl (by omega)) ?_
          refine OW.val rfl rfl (EX.fieldAddr (off := 0) Tryz.underlying27 rfl rfl ti9 rfl rfl) ?_
          refine OW.val rfl rfl (EX.load Tryz.underlying9 rfl rfl (hcell 0 _ rfl)) ?_
          refine OW.val rfl rfl (EX.lenS Tryz.underlying9 rfl) ?_
          refine OW.val rfl rfl (by first | exact EX.gtrN (b := 200) rfl rfl | exact EX.gtrZ rfl rfl) ?_
          refine OW.nil ?_
          refine KW.condD rfl (fun hbig => ?_) (fun hbig => ?_)
          · refine KW.seq (KW.region ?_)
            refine OW.call rfl rfl rfl (bye w (Ext.refl _)) ?_
            rintro _ w1 ⟨rfl, hx1⟩
            refine OW.val rfl rfl (EX.assign rfl) ?_
            refine OW.nil ?_
            refine KW.ret (ret1 rfl rfl ?_)
            exact ⟨rfl, hx1⟩
          · refine KW.skip (KW.leave (KW.region ?_))
            refine OW.val rfl rfl (EX.move rfl) ?_
            refine OW.val rfl rfl (by first | exact EX.addN (b := 1) (m := 9223372036854775807) rfl rfl rfl (by omega) | exact EX.addZ (m := 9223372036854775807) rfl rfl rfl rfl (by omega)) ?_
            refine OW.val rfl rfl (EX.assign rfl) ?_
            refine OW.nil ?_
            refine KW.back1 (i + 1) ⟨rfl, rfl, rfl, trivial⟩ rfl ?_ (by omega)
            refine ⟨by omega, fun y hy => ?_⟩
            rw [hsn, List.mem_append, List.mem_singleton] at hy
            rcases hy with hy | rfl
            · exact hlow y hy
            · omega
        · obtain rfl : i = l.length := by omega
          rw [List.take_length] at hlow
          have hbd : ∀ x ∈ l, x.path.length ≤ 2000000 := fun x hx => by have := hlow x hx; omega
          refine KW.exit rfl (KW.seq (KW.region ?_))
          refine OW.buildG 0 ([]) rfl rfl Tryz.underlying22 ti27 rfl (by decide) rfl rfl rfl (by repeat' (first | exact List.forall_mem_nil _ | refine List.forall_mem_cons.2 ⟨by first | rfl | assumption, ?_⟩)) (by decide) ?_
          rintro eb w2 hge2 hb2 hx2
          refine OW.val rfl rfl (EX.move rfl) ?_
          have hown2 : Own w2 w.heap.size 27 5 (.slice (some ⟨eb, 0, none⟩) 0 0) 0 [] := Own.of_bk (cap := 0) hb2 hge2 rfl (by decide)
          refine OW.appendX rfl rfl Tryz.underlying22 ti27 rfl (by decide) rfl rfl (hx2) (hown2) (Src.of_sl Tryz.underlying22 (hs.ext hx2) (memsV_length l) (mems_one l) (by decide)) (by simp only [maxLen]; omega) (by omega) ?_
          rintro u3 w3 hown3 hx3 hg3 hv3
          refine OW.val rfl rfl (EX.assign rfl) ?_
          refine OW.nil ?_
          refine KW.seq ?_
          rw [List.nil_append] at hown3
          obtain ⟨A3, c3, rfl, _, hsl3⟩ := hown3.slice
          rw [Nat.zero_add] at *
          have c1 := wapply_s l hbd (by omega) ns hl2 (by omega) A3 A2 c3 c2 _ _ w3 (hG.ext hx3) hsl3 (hs2.ext hx3)
          refine KW.region ?_
          refine OW.val rfl rfl (EX.move rfl) ?_
          refine OW.val rfl rfl (EX.move rfl) ?_
          refine OW.call rfl rfl rfl (c1) ?_
          rintro _ w4 ⟨out, hout, hown4, hx4⟩
          refine OW.val rfl rfl (EX.move rfl) ?_
          refine OW.val rfl rfl (EX.move rfl) ?_
          have x4 := hx3.trans hx4
          refine OW.call rfl rfl rfl (rapply_s l hbd (by omega) ns hl2 (by omega) A A2 c c2 _ _ w4 (hs.ext x4) (hs2.ext x4)) ?_
          rintro _ w5 ⟨out2, hout2, hol2, hown5, hx5⟩
          obtain rfl := hout.one hout2
          have x5 := x4.trans hx5
          have hown4b := hown4.ext hx5
          obtain ⟨A4, c4, rfl, _, hsl4⟩ := hown4b.slice
          obtain ⟨A5, c5, rfl, _, hsl5⟩ := hown5.slice
          have c6 := sameM_s out out A4 A5 c4 c5 w5 _ _ hsl4 hsl5 (by omega)
          rw [decide_eq_true rfl] at c6
          refine OW.call rfl rfl rfl (c6) ?_
          rintro _ w6 ⟨rfl, hx6⟩
          refine OW.val rfl rfl (EX.move rfl) ?_
          have x6 := x5.trans hx6
          refine OW.val rfl rfl (EX.move rfl) ?_
          refine OW.val rfl rfl (EX.move rfl) ?_
          have c7 := sameM_s l l A3 A c3 c w6 _ _ (((hsl3.ext hx4).ext hx5).ext hx6) (hs.ext x6) (by omega)
          rw [decide_eq_true rfl] at c7
          refine OW.call rfl rfl rfl (c7) ?_
          rintro _ w7 ⟨rfl, hx7⟩
          refine OW.val rfl rfl (EX.pickT rfl rfl) ?_
          refine OW.val rfl rfl (EX.move rfl) ?_
          have x7 := x6.trans hx7
          refine OW.call rfl rfl rfl (bye w7 x7) ?_
          rintro _ w8 ⟨rfl, hx8⟩
          refine OW.val rfl rfl (EX.pickT rfl rfl) ?_
          refine OW.val rfl rfl (EX.assign rfl) ?_
          refine OW.nil ?_
          refine KW.ret (ret1 rfl rfl ?_)
          exact ⟨rfl, hx8⟩
end Go.Proofs.YtlpnoogcdnfllaaGreatDoor
namespace Go.Proofs.YtlpnoogcdnfllaaGreatDoor
open Go.ChangeShapes Go.WideShapes Go.ChangeAt Go.RowKit
section
variable {H : Type} {enc : TypeId × Value → H} {P : Program}
theorem trodAll_stays (hl : laidOutB P = true) {W W' : World} (hx : Ext W W') : ∀ {ts : List TypeId} {vs : List Value} {ds : List (DataW H)} {ps : List MemPlace},
    (∀ t ∈ ts, P.readableRec t = true ∧ t < P.types.size) → DataW.TrodAll enc P W 0 (fun _ => true) true ts vs ds ps → (∀ p ∈ ps, p.block < W.heap.size) →
    DataW.TrodAll enc P W' 0 (fun b => decide (b < W.heap.size)) true ts vs ds ps
  | [], vs, ds, ps, _, h, _ => by
    obtain ⟨rfl, rfl, rfl⟩ := trodAll_nil h
    exact trodAll_mk0
  | t :: ts, vs, ds, ps, hr, h, hlt => by
    obtain ⟨v, vs', d, ds', p, q, rfl, rfl, rfl, h1, h2⟩ := trodAll_cons h
    refine trodAll_cons_mk (WideElems.Trod_stays hl (hr t (by simp)).1 (hr t (by simp)).2 h1 (fun x hx' => hx.same (hlt x (by simp [hx']))) (fun x hx' => by simpa using hlt x (by simp [hx']))) ?_
    exact trodAll_stays hl hx (fun u hu => hr u (by simp [hu])) h2 (fun x hx' => hlt x (by simp [hx']))
theorem law_post {f : Func} {s : ChangeSpec} {W W' : World} {args : Array Value} {ds gs : List (DataW H)} {before : List MemPlace} {T : TypeId}
    (hW : DataW.Whole enc P f.params.toList s.vars false W args.toList ds gs before) (hv : s.vars = []) (hspec : s.fn H (ds ++ gs) = { results := [.lit (.bool true)], args := ds }) (hrt : f.resultTypes = #[T]) (hu : P.underlying T = some .bool)
    (hl : laidOutB P = true) (hr : ∀ t ∈ f.params.toList, P.readableRec t = true ∧ t < P.types.size) (hx : Ext W W') : s.post enc P f false true false false W args (.bool true) W' := by
  have hlt : ∀ p ∈ before, p.block < W.heap.size := fun p hp => hW.lt p hp
  have hW0 := hW
  obtain ⟨p, q, hA, hV, rfl, _, _⟩ := hW
  rw [hv] at hV
  refine ⟨ds, gs, _, [], p, [], hW0, ?_, ?_, ?_, hx.frame _, fun h => by cases h⟩
  · rw [hspec, hrt]
    exact trodAll_cons_mk (p := []) (p' := []) (shut_bool hu _) trodAll_mk0
  · rw [hspec]
    exact trodAll_stays hl hx hr hA (fun x hx' => hlt x (by simp [hx']))
  · rw [hspec, hv]
    exact rfl
end
end Go.Proofs.YtlpnoogcdnfllaaGreatDoor
namespace Go.Proofs.YtlpnoogcdnfllaaGreatDoor
open Go.ChangeShapes Go.WideShapes Go.ChangeAt Go.RowKit
def layCells (cs : List Value) : Obj → Obj
  | .cells _ t frozen => .cells cs.toArray t frozen
  | o => o
section
variable {H : Type} {enc : TypeId × Value → H} {P : Program} {W : World} {base : Nat} {t e : TypeId} {v : Value} {d : DataW H} {p : List MemPlace} {r : Reach} {b0 : Nat}
theorem wf_nat {k : IntKind} {n : Int} (hs : k.signed = false) (h : (Lit.int k n).wf = true) : ∃ m : Nat, n = m ∧ m ≤ maxN k := by
  cases k <;> simp [IntKind.signed] at hs <;> (simp [Lit.wf, IntKind.min, IntKind.max, IntKind.signed, IntKind.bits] at h; exact ⟨n.toNat, by omega, by simp [maxN]; omega⟩)
theorem sl_of_cells {a : Addr} {xs : List Value} (h : ∀ j u, xs[j]? = some u → W.cell? (a.add j) = some u) : Sl W W.heap.size (some a) xs := by
  by_cases hx : xs = []
  · exact .inl hx
  · have h0 : 0 < xs.length := List.length_pos_iff.2 hx
    have hc := h 0 xs[0] (List.getElem?_eq_getElem h0)
    have ha : a.add 0 = a := by unfold Addr.add; simp
    rw [ha] at hc
    obtain ⟨b, o, sp⟩ := a
    have hsp : sp = none := by
      unfold World.cell? at hc
      split at hc
      · cases sp with
        | none => rfl
        | some _ => simp at hc
      · simp at hc
    subst hsp
    refine .inr ⟨b, o, rfl, World.block_lt_of_cell? W _ hc, fun j u hu => ?_⟩
    have := h j u hu
    have hadd : (⟨b, o, none⟩ : Addr).add j = ⟨b, o + j, none⟩ := by unfold Addr.add; split <;> simp_all
    rwa [hadd] at this
theorem weightsAll_mem : ∀ {l : List (DataW H)} {x : DataW H}, x ∈ l → ∀ n ∈ x.weights P e, n ∈ DataW.weightsAll P e l
  | y :: l, x, hx, n, hn => by
    simp only [DataW.weightsAll, List.mem_append]
    rcases List.mem_cons.1 hx with rfl | hx
    · exact .inl hn
    · exact .inr (weightsAll_mem hx n hn)
  | [], _, hx, _, _ => by simp at hx
end
end Go.Proofs.YtlpnoogcdnfllaaGreatDoor
namespace Go.Proofs.YtlpnoogcdnfllaaGreatDoor
open Go.ChangeShapes Go.WideShapes Go.ChangeAt Go.RowKit Go.Deep
theorem flatMap_at {α : Type} {cells : α → List Value} {c : Nat} (hc : ∀ a, (cells a).length = c) : ∀ (l : List α) (j : Nat) (u : Value), (l.flatMap cells)[j]? = some u → ∃ i r, ∃ hi : i < l.length, r < c ∧ j = i * c + r ∧ (cells l[i])[r]? = some u
  | [], j, u, h => by simp at h
  | a :: l, j, u, h => by
    rw [List.flatMap_cons] at h
    by_cases hj : j < c
    · rw [List.getElem?_append_left (by rw [hc]; exact hj)] at h
      exact ⟨0, j, by simp, hj, by omega, h⟩
    · rw [List.getElem?_append_right (by rw [hc]; omega), hc] at h
      obtain ⟨i, r, hi, hr, he, hu⟩ := flatMap_at hc l _ u h
      exact ⟨i + 1, r, by simpa using hi, hr, by rw [Nat.succ_mul]; omega, by simpa using hu⟩
section
variable {H : Type} {enc : TypeId × Value → H} {P : Program} {W : World} {base : Nat} {t e : TypeId} {v : Value} {d : DataW H} {p : List MemPlace} {r : Reach} {b0 : Nat}
theorem open_slG {α : Type} [Inhabited α] (cells : α → List Value) (ok : α → Prop) {c : Nat} (hcl : ∀ a, (cells a).length = c) (ht : P.underlying t = some (.slice e)) (hc : P.cellsOf e = c)
    (step : ∀ n cs x, DataW.trod enc P W base (fun _ => true) true n e cs = some x → (∀ m ∈ x.1.weights P e, m ≤ reachBytes) → (∃ es sp, d = .slice es sp ∧ x.1 ∈ es) → ∃ a, cs = cells a ∧ ok a)
    (hval : Value.okWide P W r b0 t v) (hd : DataW.Trod enc P W base (fun _ => true) true t v d p)
    {ts : List TypeId} {ds : List (DataW H)} (hsz : (DataW.weightsEach P ts ds).all (· ≤ reachBytes) = true) {j : Nat} (hj : ts[j]? = some t) (hdj : ds[j]? = some d) :
    ∃ (l : List α) (A : Option Addr) (cap : Nat), v = .slice A l.length cap ∧ (∀ a ∈ l, ok a) ∧ (A = none → l = []) ∧ l.length * P.bytesOf e ≤ reachBytes ∧ l.length ≤ cap ∧ Sl W W.heap.size A (l.flatMap cells) := by
  obtain ⟨A, len, cap, rfl⟩ := okWide_slice ht hval
  obtain ⟨fuel, hf⟩ := hd
  rcases open_slice ht hf with ⟨hcs, _⟩ | ⟨a, len', cap', m, n, D, Pl, hcs, _, hl, hm, hmm, hx, hel⟩
  · simp [Value.cells] at hcs
    obtain ⟨rfl, rfl, rfl⟩ := hcs
    exact ⟨[], none, 0, rfl, by simp, fun _ => rfl, by simp, by simp, .inl rfl⟩
  · simp [Value.cells] at hcs
    obtain ⟨rfl, rfl, rfl⟩ := hcs
    simp only [if_true] at hmm
    subst hmm
    simp only [Prod.mk.injEq] at hx
    obtain ⟨rfl, rfl⟩ := hx
    obtain ⟨B, hB⟩ := choose_lt (α := α) (p := fun i b => W.cells? base (a.add (i * c)) c = some (cells b) ∧ ok b) (n := len) (fun i hi => by
      obtain ⟨cs', h1, h2⟩ := hel i (by omega)
      have hw : ∀ k ∈ (D i).weights P e, k ≤ reachBytes := fun k hk => by
        have hmem : D i ∈ (List.range len).map D := List.mem_map.2 ⟨i, List.mem_range.2 hi, rfl⟩
        have h1 : k ∈ (DataW.slice ((List.range len).map D) ((List.range (m - len)).map fun j => D (len + j)) : DataW H).weights P t := by
          simp only [DataW.weights, ht, List.mem_cons, List.mem_append]
          exact .inr (.inl (weightsAll_mem hmem _ hk))
        have := List.all_eq_true.1 hsz _ (DataW.weights_mem_each hj hdj _ h1)
        simpa using this
      obtain ⟨b, rfl, hb⟩ := step n cs' _ h2 hw ⟨_, _, rfl, List.mem_map.2 ⟨i, List.mem_range.2 hi, rfl⟩⟩
      rw [hc] at h1
      exact ⟨b, h1, hb⟩)
    have hln : ((List.range len).map B).length = len := by simp
    refine ⟨(List.range len).map B, some a, m, by rw [hln], ?_, fun q => (by cases q), ?_, by rw [hln]; exact hl, sl_of_cells fun i u hu => ?_⟩
    · intro b hb
      obtain ⟨i, hi, rfl⟩ := List.mem_map.1 hb
      exact (hB i (List.mem_range.1 hi)).2
    · rw [hln]
      have := sized_slice hsz hj hdj ht
      simp only [List.length_map, List.length_range] at this
      exact Nat.le_trans (Nat.mul_le_mul_right _ (by omega)) this
    · obtain ⟨q, s, hq, hs, rfl, hu'⟩ := flatMap_at hcl _ _ _ hu
      have hq' : q < len := by simpa using hq
      have hg : ((List.range len).map B)[q] = B q := by simp
      rw [hg] at hu'
      rw [← add_add, (World.cells?_some (hB q hq').1).2.2 s hs]
      exact hu'
end
end Go.Proofs.YtlpnoogcdnfllaaGreatDoor
namespace Go.Proofs.YtlpnoogcdnfllaaGreatDoor
open Go.ChangeShapes Go.WideShapes Go.ChangeAt Go.RowKit Go.Deep Rec
structure _root_.Go.Proofs.YtlpnoogcdnfllaaGreatDoor.Rec.R.Ok (x : R) : Prop where
  kind : x.kind ≤ 255
  data : x.data.length ≤ 140737488351232
structure _root_.Go.Proofs.YtlpnoogcdnfllaaGreatDoor.Rec.M.Wide (m : M) : Prop where
  path : m.path.length ≤ 140737488351232
  sum : m.sum ≤ 4294967295
theorem five {l : List Value} (h : l.length = 5) : ∃ a b c d e, l = [a, b, c, d, e] := by
  match l, h with
  | [a, b, c, d, e], _ => exact ⟨a, b, c, d, e, rfl⟩
end Go.Proofs.YtlpnoogcdnfllaaGreatDoor
namespace Go.Proofs.YtlpnoogcdnfllaaGreatDoor
open Go.ChangeShapes Go.WideShapes Go.ChangeAt Go.RowKit Go.Deep Pth Rec Srt Wal
section
variable {H : Type} {enc : TypeId × Value → H} {W : World} {base : Nat} {v : Value} {d : DataW H} {p : List MemPlace} {r : Reach} {b0 : Nat}
set_option maxRecDepth 20000 in
theorem mem_stepV (n : Nat) (cs : List Value) (x : DataW H × List MemPlace) (h : DataW.trod enc Tryz.prog W base (fun _ => true) true n 27 cs = some x) (hw : Rows.uptoBulk x.1 ≤ 1048576) : ∃ a : M, cs = a.cells ∧ a.path.length ≤ 2000000 := by
  obtain ⟨xs, m, rfl, rfl, hl, hlen, hf⟩ := DataW.trod_struct Tryz.underlying27 h
  obtain ⟨c0, c1, c2, c3, c4, rfl⟩ := five (hl.trans (by kernel_rfl))
  have g : ∀ i (hi : i < 5), ∃ y, xs[i]? = some y := fun i hi => ⟨_, List.getElem?_eq_getElem (by rw [hlen]; exact hi)⟩
  obtain ⟨y0, e0⟩ := g 0 (by omega)
  obtain ⟨y1, e1⟩ := g 1 (by omega)
  obtain ⟨y2, e2⟩ := g 2 (by omega)
  obtain ⟨y3, e3⟩ := g 3 (by omega)
  obtain ⟨y4, e4⟩ := g 4 (by omega)
  have f0 : DataW.trod enc Tryz.prog W base (fun _ => true) true m 9 ((([c0, c1, c2, c3, c4] : List Value).drop 0).take (Tryz.prog.cellsOf 9)) = some y0 := (hf 0 _ rfl).trans e0
  have f1 : DataW.trod enc Tryz.prog W base (fun _ => true) true m 3 ((([c0, c1, c2, c3, c4] : List Value).drop 1).take (Tryz.prog.cellsOf 3)) = some y1 := (hf 1 _ rfl).trans e1
  have f2 : DataW.trod enc Tryz.prog W base (fun _ => true) true m 3 ((([c0, c1, c2, c3, c4] : List Value).drop 2).take (Tryz.prog.cellsOf 3)) = some y2 := (hf 2 _ rfl).trans e2
  have f3 : DataW.trod enc Tryz.prog W base (fun _ => true) true m 3 ((([c0, c1, c2, c3, c4] : List Value).drop 3).take (Tryz.prog.cellsOf 3)) = some y3 := (hf 3 _ rfl).trans e3
  have f4 : DataW.trod enc Tryz.prog W base (fun _ => true) true m 25 ((([c0, c1, c2, c3, c4] : List Value).drop 4).take (Tryz.prog.cellsOf 25)) = some y4 := (hf 4 _ rfl).trans e4
  rw [show Tryz.prog.cellsOf 9 = 1 by kernel_rfl] at f0
  rw [show Tryz.prog.cellsOf 3 = 1 by kernel_rfl] at f1 f2 f3
  rw [show Tryz.prog.cellsOf 25 = 1 by kernel_rfl] at f4
  simp only [List.drop_zero, List.drop_succ_cons, List.take_succ_cons, List.take_zero] at f0 f1 f2 f3 f4
  obtain ⟨s0, h0, hy0, w0⟩ := DataW.trod_string Tryz.underlying9 f0
  obtain ⟨n1, h1, _, w1⟩ := DataW.trod_int Tryz.underlying3 f1
  obtain ⟨n2, h2, _, w2⟩ := DataW.trod_int Tryz.underlying3 f2
  obtain ⟨n3, h3, _, w3⟩ := DataW.trod_int Tryz.underlying3 f3
  obtain ⟨n4, h4, _, w4⟩ := DataW.trod_int Tryz.underlying25 f4
  simp only [List.cons.injEq, and_true] at h0 h1 h2 h3 h4
  obtain ⟨m4, rfl, hm4⟩ := wf_nat rfl w4
  subst h0 h1 h2 h3 h4
  refine ⟨⟨s0.data.toList, n1, n2, n3, m4⟩, rfl, ?_⟩
  match xs, e0 with
  | y :: xs, e0 =>
    simp only [List.getElem?_cons_zero, Option.some.injEq] at e0
    rw [e0, hy0] at hw
    simp only [List.map_cons, Rows.uptoBulk, Rows.uptoBulkAll] at hw
    show s0.data.toList.length ≤ 2000000
    omega
theorem six {l : List Value} (h : l.length = 6) : ∃ a b c d e f, l = [a, b, c, d, e, f] := by
  match l, h with
  | [a, b, c, d, e, f], _ => exact ⟨a, b, c, d, e, f, rfl⟩
set_option maxRecDepth 20000 in
theorem note_stepV (n : Nat) (cs : List Value) (x : DataW H × List MemPlace) (h : DataW.trod enc Tryz.prog W base (fun _ => true) true n 39 cs = some x) (hw : Rows.uptoBulk x.1 ≤ 1048576) : ∃ a : Nt, cs = a.cells ∧ a.mem.path.length ≤ 2000000 := by
  obtain ⟨xs, m, rfl, rfl, hl, hlen, hf⟩ := DataW.trod_struct Tryz.underlying39 h
  obtain ⟨c0, c1, c2, c3, c4, c5, rfl⟩ := six (hl.trans (by kernel_rfl))
  have g : ∀ i (hi : i < 2), ∃ y, xs[i]? = some y := fun i hi => ⟨_, List.getElem?_eq_getElem (by rw [hlen]; exact hi)⟩
  obtain ⟨y0, e0⟩ := g 0 (by omega)
  obtain ⟨y1, e1⟩ := g 1 (by omega)
  have f0 : DataW.trod enc Tryz.prog W base (fun _ => true) true m 3 ((([c0, c1, c2, c3, c4, c5] : List Value).drop 0).take (Tryz.prog.cellsOf 3)) = some y0 := (hf 0 _ rfl).trans e0
  have f1 : DataW.trod enc Tryz.prog W base (fun _ => true) true m 27 ((([c0, c1, c2, c3, c4, c5] : List Value).drop 1).take (Tryz.prog.cellsOf 27)) = some y1 := (hf 1 _ rfl).trans e1
  rw [show Tryz.prog.cellsOf 3 = 1 by kernel_rfl] at f0
  rw [show Tryz.prog.cellsOf 27 = 5 by kernel_rfl] at f1
  simp only [List.drop_zero, List.drop_succ_cons, List.take_succ_cons, List.take_zero] at f0 f1
  obtain ⟨n0, h0, _, w0⟩ := DataW.trod_int Tryz.underlying3 f0
  have hb : Rows.uptoBulk y1.1 ≤ 1048576 := by
    match xs, e1 with
    | z0 :: z1 :: xs, e1 =>
      simp only [List.getElem?_cons_succ, List.getElem?_cons_zero, Option.some.injEq] at e1
      subst e1
      simp only [List.map_cons, Rows.uptoBulk, Rows.uptoBulkAll] at hw
      omega
  obtain ⟨a, h1, h2⟩ := mem_stepV m _ _ f1 hb
  simp only [List.cons.injEq, and_true] at h0
  subst h0
  exact ⟨⟨n0, a⟩, by rw [h1]; rfl, h2⟩
instance : Inhabited M := ⟨⟨[], 0, 0, 0, 0⟩⟩
instance : Inhabited Nt := ⟨⟨0, bare []⟩⟩
theorem bulk_mem : ∀ {es : List (DataW H)} {x : DataW H}, x ∈ es → Rows.uptoBulk x ≤ Rows.uptoBulkAll es
  | y :: es, x, h => by
    simp only [Rows.uptoBulkAll]
    rcases List.mem_cons.1 h with rfl | h
    · omega
    · have := bulk_mem h; omega
set_option maxRecDepth 20000 in
theorem openUs_Member (hval : Value.okWide Tryz.prog W r b0 22 v) (hd : DataW.Trod enc Tryz.prog W base (fun _ => true) true 22 v d p)
    {ts : List TypeId} {ds : List (DataW H)} (hsz : (DataW.weightsEach Tryz.prog ts ds).all (· ≤ reachBytes) = true) {j : Nat} (hj : ts[j]? = some 22) (hdj : ds[j]? = some d) (hb : Rows.uptoBulk d ≤ 1048576) :
    ∃ (l : List M) (A : Option Addr) (cap : Nat), v = .slice A l.length cap ∧ (∀ m ∈ l, m.path.length ≤ 2000000) ∧ Sl W W.heap.size A (memsV l) := by
  obtain ⟨l, A, cap, h1, h2, _, _, _, h3⟩ := open_slG M.cells (fun m => m.path.length ≤ 2000000) (c := 5) (fun _ => rfl) Tryz.underlying22 (by kernel_rfl) (fun n cs x hx _ hm => mem_stepV n cs x hx (by
    obtain ⟨es, sp, rfl, hm⟩ := hm
    have h1 := bulk_mem hm
    simp only [Rows.uptoBulk] at hb
    omega)) hval hd hsz hj hdj
  exact ⟨l, A, cap, h1, h2, h3⟩
set_option maxRecDepth 20000 in
theorem openUs_Note (hval : Value.okWide Tryz.prog W r b0 23 v) (hd : DataW.Trod enc Tryz.prog W base (fun _ => true) true 23 v d p)
    {ts : List TypeId} {ds : List (DataW H)} (hsz : (DataW.weightsEach Tryz.prog ts ds).all (· ≤ reachBytes) = true) {j : Nat} (hj : ts[j]? = some 23) (hdj : ds[j]? = some d) (hb : Rows.uptoBulk d ≤ 1048576) :
    ∃ (l : List Nt) (A : Option Addr) (cap : Nat), v = .slice A l.length cap ∧ (∀ m ∈ l, m.mem.path.length ≤ 2000000) ∧ Sl W W.heap.size A (ntsV l) := by
  obtain ⟨l, A, cap, h1, h2, _, _, _, h3⟩ := open_slG Nt.cells (fun n => n.mem.path.length ≤ 2000000) (c := 6) (fun _ => rfl) Tryz.underlying23 (by kernel_rfl) (fun n cs x hx _ hm => note_stepV n cs x hx (by
    obtain ⟨es, sp, rfl, hm⟩ := hm
    have h1 := bulk_mem hm
    simp only [Rows.uptoBulk] at hb
    omega)) hval hd hsz hj hdj
  exact ⟨l, A, cap, h1, h2, h3⟩
end
theorem mlen_of {w : World} (h : w.ShapedOpen Tryz.prog) : MLen w := Tryz.laysM219.s1_3 w h
theorem walApplies_z (l : List M) (_ : ∀ m ∈ l, m.path.length ≤ 2000000) (A : Option Addr) (c : Nat) (ns : List Nt) (hl2 : ∀ m ∈ ns, m.mem.path.length ≤ 2000000) (A2 : Option Addr) (c2 : Nat) (w : World) (C : Nat) (hs : Sl w C A (memsV l)) (C2 : Nat) (hs2 : Sl w C2 A2 (ntsV ns)) (hG : MLen w) :
    Ret Tryz.prog 3 [.slice A l.length c, .slice A2 ns.length c2] w fun v w' => v = .bool true ∧ Ext w w' := walApplies_s l ns hl2 A A2 c c2 C C2 w hs hs2 hG
end Go.Proofs.YtlpnoogcdnfllaaGreatDoor
