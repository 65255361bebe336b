/-
  What the statements rest on, part 4 of 6: many small texts, one behind the other.
-/
import Derived.Test.YtlpnoogcdnfllaaMrgC
import Derived.Scope
/- record, in plain words: members are read as they were laid. No program is spoken of. -/
namespace Go.Proofs.Ytlpnoogcdnfllaa
set_option linter.unnecessarySimpa false
open Go.RowKit Rec
set_option linter.unusedVariables false
set_option linter.unusedSimpArgs false
def mays (l : List M) : List M := l.filter fun m => decide (mayM m)
theorem mays_snoc (l : List M) {i : Nat} (h : i < l.length) : mays (l.take (i + 1)) = if mayM l[i] then mays (l.take i) ++ [l[i]] else mays (l.take i) := by
  rw [List.take_add_one, List.getElem?_eq_getElem h]
  unfold mays
  rw [Option.toList_some, List.filter_append, List.filter_cons, List.filter_nil]
  by_cases hm : mayM l[i] <;> simp [hm]
def allT (l : List M) : List UInt8 := l.flatMap memberT
theorem allT_snoc (l : List M) (m : M) : allT (l ++ [m]) = allT l ++ memberT m := by simp [allT]
theorem memberT_length (m : M) : (memberT m).length = m.path.length + 11 := by
  unfold memberT
  simp only [List.length_append, be_length]
  omega
theorem memberT_read {m : M} (h : mayM m) (hs : m.sum ≤ 4294967295) (r : List UInt8) : memAt (memberT m ++ r) = m ∧ first (memberT m ++ r) = m.path.length ∧ (memberT m ++ r).drop (11 + m.path.length) = r := by
  obtain ⟨hp, _⟩ := may_path h
  obtain ⟨_, h1, h2, h3, h4, h5, h6⟩ := h
  have e : memberT m ++ r = [UInt8.ofNat m.path.length] ++ (m.path ++ (be 2 m.start.toNat ++ (be 2 m.sectors.toNat ++ (be 2 m.size.toNat ++ (be 4 m.sum ++ r))))) := by
    unfold memberT
    rw [be_one _ (by omega)]
    simp only [List.append_assoc]
  have hf : first (memberT m ++ r) = m.path.length := by
    rw [e]
    show (UInt8.ofNat m.path.length).toNat = _
    simp
    omega
  have d1 : (memberT m ++ r).drop 1 = m.path ++ (be 2 m.start.toNat ++ (be 2 m.sectors.toNat ++ (be 2 m.size.toNat ++ (be 4 m.sum ++ r)))) := by rw [e]; rfl
  have d2 := drop_more d1 rfl (j := 1 + m.path.length) rfl
  have d3 := drop_more d2 (be_length 2 _) (j := 3 + m.path.length) (by omega)
  have d4 := drop_more d3 (be_length 2 _) (j := 5 + m.path.length) (by omega)
  have d5 := drop_more d4 (be_length 2 _) (j := 7 + m.path.length) (by omega)
  have d6 := drop_more d5 (be_length 4 _) (j := 11 + m.path.length) (by omega)
  refine ⟨?_, hf, d6⟩
  obtain ⟨mp, ms, mse, msz, msu⟩ := m
  simp only at h1 h2 h3 h4 h5 h6 hs d1 d2 d3 d4 d5 hf
  unfold memAt
  rw [hf, d1, d2, d3, d4, d5, List.take_left' rfl, List.take_left' (be_length _ _), List.take_left' (be_length _ _), List.take_left' (be_length _ _), List.take_left' (be_length _ _),
    nb_be 2 _ (by simp only [Nat.reducePow]; omega), nb_be 2 _ (by simp only [Nat.reducePow]; omega), nb_be 2 _ (by simp only [Nat.reducePow]; omega), nb_be 4 _ (by simp only [Nat.reducePow]; omega)]
  simp only [M.mk.injEq, true_and, and_true]
  omega
theorem memL_back : ∀ (l : List M) (f : Nat) (out : List M), (∀ m ∈ l, mayM m ∧ m.sum ≤ 4294967295) → (allT l).length < f → memL f (allT l) out = (out ++ l, 0)
  | [], f, out, _, hf => by
    obtain ⟨g, rfl⟩ : ∃ g, f = g + 1 := ⟨f - 1, by omega⟩
    rw [memL, if_pos (show allT [] = [] from rfl), List.append_nil]
  | m :: l, f, out, hl, hf => by
    obtain ⟨g, rfl⟩ : ∃ g, f = g + 1 := ⟨f - 1, by omega⟩
    obtain ⟨h1, h2⟩ := hl m (by simp)
    have e : allT (m :: l) = memberT m ++ allT l := by simp [allT]
    obtain ⟨r1, r2, r3⟩ := memberT_read h1 h2 (allT l)
    rw [e] at hf ⊢
    rw [List.length_append, memberT_length] at hf
    have hlen : (memberT m ++ allT l).length = m.path.length + 11 + (allT l).length := by rw [List.length_append, memberT_length]
    rw [memL, if_neg (fun z => by rw [z] at hlen; simp only [List.length_nil] at hlen; omega), r2, if_neg (by omega), r1, if_pos h1, r3, memL_back l g _ (fun x hx => hl x (by simp [hx])) (by omega)]
    simp
theorem allT_len : ∀ l : List M, (∀ m ∈ l, mayM m) → (allT l).length ≤ l.length * 131
  | [], _ => by simp [allT]
  | m :: l, h => by
    have ih := allT_len l (fun x hx => h x (by simp [hx]))
    have h1 := (may_path (h m (by simp))).1
    have e : allT (m :: l) = memberT m ++ allT l := by simp [allT]
    rw [e, List.length_append, memberT_length, List.length_cons]
    omega
theorem mays_may (l : List M) : ∀ m ∈ mays l, mayM m := fun m hm => by simpa using (List.mem_filter.1 hm).2
end Go.Proofs.Ytlpnoogcdnfllaa
/- disk, in plain words: a device that may lose power. No program is spoken of. -/
namespace Go.Proofs.Ytlpnoogcdnfllaa.Dsk
set_option linter.unnecessarySimpa false
open Go.Proofs.Ytlpnoogcdnfllaa
set_option linter.unusedSimpArgs false
set_option linter.unusedVariables false

inductive Ch where
  | write (i : Nat) (s : List UInt8)
  | cut (n : Nat)
def zeros (n : Nat) : List UInt8 := List.replicate n 0
def Ch.ap : Ch → List UInt8 → List UInt8
  | .write i s, all =>
    (all ++ zeros ((i + 1) * 512 - all.length)).take (i * 512) ++ s ++ (all ++ zeros ((i + 1) * 512 - all.length)).drop (i * 512 + s.length)
  | .cut n, all => all.take (min all.length (n * 512))
/-- a change that a device of so many sectors takes -/
def Ch.ok (cap : Nat) : Ch → Prop
  | .write i s => i < cap ∧ s.length = 512
  | .cut n => n ≤ cap
theorem zeros_length (n : Nat) : (zeros n).length = n := by simp [zeros]
theorem ap_length {cap : Nat} {c : Ch} (h : c.ok cap) {all : List UInt8} (ha : all.length ≤ 512 * cap) : (c.ap all).length ≤ 512 * cap := by
  cases c with
  | write i s =>
    obtain ⟨h1, h2⟩ := h
    simp only [Ch.ap, List.length_append, List.length_take, List.length_drop, zeros_length]
    omega
  | cut n => simp only [Ch.ap, List.length_take]; omega
theorem ap_mod {cap : Nat} {c : Ch} (h : c.ok cap) {all : List UInt8} (ha : all.length % 512 = 0) : (c.ap all).length % 512 = 0 := by
  cases c with
  | write i s =>
    obtain ⟨h1, h2⟩ := h
    simp only [Ch.ap, List.length_append, List.length_take, List.length_drop, zeros_length]
    omega
  | cut n => simp only [Ch.ap, List.length_take]; omega
structure Dv where
  cap : Nat
  kept : List UInt8
  now : List UInt8
  pend : List Ch
  at_ : Nat
  keep : List Bool
  dead : Bool
  calls : Nat
/-- whole: what a device is at any time -/
structure Dv.Ok (D : Dv) : Prop where
  cap : 1 ≤ D.cap ∧ D.cap ≤ 4096
  kept : D.kept.length ≤ 512 * D.cap
  now : D.now.length ≤ 512 * D.cap
  keptM : D.kept.length % 512 = 0
  nowM : D.now.length % 512 = 0
  pend : ∀ c ∈ D.pend, c.ok D.cap
/-- what falls: the pending changes that are kept are done -/
def fallen : List Ch → List Bool → List UInt8 → List UInt8
  | [], _, all => all
  | c :: cs, [], all => all
  | c :: cs, b :: bs, all => fallen cs bs (if b then c.ap all else all)
def Dv.pushed (D : Dv) (c : Option Ch) : Dv := match c with
  | some c => { D with pend := D.pend ++ [c] }
  | none => D
def Dv.done (D : Dv) (c : Option Ch) : Dv := match c with
  | some c => { D with now := c.ap D.now, calls := D.calls + 1 }
  | none => { D with kept := D.now, pend := [], calls := D.calls + 1 }
def Dv.does (D : Dv) (c : Option Ch) : Dv × Nat :=
  let E := D.pushed c
  if E.at_ = 0 then (E.done c, 0)
  else if E.at_ = 1 then ({ E with kept := fallen E.pend E.keep E.kept, now := fallen E.pend E.keep E.kept, pend := [], at_ := 0, keep := [], dead := true }, 190)
  else (Dv.done { E with at_ := E.at_ - 1 } c, 0)
theorem fallen_length {cap : Nat} : ∀ (cs : List Ch) (bs : List Bool) (all : List UInt8), (∀ c ∈ cs, c.ok cap) → all.length ≤ 512 * cap → all.length % 512 = 0 → (fallen cs bs all).length ≤ 512 * cap ∧ (fallen cs bs all).length % 512 = 0
  | [], _, all, _, h1, h2 => ⟨h1, h2⟩
  | c :: cs, [], all, _, h1, h2 => ⟨h1, h2⟩
  | c :: cs, b :: bs, all, h, h1, h2 => by
    simp only [fallen]
    refine fallen_length cs bs _ (fun c' hc => h c' (by simp [hc])) ?_ ?_
    · split
      · exact ap_length (h c (by simp)) h1
      · exact h1
    · split
      · exact ap_mod (h c (by simp)) h2
      · exact h2
/-- one more pending change -/
theorem fallen_snoc : ∀ (cs : List Ch) (c : Ch) (bs : List Bool) (all : List UInt8), fallen (cs ++ [c]) bs all = if bs.getD cs.length false then c.ap (fallen cs bs all) else fallen cs bs all
  | [], c, [], all => by simp [fallen]
  | [], c, b :: bs, all => by simp [fallen]
  | d :: cs, c, [], all => by simp [fallen]
  | d :: cs, c, b :: bs, all => by
    simp only [List.cons_append, fallen, fallen_snoc cs c bs _, List.length_cons, List.getD_cons_succ]
theorem pushed_ok {D : Dv} (h : D.Ok) {c : Option Ch} (hc : ∀ d, c = some d → d.ok D.cap) : (D.pushed c).Ok := by
  cases c with
  | none => exact h
  | some c =>
    refine ⟨h.cap, h.kept, h.now, h.keptM, h.nowM, fun d hd => ?_⟩
    simp only [Dv.pushed, List.mem_append, List.mem_singleton] at hd
    rcases hd with hd | rfl
    · exact h.pend d hd
    · exact hc _ rfl
theorem done_ok {D : Dv} (h : D.Ok) {c : Option Ch} (hc : ∀ d, c = some d → d.ok D.cap) : (D.done c).Ok := by
  cases c with
  | none => exact ⟨h.cap, h.now, h.now, h.nowM, h.nowM, fun d hd => by simp [Dv.done] at hd⟩
  | some c => exact ⟨h.cap, h.kept, ap_length (hc c rfl) h.now, h.keptM, ap_mod (hc c rfl) h.nowM, h.pend⟩
theorem pushed_cap (D : Dv) (c : Option Ch) : (D.pushed c).cap = D.cap := by cases c <;> rfl
theorem does_ok {D : Dv} (h : D.Ok) {c : Option Ch} (hc : ∀ d, c = some d → d.ok D.cap) : (D.does c).1.Ok := by
  have h1 := pushed_ok h hc
  have hc1 : ∀ d, c = some d → d.ok (D.pushed c).cap := fun d hd => by rw [pushed_cap]; exact hc d hd
  unfold Dv.does
  simp only
  split
  · exact done_ok h1 hc1
  · split
    · obtain ⟨q1, q2⟩ := fallen_length (cap := (D.pushed c).cap) (D.pushed c).pend (D.pushed c).keep (D.pushed c).kept h1.pend h1.kept h1.keptM
      exact ⟨h1.cap, q1, q1, q2, q2, fun d hd => by simp at hd⟩
    · exact done_ok (D := { D.pushed c with at_ := (D.pushed c).at_ - 1 }) ⟨h1.cap, h1.kept, h1.now, h1.keptM, h1.nowM, h1.pend⟩ hc1
def sector (b : Nat) (odd : Bool) : List UInt8 := List.replicate (if odd then 511 else 512) (UInt8.ofNat b)
end Go.Proofs.Ytlpnoogcdnfllaa.Dsk
/- disk: slices' clones, and what the changes' closures compute. -/
namespace Go.Proofs.Ytlpnoogcdnfllaa
set_option linter.unnecessarySimpa false
set_option linter.unusedSimpArgs false
open Go.RowKit Dsk
set_option linter.unusedVariables false

/-! ### Clones -/
theorem cloneB_c (A : Option Addr) (c : Nat) (xs : List Value) (B : Nat) (w : World) (hs : Sl w B A xs) (hA : A = none → xs = []) (h1 : ∀ u ∈ xs, u.oneCell' = true) (hl : xs.length ≤ 140737488351232) :
    Ret Try.prog 78 [.slice A xs.length c] w fun v w' => Own w' w.heap.size 5 1 v xs.length xs ∧ Ext w w' := by
  refine Ret.enter Try.func78 rfl Try.ntmps78 (by kernel_rfl) rfl ?_
  rcases A with _ | a
  · obtain rfl := hA rfl
    refine KW.seq (KW.region ?_)
    refine OW.val rfl rfl (EX.assign rfl) ?_
    refine OW.nil ?_
    refine KW.seq (KW.seq (KW.region ?_))
    refine OW.val rfl rfl (EX.move rfl) ?_
    refine OW.val rfl rfl (by first | exact EX.eqlA1 Try.underlying80 rfl rfl | exact EX.eqlA0 Try.underlying80 rfl rfl) ?_
    refine OW.nil ?_
    refine KW.condT rfl (KW.seq (KW.region ?_))
    refine OW.val rfl rfl (EX.assign rfl) ?_
    refine OW.nil ?_
    refine KW.ret (ret1 rfl rfl ?_)
    exact ⟨Own.nil _ _ _ _, Ext.refl _⟩
  · refine KW.seq (KW.region ?_)
    refine OW.val rfl rfl (EX.assign rfl) ?_
    refine OW.nil ?_
    refine KW.seq (KW.seq (KW.region ?_))
    refine OW.val rfl rfl (EX.move rfl) ?_
    refine OW.val rfl rfl (by first | exact EX.eqlA1 Try.underlying80 rfl rfl | exact EX.eqlA0 Try.underlying80 rfl rfl) ?_
    refine OW.nil ?_
    refine KW.condF rfl (KW.skip (KW.seq (KW.region ?_)))
    refine OW.buildB 0 rfl rfl Try.underlying80 ti5 rfl rfl rfl rfl (by first | rfl | (simp only [List.all_cons, List.all_nil, Bool.and_true, Bool.and_eq_true]; assumption)) (by decide) ?_
    rintro b w1 hge hb hx
    refine OW.val rfl rfl (EX.move rfl) ?_
    refine OW.appendX rfl rfl Try.underlying80 ti5 rfl (by decide) rfl rfl (hx) (Own.of_bk (l := []) hb hge rfl (by decide)) (Src.of_sl Try.underlying80 (hs.ext hx) (by simp) h1 (by decide)) (by simp only [maxLen]; omega) (by omega) ?_
    rintro v' w' hown hx' _ _
    refine OW.val rfl rfl (EX.assign rfl) ?_
    refine OW.nil ?_
    refine KW.ret (ret1 rfl rfl ?_)
    rw [Nat.zero_add] at hown
    exact ⟨hown, hx'⟩
theorem cloneT_c (A : Option Addr) (c : Nat) (xs : List Value) (B : Nat) (w : World) (hs : Sl w B A xs) (hA : A = none → xs = []) (h1 : ∀ u ∈ xs, u.oneCell' = true) (hl : xs.length ≤ 140737488351232) :
    Ret Try.prog 46 [.slice A xs.length c] w fun v w' => Own w' w.heap.size 4 1 v xs.length xs ∧ Ext w w' := by
  refine Ret.enter Try.func46 rfl Try.ntmps46 (by kernel_rfl) rfl ?_
  rcases A with _ | a
  · obtain rfl := hA rfl
    refine KW.seq (KW.region ?_)
    refine OW.val rfl rfl (EX.assign rfl) ?_
    refine OW.nil ?_
    refine KW.seq (KW.seq (KW.region ?_))
    refine OW.val rfl rfl (EX.move rfl) ?_
    refine OW.val rfl rfl (by first | exact EX.eqlA1 Try.underlying43 rfl rfl | exact EX.eqlA0 Try.underlying43 rfl rfl) ?_
    refine OW.nil ?_
    refine KW.condT rfl (KW.seq (KW.region ?_))
    refine OW.val rfl rfl (EX.assign rfl) ?_
    refine OW.nil ?_
    refine KW.ret (ret1 rfl rfl ?_)
    exact ⟨Own.nil _ _ _ _, Ext.refl _⟩
  · refine KW.seq (KW.region ?_)
    refine OW.val rfl rfl (EX.assign rfl) ?_
    refine OW.nil ?_
    refine KW.seq (KW.seq (KW.region ?_))
    refine OW.val rfl rfl (EX.move rfl) ?_
    refine OW.val rfl rfl (by first | exact EX.eqlA1 Try.underlying43 rfl rfl | exact EX.eqlA0 Try.underlying43 rfl rfl) ?_
    refine OW.nil ?_
    refine KW.condF rfl (KW.skip (KW.seq (KW.region ?_)))
    refine OW.buildB 0 rfl rfl Try.underlying43 ti4 rfl rfl rfl rfl (by first | rfl | (simp only [List.all_cons, List.all_nil, Bool.and_true, Bool.and_eq_true]; assumption)) (by decide) ?_
    rintro b w1 hge hb hx
    refine OW.val rfl rfl (EX.move rfl) ?_
    refine OW.appendX rfl rfl Try.underlying43 ti4 rfl (by decide) rfl rfl (hx) (Own.of_bk (l := []) hb hge rfl (by decide)) (Src.of_sl Try.underlying43 (hs.ext hx) (by simp) h1 (by decide)) (by simp only [maxLen]; omega) (by omega) ?_
    rintro v' w' hown hx' _ _
    refine OW.val rfl rfl (EX.assign rfl) ?_
    refine OW.nil ?_
    refine KW.ret (ret1 rfl rfl ?_)
    rw [Nat.zero_add] at hown
    exact ⟨hown, hx'⟩
/-! ### Closures -/
/-- what a change's call leaves: the bytes in a block that the slice had, or in a new one; nothing else changed -/
def Chd (w w' : World) (v v' : Value) (all : List UInt8) : Prop :=
  Own w' 0 5 1 v' all.length (bytesV all) ∧ Mo w w' v.ownBlock.toList ∧ (v'.ownBlock = v.ownBlock ∨ ∃ g, v'.ownBlock = some g ∧ w.heap.size ≤ g)
theorem bytesV_zeros (n : Nat) : bytesV (zeros n) = List.replicate n (.int .u8 0) := by simp [bytesV, zeros]
set_option maxRecDepth 20000 in
theorem write1_c (bi bs i : Nat) (s : List UInt8) (v : Value) (all : List UInt8) (w : World) (hbi : Bk w bi 3 [.int .i64 (i : Int)]) (hbs : Bk w bs 9 [str s]) (hown : Own w 0 5 1 v all.length (bytesV all)) (hi : i ≤ 1000000) (hs : s.length = 512) (hl : all.length ≤ 1000000000) :
    Ret Try.prog 63 [v, .pointer (some ⟨bi, 0, none⟩), .pointer (some ⟨bs, 0, none⟩)] w fun v' w' => Chd w w' v v' ((Ch.write i s).ap all) := by
  obtain ⟨A, c, rfl, hlc, hsl⟩ := hown.slice
  refine Ret.enter Try.func63 rfl Try.ntmps63 (by kernel_rfl) rfl ?_
  refine KW.seq (KW.region ?_)
  refine OW.val rfl rfl (EX.assign rfl) ?_
  refine OW.nil ?_
  refine KW.seq (KW.seq (KW.region ?_))
  refine OW.val rfl rfl (EX.load Try.underlying3 rfl rfl (hbi.cell_of rfl)) ?_
  refine OW.val rfl rfl (by first | exact EX.addN (b := 1) (m := 9223372036854775807) rfl rfl rfl (by omega) | exact EX.addZ (m := 9223372036854775807) rfl rfl rfl rfl (by omega)) ?_
  refine OW.val rfl rfl (by first | exact EX.mulN (b := 512) (m := 9223372036854775807) rfl rfl rfl (by omega) | exact EX.mulZ (m := 9223372036854775807) rfl rfl rfl rfl (by omega)) ?_
  refine OW.val rfl rfl (EX.assign rfl) ?_
  refine OW.nil ?_
  refine KW.seq (KW.region ?_)
  refine OW.val rfl rfl (EX.move rfl) ?_
  refine OW.val rfl rfl (EX.lenA Try.underlying80 rfl) ?_
  refine OW.val rfl rfl (EX.move rfl) ?_
  refine OW.val rfl rfl (by first | exact EX.lssN rfl rfl | exact EX.lssZ rfl rfl) ?_
  refine OW.nil ?_
  refine KW.cut2 (fun (v1 : Value) (w1 : World) => Own w1 0 5 1 v1 (all ++ zeros ((i + 1) * 512 - all.length)).length (bytesV (all ++ zeros ((i + 1) * 512 - all.length))) ∧ Mo w w1 (Value.slice A all.length c).ownBlock.toList ∧ (v1.ownBlock = (Value.slice A all.length c).ownBlock ∨ ∃ g, v1.ownBlock = some g ∧ w.heap.size ≤ g)) (fun (v1 : Value) (w1 : World) => [(0, v1), (1, .pointer (some ⟨bi, 0, none⟩)), (2, .pointer (some ⟨bs, 0, none⟩))]) (fun (v1 : Value) (w1 : World) => w1) ?_ ?_
  · skip
    refine KW.condD rfl (fun h => ?_) (fun h => ?_)
    · refine KW.region ?_
      refine OW.val rfl rfl (EX.move rfl) ?_
      refine OW.val rfl rfl (EX.move rfl) ?_
      refine OW.val rfl rfl (EX.move rfl) ?_
      refine OW.val rfl rfl (EX.lenA Try.underlying80 rfl) ?_
      refine OW.val rfl rfl (by first | exact EX.subN (m := 9223372036854775807) rfl rfl rfl (by omega) | exact EX.subZ (m := 9223372036854775807) rfl rfl rfl rfl (by omega)) ?_
      refine OW.appendZB rfl rfl Try.underlying80 Try.underlying3 ti5 rfl rfl rfl (hown) (by omega) (by simp only [maxLen]; omega) (by omega) ?_
      rintro v1 w1 hown1 hg1 hb1
      refine OW.val rfl rfl (EX.assign rfl) ?_
      refine OW.nil ?_
      refine KW.meet2 (v1) (w1) ⟨rfl, rfl, rfl, trivial⟩ rfl ?_
      refine ⟨?_, Mo.grown hg1 (fun k e => by rw [e]; simp), ?_⟩
      · rw [List.length_append, zeros_length, bytesV_append, bytesV_zeros]
        exact hown1
      · rcases hb1 with e | e
        · exact .inl e
        · exact .inr ⟨_, e, Nat.le_refl _⟩
    · refine KW.skip ?_
      refine KW.meet2 (_) (w) ⟨rfl, rfl, rfl, trivial⟩ rfl ?_
      have e0 : all ++ zeros ((i + 1) * 512 - all.length) = all := by rw [show (i + 1) * 512 - all.length = 0 by omega]; simp [zeros]
      rw [e0]
      exact ⟨hown, Mo.refl _ _, .inl rfl⟩
  · rintro v1 w1 ⟨hown1, hm, hv⟩
    have hbi1 := hbi.mo hm (fun k => hown.ne hbi (by decide) _ (Option.mem_toList.1 k) rfl)
    have hbs1 := hbs.mo hm (fun k => hown.ne hbs (by decide) _ (Option.mem_toList.1 k) rfl)
    have hL : (all ++ zeros ((i + 1) * 512 - all.length)).length = max all.length ((i + 1) * 512) := by rw [List.length_append, zeros_length]; omega
    generalize hall : all ++ zeros ((i + 1) * 512 - all.length) = al at hown1 hL
    have hbl : (bytesV al).length = al.length := bytesV_length al
    obtain ⟨g, cap, rest, rfl, _, hg, hc, hn, hm63⟩ := hown1.blk (by omega)
    refine KW.seq (KW.regionH 5 (by kernel_rfl) (by kernel_rfl) ?_)
    refine HW.val rfl rfl (EX.move rfl) ?_
    refine HW.val rfl rfl (EX.load Try.underlying3 rfl rfl (hbi1.cell_of rfl)) ?_
    refine HW.val rfl rfl (by first | exact EX.mulN (b := 512) (m := 9223372036854775807) rfl rfl rfl (by omega) | exact EX.mulZ (m := 9223372036854775807) rfl rfl rfl rfl (by omega)) ?_
    refine HW.val rfl rfl (EX.ownLE Try.underlying80 ti5 rfl rfl (by omega)) ?_
    refine HW.val rfl rfl (EX.load Try.underlying9 rfl rfl (hbs1.cell_of rfl)) ?_
    refine HW.tail ?_
    refine OW.copyS rfl rfl Try.underlying80 Try.underlying9 ti5 rfl rfl (by omega) (hg) (by simp [bytesV]; omega) ?_
    rintro w2 hg2 hm2
    refine OW.nil ?_
    refine KW.seq (KW.region ?_)
    refine OW.val rfl rfl (EX.move rfl) ?_
    refine OW.val rfl rfl (EX.assign rfl) ?_
    refine OW.nil ?_
    refine KW.ret (ret1 rfl rfl ?_)
    have e : (Ch.write i s).ap all = al.take (i * 512) ++ s ++ al.drop (i * 512 + s.length) := by simp only [Ch.ap, hall]
    have e2 : ((Ch.write i s).ap all).length = al.length := by rw [e]; simp only [List.length_append, List.length_take, List.length_drop]; omega
    refine ⟨?_, ?_, hv⟩
    · rw [e2]
      refine ⟨by rw [bytesV_length, e2]; simp, .inr ⟨g, cap, rest, rfl, Nat.zero_le _, ?_, by rw [bytesV_length, e2, ← hbl]; exact hc, hn, hm63⟩⟩
      have e3 : (bytesV al ++ rest).take (i * 512) ++ bytesV s ++ (bytesV al ++ rest).drop (i * 512 + s.length) = bytesV ((Ch.write i s).ap all) ++ rest := by
        rw [e, List.take_append_of_le_length (by omega), List.drop_append_of_le_length (by omega)]
        simp [bytesV, List.map_take, List.map_drop]
      rw [← e3]
      exact hg2
    · have hm2' : Mo w1 w2 [g] := (Mo.of_ext (Ext.drew w1) _).trans hm2
      refine ((hm.mono (fun k hk => List.mem_cons_of_mem g hk)).trans (hm2'.mono (by simp))).fresh ?_
      intro k hk hlt
      rcases List.mem_cons.1 hk with rfl | hk
      · rcases hv with e | ⟨g', e, hge⟩
        · rw [← e]; simp [Value.ownBlock]
        · simp [Value.ownBlock] at e; omega
      · exact hk
end Go.Proofs.Ytlpnoogcdnfllaa
/- disk: the device in memory, and its methods. -/
namespace Go.Proofs.Ytlpnoogcdnfllaa
set_option linter.unnecessarySimpa false
set_option linter.unusedSimpArgs false
open Go.RowKit Dsk
set_option linter.unusedVariables false

def boolsV (l : List Bool) : List Value := l.map fun b => .bool b
theorem boolsV_length (l : List Bool) : (boolsV l).length = l.length := by simp [boolsV]
theorem boolsV_one (l : List Bool) : ∀ u ∈ boolsV l, u.oneCell' = true := by
  intro u hu
  obtain ⟨_, _, rfl⟩ := List.mem_map.1 hu
  rfl
/-- a change's closure: its variables lie in boxes of their own -/
def ChV (w : World) : Ch → Value → Prop
  | .write i s, v => ∃ bi bs : Nat, v = .func (.func 63) (List.toArray []) (List.toArray [.pointer (some ⟨bi, 0, none⟩), .pointer (some ⟨bs, 0, none⟩)]) ∧ Bk w bi 3 [.int .i64 (i : Int)] ∧ Bk w bs 9 [str s]
  | .cut n, v => False
def ChVs (w : World) : List Ch → List Value → Prop
  | [], [] => True
  | c :: cs, v :: vs => ChV w c v ∧ ChVs w cs vs
  | _, _ => False
theorem ChV.tm {w w' : World} {B : Nat} {p : TypeId → Bool} (h : Tm w w' B p) (hi : p 3 = false) (hs : p 9 = false) : ∀ {c : Ch} {v : Value}, ChV w c v → ChV w' c v
  | .write i s, v, ⟨bi, bs, e, h1, h2⟩ => ⟨bi, bs, e, h.bk h1 hi, h.bk h2 hs⟩
  | .cut n, v, h1 => (h1 : False).elim
theorem ChV.one {w : World} : ∀ {c : Ch} {v : Value}, ChV w c v → v.oneCell' = true
  | .write i s, v, ⟨bi, bs, e, h1, h2⟩ => by rw [e]; rfl
  | .cut n, v, h1 => (h1 : False).elim
theorem ChVs.tm {w w' : World} {B : Nat} {p : TypeId → Bool} (h : Tm w w' B p) (hi : p 3 = false) (hs : p 9 = false) : ∀ {cs : List Ch} {vs : List Value}, ChVs w cs vs → ChVs w' cs vs
  | [], [], _ => trivial
  | c :: cs, v :: vs, ⟨h1, h2⟩ => ⟨h1.tm h hi hs, ChVs.tm h hi hs h2⟩
  | [], _ :: _, h => h.elim
  | _ :: _, [], h => h.elim
theorem ChVs.len {w : World} : ∀ {cs : List Ch} {vs : List Value}, ChVs w cs vs → vs.length = cs.length
  | [], [], _ => rfl
  | c :: cs, v :: vs, ⟨_, h2⟩ => by simp [ChVs.len h2]
  | [], _ :: _, h => h.elim
  | _ :: _, [], h => h.elim
theorem ChVs.snoc {w : World} : ∀ {cs : List Ch} {vs : List Value} {c : Ch} {v : Value}, ChVs w cs vs → ChV w c v → ChVs w (cs ++ [c]) (vs ++ [v])
  | [], [], _, _, _, h => ⟨h, trivial⟩
  | c :: cs, v :: vs, _, _, ⟨h1, h2⟩, h => ⟨h1, ChVs.snoc h2 h⟩
  | [], _ :: _, _, _, h, _ => h.elim
  | _ :: _, [], _, _, h, _ => h.elim
theorem ChVs.at_ {w : World} : ∀ {cs : List Ch} {vs : List Value}, ChVs w cs vs → ∀ (j : Nat) (hj : j < cs.length), ∃ v, vs[j]? = some v ∧ ChV w cs[j] v
  | [], [], _, j, hj => by simp at hj
  | c :: cs, v :: vs, ⟨h1, h2⟩, 0, hj => ⟨v, rfl, h1⟩
  | c :: cs, v :: vs, ⟨h1, h2⟩, j + 1, hj => by
    obtain ⟨u, h3, h4⟩ := ChVs.at_ h2 j (by simpa using hj)
    exact ⟨u, by simpa using h3, by simpa using h4⟩
  | [], _ :: _, h, _, _ => h.elim
  | _ :: _, [], h, _, _ => h.elim
/-- the device in memory -/
structure Dev (w : World) (B b : Nat) (D : Dv) (vk vn vp vq : Value) (vs : List Value) : Prop where
  lo : B ≤ b
  cells : Bk w b 85 [.int .i64 (D.cap : Int), vk, vn, vp, .int .i64 (D.at_ : Int), vq, .bool D.dead, .int .i64 (D.calls : Int)]
  kept : Own w B 5 1 vk D.kept.length (bytesV D.kept)
  now : Own w B 5 1 vn D.now.length (bytesV D.now)
  apart : ∀ k, vk.ownBlock = some k → vn.ownBlock ≠ some k
  pend : Own w B 143 1 vp D.pend.length vs
  chs : ChVs w D.pend vs
  keep : Own w B 4 1 vq D.keep.length (boolsV D.keep)
def DevAt (w : World) (B b : Nat) (D : Dv) : Prop := ∃ vk vn vp vq vs, Dev w B b D vk vn vp vq vs
/-- the types of what a device's call changes -/
def dty (T : TypeId) : Bool := T == 85 || T == 143 || T == 5
theorem DevAt.ext {w w' : World} {B b : Nat} {D : Dv} (h : DevAt w B b D) (hx : Ext w w') : DevAt w' B b D := by
  obtain ⟨vk, vn, vp, vq, vs, h1, h2, h3, h4, h5, h6, h7, h8⟩ := h
  exact ⟨vk, vn, vp, vq, vs, h1, h2.ext hx, h3.ext hx, h4.ext hx, h5, h6.ext hx, h7.tm (Tm.of_ext hx 0 (fun _ => false)) rfl rfl, h8.ext hx⟩
theorem DevAt.lt {w : World} {B b : Nat} {D : Dv} (h : DevAt w B b D) : B ≤ b ∧ b < w.heap.size := by
  obtain ⟨vk, vn, vp, vq, vs, h⟩ := h
  exact ⟨h.lo, h.cells.lt⟩

/-! ### What tells and changes nothing -/
section
variable {w : World} {B b : Nat} {D : Dv}
theorem none_d (h : DevAt w B b D) (hD : D.Ok) : Ret Try.prog 40 [.pointer (some ⟨b, 0, none⟩)] w fun v w' => v = .bool false ∧ w = w' := by
  obtain ⟨vk, vn, vp, vq, vs, h⟩ := h
  have hc := hD.cap
  refine Ret.enter Try.func40 rfl Try.ntmps40 (by kernel_rfl) rfl ?_
  refine KW.seq (KW.region ?_)
  refine OW.val rfl rfl (EX.assign rfl) ?_
  refine OW.nil ?_
  refine KW.seq ?_
  refine KW.region ?_
  refine OW.val rfl rfl (EX.move rfl) ?_
  refine OW.val rfl rfl (by first | exact EX.eqlP1 Try.underlying26 rfl rfl | exact EX.eqlP0 Try.underlying26 rfl rfl) ?_
  refine OW.val rfl rfl (EX.move rfl) ?_
  refine OW.val rfl rfl (EX.move rfl) ?_
  refine OW.val rfl rfl (EX.nilCheck rfl) ?_
  refine OW.val rfl rfl (EX.fieldAddr (off := 0) Try.underlying85 rfl rfl ti3 rfl rfl) ?_
  refine OW.val rfl rfl (EX.load Try.underlying3 rfl rfl (h.cells.cell_of rfl)) ?_
  refine OW.val rfl rfl (by first | exact EX.eqlN (b := 0) rfl rfl | exact EX.eqlZ rfl rfl) ?_
  refine OW.val rfl rfl (EX.pickF rfl rfl) ?_
  refine OW.val rfl rfl (EX.assign rfl) ?_
  refine OW.nil ?_
  refine KW.as 2 (.bool false) rfl (congrArg Value.bool (decide_eq_false (by omega))) ?_
  refine KW.ret (ret1 rfl rfl ?_)
  exact ⟨by simp, rfl⟩
theorem none_n (w : World) : Ret Try.prog 40 [.pointer none] w fun v w' => v = .bool true ∧ w = w' := by
  refine Ret.enter Try.func40 rfl Try.ntmps40 (by kernel_rfl) rfl ?_
  refine KW.seq (KW.region ?_)
  refine OW.val rfl rfl (EX.assign rfl) ?_
  refine OW.nil ?_
  refine KW.seq ?_
  refine KW.region ?_
  refine OW.val rfl rfl (EX.move rfl) ?_
  refine OW.val rfl rfl (by first | exact EX.eqlP1 Try.underlying26 rfl rfl | exact EX.eqlP0 Try.underlying26 rfl rfl) ?_
  refine OW.val rfl rfl (EX.move rfl) ?_
  refine OW.pass rfl rfl ?_
  refine OW.pass rfl rfl ?_
  refine OW.pass rfl rfl ?_
  refine OW.pass rfl rfl ?_
  refine OW.pass rfl rfl ?_
  refine OW.val rfl rfl (EX.pickT rfl rfl) ?_
  refine OW.val rfl rfl (EX.assign rfl) ?_
  refine OW.nil ?_
  refine KW.ret (ret1 rfl rfl ?_)
  exact ⟨rfl, rfl⟩
theorem alive_d (h : DevAt w B b D) (hD : D.Ok) : Ret Try.prog 45 [.pointer (some ⟨b, 0, none⟩)] w fun v w' => v = .int .i64 ((if D.dead then 190 else 0 : Nat) : Int) ∧ w = w' := by
  have h0 := h
  obtain ⟨vk, vn, vp, vq, vs, h⟩ := h
  refine Ret.enter Try.func45 rfl Try.ntmps45 (by kernel_rfl) rfl ?_
  refine KW.seq (KW.region ?_)
  refine OW.val rfl rfl (EX.assign rfl) ?_
  refine OW.nil ?_
  refine KW.seq (KW.block (KW.seq (KW.region ?_)))
  refine OW.val rfl rfl (EX.move rfl) ?_
  refine OW.call rfl rfl rfl (none_d h0 hD) ?_
  rintro _ _ ⟨rfl, rfl⟩
  refine OW.val rfl rfl (EX.assign rfl) ?_
  refine OW.nil ?_
  refine KW.condF rfl (KW.seq (KW.region ?_))
  refine OW.val rfl rfl (EX.move rfl) ?_
  refine OW.val rfl rfl (EX.nilCheck rfl) ?_
  refine OW.val rfl rfl (EX.fieldAddr (off := 6) Try.underlying85 rfl rfl ti4 rfl rfl) ?_
  refine OW.val rfl rfl (EX.load Try.underlying4 rfl rfl (h.cells.cell_of rfl)) ?_
  refine OW.val rfl rfl (EX.assign rfl) ?_
  refine OW.nil ?_
  refine KW.cond rfl (fun hd => ?_) (fun hd => ?_)
  · refine KW.seq (KW.region ?_)
    refine OW.val rfl rfl (EX.assign rfl) ?_
    refine OW.nil ?_
    refine KW.ret (ret1 rfl rfl ?_)
    rw [hd]
    exact ⟨rfl, rfl⟩
  · refine KW.skip (KW.leave (KW.seq (KW.region ?_)))
    refine OW.val rfl rfl (EX.assign rfl) ?_
    refine OW.nil ?_
    refine KW.ret (ret1 rfl rfl ?_)
    rw [hd]
    exact ⟨rfl, rfl⟩
theorem alive_n (w : World) : Ret Try.prog 45 [.pointer none] w fun v w' => v = .int .i64 ((1 : Nat) : Int) ∧ w = w' := by
  refine Ret.enter Try.func45 rfl Try.ntmps45 (by kernel_rfl) rfl ?_
  refine KW.seq (KW.region ?_)
  refine OW.val rfl rfl (EX.assign rfl) ?_
  refine OW.nil ?_
  refine KW.seq (KW.block (KW.seq (KW.region ?_)))
  refine OW.val rfl rfl (EX.move rfl) ?_
  refine OW.call rfl rfl rfl (none_n w) ?_
  rintro _ _ ⟨rfl, rfl⟩
  refine OW.val rfl rfl (EX.assign rfl) ?_
  refine OW.nil ?_
  refine KW.condT rfl (KW.seq (KW.region ?_))
  refine OW.val rfl rfl (EX.assign rfl) ?_
  refine OW.nil ?_
  refine KW.ret (ret1 rfl rfl ?_)
  exact ⟨rfl, rfl⟩
end
/-! ### Changes -/
theorem chV_call {w : World} {c : Ch} {v : Value} (h : ChV w c v) {cap : Nat} (hok : c.ok cap) (hcap : cap ≤ 4096) {u : Value} {all : List UInt8} (hown : Own w 0 5 1 u all.length (bytesV all)) (hl : all.length ≤ 100000000) :
    ∃ (f : FuncId) (cs : List Value), v = .func (.func f) (List.toArray []) (List.toArray cs) ∧ Ret Try.prog f ([u] ++ cs) w fun v' w' => Chd w w' u v' (c.ap all) := by
  cases c with
  | write i s =>
    obtain ⟨bi, bs, rfl, h1, h2⟩ := h
    exact ⟨_, _, rfl, write1_c bi bs i s u all w h1 h2 hown (by have := hok.1; omega) hok.2 (by omega)⟩
  | cut n =>
    exact (h : False).elim
section
variable {w w' : World} {B b : Nat} {D D' : Dv} {vk vn vp vq vk' vn' vp' vq' : Value} {vs vs' : List Value}
/-- the device's own cells are stored -/
theorem Dev.after {l0 : List Value} (hlo : B ≤ b) (h0 : Bk w b 85 l0) (hm : Mo w w' [b])
    (hb : Bk w' b 85 [.int .i64 (D'.cap : Int), vk', vn', vp', .int .i64 (D'.at_ : Int), vq', .bool D'.dead, .int .i64 (D'.calls : Int)])
    (hk : Own w B 5 1 vk' D'.kept.length (bytesV D'.kept)) (hn : Own w B 5 1 vn' D'.now.length (bytesV D'.now)) (ha : ∀ k, vk'.ownBlock = some k → vn'.ownBlock ≠ some k)
    (hp : Own w B 143 1 vp' D'.pend.length vs') (hc : ChVs w D'.pend vs') (hq : Own w B 4 1 vq' D'.keep.length (boolsV D'.keep)) : Dev w' B b D' vk' vn' vp' vq' vs' := by
  have tm := Tm.set h0 hm hlo
  exact ⟨hlo, hb, tm.own hk rfl, tm.own hn rfl, ha, tm.own hp rfl, hc.tm tm rfl rfl, tm.own hq rfl⟩
theorem Dev.tmD {l0 : List Value} (hlo : B ≤ b) (h0 : Bk w b 85 l0) (hm : Mo w w' [b]) : Tm w w' B dty := (Tm.set h0 hm hlo).mono fun T hT => by simp at hT; simp [dty, hT]
theorem Dev.ext (h : Dev w B b D vk vn vp vq vs) (hx : Ext w w') : Dev w' B b D vk vn vp vq vs :=
  ⟨h.lo, h.cells.ext hx, h.kept.ext hx, h.now.ext hx, h.apart, h.pend.ext hx, h.chs.tm (Tm.of_ext hx 0 (fun _ => false)) rfl rfl, h.keep.ext hx⟩
end
theorem Own.noneEmpty {w : World} {B T n c : Nat} {xs : List Value} {A : Option Addr} (h : Own w B T 1 (.slice A n c) n xs) : A = none → xs = [] := by
  rintro rfl
  rcases h.2 with ⟨e, rfl⟩ | ⟨g, cap, rest, e, _⟩
  · exact List.eq_nil_of_length_eq_zero (by simpa using h.1)
  · simp at e
theorem does_go {D : Dv} {c : Option Ch} (h : (D.pushed c).at_ ≠ 1) : D.does c = (Dv.done { D.pushed c with at_ := (D.pushed c).at_ - 1 } c, 0) := by
  unfold Dv.does
  simp only
  split
  · rename_i h0
    have : ({ D.pushed c with at_ := (D.pushed c).at_ - 1 } : Dv) = D.pushed c := by
      generalize D.pushed c = E at h0
      cases E
      simp at h0
      simp [h0]
    rw [this]
  · first | rfl | rw [if_neg h]
theorem does_fall {D : Dv} {c : Option Ch} (h : (D.pushed c).at_ = 1) : D.does c = ({ D.pushed c with kept := fallen (D.pushed c).pend (D.pushed c).keep (D.pushed c).kept, now := fallen (D.pushed c).pend (D.pushed c).keep (D.pushed c).kept, pend := [], at_ := 0, keep := [], dead := true }, 190) := by
  unfold Dv.does
  simp only
  rw [if_neg (by omega), if_pos h]
theorem fallen_step {cs : List Ch} {bs : List Bool} {all : List UInt8} {k : Nat} (h : k < cs.length) : fallen (cs.take (k + 1)) bs all = if bs.getD k false then (cs[k]).ap (fallen (cs.take k) bs all) else fallen (cs.take k) bs all := by
  have e : cs.take (k + 1) = cs.take k ++ [cs[k]] := by rw [List.take_add_one, List.getElem?_eq_getElem h]; rfl
  rw [e, fallen_snoc, List.length_take, Nat.min_eq_left (by omega)]
theorem does_c {w : World} {B b : Nat} {D : Dv} (h0 : DevAt w B b D) (hD : D.Ok) (vc : Value) (c : Option Ch) (hcn : c = none → vc = .nilFunc) (hcs : ∀ d, c = some d → ChV w d vc ∧ d.ok D.cap)
    (hcalls : D.calls ≤ 1000000) (hpl : D.pend.length ≤ 1000000) (hat : D.at_ ≤ 9223372036854775807) (hkl : D.keep.length ≤ 140737488355328) :
    Ret Try.prog 62 [.pointer (some ⟨b, 0, none⟩), vc] w fun v w' => v = .int .i64 (((D.does c).2 : Nat) : Int) ∧ DevAt w' B b (D.does c).1 ∧ Tm w w' B dty := by
  have hq : vc = .nilFunc ∧ c.isSome = false ∨ ∃ f fi ca, vc = .func f fi ca ∧ c.isSome = true := by
    cases c with
    | none => exact .inl ⟨hcn rfl, rfl⟩
    | some d =>
      obtain ⟨h1, _⟩ := hcs d rfl
      cases d with
      | write i s => obtain ⟨bi, bs, e, _⟩ := h1; exact .inr ⟨_, _, _, e, rfl⟩
      | cut n => exact (h1 : False).elim
  have hE := pushed_ok hD (fun d hd => (hcs d hd).2)
  have hlt := h0.lt
  obtain ⟨vk, vn, vp, vq, vs, h⟩ := h0
  have hvl := h.chs.len
  refine Ret.enter Try.func62 rfl Try.ntmps62 (by kernel_rfl) rfl ?_
  refine KW.seq (KW.region ?_)
  refine OW.val rfl rfl (EX.assign rfl) ?_
  refine OW.nil ?_
  refine KW.seq (KW.seq (KW.region ?_))
  refine OW.val rfl rfl (EX.move rfl) ?_
  refine OW.val rfl rfl (EX.neqFb Try.underlying143 rfl rfl hq) ?_
  refine OW.nil ?_
  refine KW.cut3 (fun (w1 : World) (vp1 : Value) (vs1 : List Value) => Dev w1 B b (D.pushed c) vk vn vp1 vq vs1 ∧ Tm w w1 B dty) (fun (w1 : World) (vp1 : Value) (vs1 : List Value) => [(0, .pointer (some ⟨b, 0, none⟩)), (1, vc)]) (fun (w1 : World) (vp1 : Value) (vs1 : List Value) => w1) ?_ ?_
  · refine KW.cond rfl (fun hc => ?_) (fun hc => ?_)
    · obtain ⟨ch, rfl⟩ := Option.isSome_iff_exists.1 hc
      have hv := (hcs ch rfl).1
      have hv1 := hv.one
      refine KW.region ?_
      refine OW.val rfl rfl (EX.move rfl) ?_
      refine OW.val rfl rfl (EX.move rfl) ?_
      refine OW.val rfl rfl (EX.nilCheck rfl) ?_
      refine OW.val rfl rfl (EX.fieldAddr (off := 3) Try.underlying85 rfl rfl ti83 rfl rfl) ?_
      refine OW.val rfl rfl (EX.load Try.underlying83 rfl rfl (h.cells.cell_of rfl)) ?_
      refine OW.val rfl rfl (EX.move rfl) ?_
      refine OW.buildB 1 rfl rfl Try.underlying83 ti143 rfl rfl rfl rfl (by first | rfl | (simp only [List.all_cons, List.all_nil, Bool.and_true, Bool.and_eq_true]; assumption)) (by decide) ?_
      rintro bq w2 hge hb2 hx2
      have h2 := h.ext hx2
      refine OW.append 0 rfl rfl Try.underlying83 ti143 rfl (by decide) rfl rfl ((h2.pend.more (Nat.zero_le _))) (Src.of_sl Try.underlying83 hb2.sl (by simp) (by simp [hv1]) (by decide)) (by simp only [maxLen]; omega) (by omega) (Nat.zero_le _) ?_
      rintro v3 w3 hown3 hg3 hv3
      refine OW.val rfl rfl (EX.nilCheck rfl) ?_
      refine OW.val rfl rfl (EX.fieldAddr (off := 3) Try.underlying85 rfl rfl ti83 rfl rfl) ?_
      have t3 : Tm w2 w3 B (fun U => U == 143) := Tm.grown h2.pend hg3
      have hd3 := t3.bk h2.cells rfl
      have hown3' : Own w3 B 143 1 v3 (D.pend.length + 1) (vs ++ [vc]) := hown3.base (by
        intro k hk
        rcases hv3 with e | e
        · exact (h2.pend.lt k (by rw [← e]; exact hk)).1
        · rw [e] at hk; injection hk with hk; have := hx2.size; omega)
      have hv31 := hown3.one
      refine OW.storeB rfl ti83 rfl rfl (by first | rfl | assumption | exact Own.one (by assumption)) (hd3) (by simp) ?_
      rintro w4 hb4 hm4
      refine OW.nil ?_
      refine KW.meet3 (w4) (v3) (vs ++ [vc]) ⟨rfl, rfl, trivial⟩ rfl ?_
      refine ⟨Dev.after (D' := D.pushed (some ch)) h.lo hd3 hm4 hb4 (t3.own h2.kept rfl) (t3.own h2.now rfl) h.apart ?_ ((h2.chs.tm t3 rfl rfl).snoc ((hv.tm (Tm.of_ext hx2 0 (fun _ => false)) rfl rfl).tm t3 rfl rfl)) (t3.own h2.keep rfl), ?_⟩
      · have : (D.pushed (some ch)).pend.length = D.pend.length + 1 := by simp [Dv.pushed]
        rw [this]; exact hown3'
      · exact ((Tm.of_ext hx2 B dty).trans (t3.mono fun T hT => by simp at hT; simp [dty, hT])).trans (Dev.tmD h.lo hd3 hm4)
    · obtain rfl : c = none := by cases c; rfl; simp at hc
      refine KW.skip ?_
      refine KW.meet3 (w) (vp) (vs) ⟨rfl, rfl, trivial⟩ rfl ?_
      exact ⟨h, Tm.refl _ _ _⟩
  · rintro w1 vp1 vs1 ⟨h1, ht1⟩
    generalize hEd : D.pushed c = E at h1 hE
    have hEc : E.cap = D.cap := by rw [← hEd, pushed_cap]
    have hEat : E.at_ = D.at_ := by rw [← hEd]; cases c <;> rfl
    have hEk : E.keep = D.keep := by rw [← hEd]; cases c <;> rfl
    have hEl : E.pend.length ≤ 1000001 := by
      rw [← hEd]
      cases c with
      | none => exact Nat.le_succ_of_le hpl
      | some c => simp [Dv.pushed]; omega
    have hvl1 := h1.chs.len
    refine KW.seq (KW.seq (KW.region ?_))
    refine OW.val rfl rfl (EX.move rfl) ?_
    refine OW.val rfl rfl (EX.nilCheck rfl) ?_
    refine OW.val rfl rfl (EX.fieldAddr (off := 4) Try.underlying85 rfl rfl ti45 rfl rfl) ?_
    refine OW.val rfl rfl (EX.fieldAddr (off := 0) Try.underlying45 rfl rfl ti3 rfl rfl) ?_
    refine OW.val rfl rfl (EX.load Try.underlying3 rfl rfl (h1.cells.cell_of rfl)) ?_
    refine OW.val rfl rfl (by first | exact EX.gtrN (b := 0) rfl rfl | exact EX.gtrZ rfl rfl) ?_
    refine OW.nil ?_
    refine KW.cut1 (fun (w2 : World) => Dev w2 B b { E with at_ := E.at_ - 1 } vk vn vp1 vq vs1 ∧ Tm w w2 B dty ∧ E.at_ ≠ 1) (fun (w2 : World) => [(0, .pointer (some ⟨b, 0, none⟩)), (1, vc)]) (fun (w2 : World) => w2) ?_ ?_
    · refine KW.condD rfl (fun hat1 => ?_) (fun hat1 => ?_)
      · refine KW.seq (KW.region ?_)
        refine OW.val rfl rfl (EX.move rfl) ?_
        refine OW.val rfl rfl (EX.nilCheck rfl) ?_
        refine OW.val rfl rfl (EX.fieldAddr (off := 4) Try.underlying85 rfl rfl ti45 rfl rfl) ?_
        refine OW.val rfl rfl (EX.fieldAddr (off := 0) Try.underlying45 rfl rfl ti3 rfl rfl) ?_
        refine OW.val rfl rfl (EX.load Try.underlying3 rfl rfl (h1.cells.cell_of rfl)) ?_
        refine OW.val rfl rfl (by first | exact EX.subN (b := 1) (m := 9223372036854775807) rfl rfl rfl (by omega) | exact EX.subZ (m := 9223372036854775807) rfl rfl rfl rfl (by omega)) ?_
        refine OW.val rfl rfl (EX.nilCheck rfl) ?_
        refine OW.val rfl rfl (EX.fieldAddr (off := 4) Try.underlying85 rfl rfl ti45 rfl rfl) ?_
        refine OW.val rfl rfl (EX.fieldAddr (off := 0) Try.underlying45 rfl rfl ti3 rfl rfl) ?_
        refine OW.storeB rfl ti3 rfl rfl (by first | rfl | assumption | exact Own.one (by assumption)) (h1.cells) (by simp) ?_
        rintro w2 hb2 hm2
        refine OW.nil ?_
        refine KW.seq (KW.region ?_)
        refine OW.val rfl rfl (EX.move rfl) ?_
        refine OW.val rfl rfl (EX.nilCheck rfl) ?_
        refine OW.val rfl rfl (EX.fieldAddr (off := 4) Try.underlying85 rfl rfl ti45 rfl rfl) ?_
        refine OW.val rfl rfl (EX.fieldAddr (off := 0) Try.underlying45 rfl rfl ti3 rfl rfl) ?_
        have h2 : Dev w2 B b { E with at_ := E.at_ - 1 } vk vn vp1 vq vs1 := Dev.after h1.lo h1.cells hm2 hb2 h1.kept h1.now h1.apart h1.pend h1.chs h1.keep
        have ht2 : Tm w w2 B dty := ht1.trans (Dev.tmD h1.lo h1.cells hm2)
        refine OW.val rfl rfl (EX.load Try.underlying3 rfl rfl (h2.cells.cell_of rfl)) ?_
        refine OW.val rfl rfl (by first | exact EX.eqlN (b := 0) rfl rfl | exact EX.eqlZ rfl rfl) ?_
        refine OW.nil ?_
        refine KW.condD rfl (fun hz => ?_) (fun hz => ?_)
        · have hz1 : E.at_ = 1 := by have : E.at_ - 1 = 0 := hz; omega
          obtain ⟨A, cp, rfl, hcp, hslp⟩ := h2.pend.slice
          obtain ⟨Aq, cq, rfl, hcq, hslq⟩ := h2.keep.slice
          have hkk : E.keep.length ≤ 140737488355328 := by rw [hEk]; exact hkl
          refine KW.seq (KW.seq (KW.region ?_))
          refine OW.val rfl rfl (EX.move rfl) ?_
          refine OW.val rfl rfl (EX.nilCheck rfl) ?_
          refine OW.val rfl rfl (EX.fieldAddr (off := 3) Try.underlying85 rfl rfl ti83 rfl rfl) ?_
          refine OW.val rfl rfl (EX.load Try.underlying83 rfl rfl (h2.cells.cell_of rfl)) ?_
          refine OW.val rfl rfl (EX.lenA Try.underlying83 rfl) ?_
          refine OW.val rfl rfl (EX.move rfl) ?_
          refine OW.nil ?_
          refine KW.block ?_
          refine KW.loop4 (fun (k : Nat) (vkr : Value) (all : List UInt8) (wr : World) => k ≤ E.pend.length ∧ all = fallen (E.pend.take k) E.keep E.kept ∧ all.length ≤ 512 * E.cap ∧ Dev wr B b { E with at_ := 0, kept := all } vkr vn (.slice A E.pend.length cp) (.slice Aq E.keep.length cq) vs1 ∧ Tm w wr B dty) (fun (k : Nat) (vkr : Value) (all : List UInt8) (wr : World) => [(0, .pointer (some ⟨b, 0, none⟩)), (43, .slice A E.pend.length cp), (44, .int .i64 ((E.pend.length : Nat) : Int)), (45, .int .i64 ((k : Nat) : Int))]) (fun (k : Nat) (vkr : Value) (all : List UInt8) (wr : World) => wr) (fun (k : Nat) (vkr : Value) (all : List UInt8) (wr : World) => E.pend.length - k) (0) (vk) (E.kept) (w2) ⟨rfl, rfl, rfl, rfl, trivial⟩ rfl ?_ ?_
          · refine ⟨by omega, by simp [fallen], hE.kept, ?_, ht2⟩
            have : E.at_ - 1 = 0 := by omega
            rw [← this]
            exact h2
          · rintro k vkr all wr ⟨hk, hall, hal, hd, htr⟩
            have hcapE := hE.cap
            refine KW.seq (KW.region ?_)
            refine OW.val rfl rfl (by first | exact EX.lssN rfl rfl | exact EX.lssZ rfl rfl) ?_
            refine OW.nil ?_
            refine KW.seq ?_
            refine KW.condD rfl (fun hk1 => ?_) (fun hk1 => ?_)
            · obtain ⟨v, hv, hcv⟩ := hd.chs.at_ k hk1
              have hone := hcv.one
              obtain ⟨g, cap', rest, e, hgB, hg, hgl, hgn, hgm⟩ := hd.pend.blk (by rw [hvl1]; omega)
              simp only [Value.slice.injEq, true_and] at e
              obtain ⟨rfl, rfl⟩ := e
              have hvg : (vs1 ++ rest)[k]? = some v := by rw [List.getElem?_append_left (by rw [hvl1]; exact hk1)]; exact hv
              have hstep := fallen_step (bs := E.keep) (all := E.kept) hk1
              rw [← hall] at hstep
              refine KW.skip (KW.seq (KW.block (KW.seq (KW.region ?_))))
              refine OW.val rfl rfl (EX.move rfl) ?_
              refine OW.val rfl rfl (by first | exact EX.indexAddrS0 Try.underlying83 ti143 rfl rfl (by omega) | exact EX.indexAddrS1 Try.underlying83 ti143 rfl rfl (by omega)) ?_
              refine OW.val rfl rfl (EX.load Try.underlying143 rfl rfl (hg.cell_of hvg)) ?_
              refine OW.val rfl rfl (EX.assign rfl) ?_
              refine OW.val rfl rfl (EX.assign rfl) ?_
              refine OW.nil ?_
              refine KW.seq ?_
              refine KW.region ?_
              refine OW.val rfl rfl (EX.move rfl) ?_
              refine OW.val rfl rfl (EX.move rfl) ?_
              refine OW.val rfl rfl (EX.nilCheck rfl) ?_
              refine OW.val rfl rfl (EX.fieldAddr (off := 4) Try.underlying85 rfl rfl ti45 rfl rfl) ?_
              refine OW.val rfl rfl (EX.fieldAddr (off := 1) Try.underlying45 rfl rfl ti43 rfl rfl) ?_
              refine OW.val rfl rfl (EX.load Try.underlying43 rfl rfl (hd.cells.cell_of rfl)) ?_
              refine OW.val rfl rfl (EX.lenA Try.underlying43 rfl) ?_
              refine OW.val rfl rfl (by first | exact EX.lssN rfl rfl | exact EX.lssZ rfl rfl) ?_
              refine OW.val rfl rfl (EX.move rfl) ?_
              refine OW.splitD 58 rfl (fun hk2 => ?_) (fun hk2 => ?_)
              · have hgd : E.keep.getD k false = E.keep[k] := by simp [List.getD, List.getElem?_eq_getElem hk2]
                rw [hgd] at hstep
                obtain ⟨gq, capq, restq, eq, hgqB, hgq, _, _, _⟩ := hd.keep.blk (by rw [boolsV_length]; exact Nat.lt_of_le_of_lt (Nat.zero_le _) hk2)
                simp only [Value.slice.injEq, true_and] at eq
                obtain ⟨rfl, rfl⟩ := eq
                have hbg : (boolsV E.keep ++ restq)[k]? = some (.bool E.keep[k]) := by rw [List.getElem?_append_left (by rw [boolsV_length]; exact hk2)]; simp [boolsV, hk2]
                refine OW.val rfl rfl (EX.move rfl) ?_
                refine OW.val rfl rfl (EX.nilCheck rfl) ?_
                refine OW.val rfl rfl (EX.fieldAddr (off := 4) Try.underlying85 rfl rfl ti45 rfl rfl) ?_
                refine OW.val rfl rfl (EX.fieldAddr (off := 1) Try.underlying45 rfl rfl ti43 rfl rfl) ?_
                refine OW.val rfl rfl (EX.load Try.underlying43 rfl rfl (hd.cells.cell_of rfl)) ?_
                refine OW.val rfl rfl (EX.move rfl) ?_
                refine OW.val rfl rfl (by first | exact EX.indexAddrS0 Try.underlying43 ti4 rfl rfl (by omega) | exact EX.indexAddrS1 Try.underlying43 ti4 rfl rfl (by omega)) ?_
                refine OW.val rfl rfl (EX.load Try.underlying4 rfl rfl (hgq.cell_of hbg)) ?_
                refine OW.val rfl rfl (EX.pickT rfl rfl) ?_
                refine OW.nil ?_
                refine KW.cond rfl (fun hb => ?_) (fun hb => ?_)
                · rw [if_pos hb] at hstep
                  obtain ⟨f, cs, rfl, hret⟩ := chV_call hcv (hE.pend _ (List.getElem_mem hk1)) hcapE.2 (hd.kept.more (Nat.zero_le _)) (by show all.length ≤ 100000000; omega)
                  refine KW.region ?_
                  refine OW.val rfl rfl (EX.move rfl) ?_
                  refine OW.val rfl rfl (EX.move rfl) ?_
                  refine OW.val rfl rfl (EX.move rfl) ?_
                  refine OW.val rfl rfl (EX.nilCheck rfl) ?_
                  refine OW.val rfl rfl (EX.fieldAddr (off := 1) Try.underlying85 rfl rfl ti80 rfl rfl) ?_
                  refine OW.val rfl rfl (EX.load Try.underlying80 rfl rfl (hd.cells.cell_of rfl)) ?_
                  refine OW.callV rfl rfl rfl rfl rfl (hret) ?_
                  rintro v5 w5 ⟨hown5, hmo5, hbl5⟩
                  refine OW.val rfl rfl (EX.nilCheck rfl) ?_
                  refine OW.val rfl rfl (EX.fieldAddr (off := 1) Try.underlying85 rfl rfl ti80 rfl rfl) ?_
                  have t5 : Tm wr w5 B (fun U => U == 5) := Tm.ownMo hd.kept hmo5
                  have hone5 := hown5.one
                  have hnow5 := hd.now.mo hmo5 (fun k hk hkS => hd.apart k (Option.mem_toList.1 hkS) hk)
                  have hap5 : ∀ k, v5.ownBlock = some k → vn.ownBlock ≠ some k := by
                    intro k hk hk'
                    rcases hbl5 with e | ⟨g', e, hge⟩
                    · exact hd.apart k (by rw [← e]; exact hk) hk'
                    · rw [e] at hk; injection hk with hk; have := (hd.now.lt k hk').2; omega
                  have hbase5 : Own w5 B 5 1 v5 ((E.pend[k]).ap all).length (bytesV ((E.pend[k]).ap all)) := hown5.base (by
                    intro k hk
                    rcases hbl5 with e | ⟨g', e, hge⟩
                    · exact (hd.kept.lt k (by rw [← e]; exact hk)).1
                    · rw [e] at hk; injection hk with hk; have := hd.cells.lt; have := hd.lo; omega)
                  refine OW.storeB rfl ti80 rfl rfl (by first | rfl | assumption | exact Own.one (by assumption)) (t5.bk hd.cells rfl) (by simp) ?_
                  rintro w6 hb6 hm6
                  refine OW.nil ?_
                  refine KW.leave (KW.region ?_)
                  refine OW.val rfl rfl (by first | exact EX.addN (b := 1) (m := 9223372036854775807) rfl rfl rfl (by omega) | exact EX.addZ (m := 9223372036854775807) rfl rfl rfl rfl (by omega)) ?_
                  refine OW.val rfl rfl (EX.move rfl) ?_
                  refine OW.nil ?_
                  refine KW.back4 (k + 1) (v5) ((E.pend[k]).ap all) (w6) ⟨rfl, rfl, rfl, rfl, trivial⟩ rfl ?_ (by omega)
                  refine ⟨by omega, hstep.symm, ap_length (hE.pend _ (List.getElem_mem hk1)) hal, ?_, ?_⟩
                  · exact Dev.after (D' := { E with at_ := 0, kept := (E.pend[k]).ap all }) hd.lo (t5.bk hd.cells rfl) hm6 hb6 hbase5 hnow5 hap5 (t5.own hd.pend rfl) (hd.chs.tm t5 rfl rfl) (t5.own hd.keep rfl)
                  · exact (htr.trans (t5.mono fun T hT => by simp at hT; simp [dty, hT])).trans (Dev.tmD hd.lo (t5.bk hd.cells rfl) hm6)
                · rw [if_neg (by simp [hb])] at hstep
                  refine KW.skip (KW.leave (KW.region ?_))
                  refine OW.val rfl rfl (by first | exact EX.addN (b := 1) (m := 9223372036854775807) rfl rfl rfl (by omega) | exact EX.addZ (m := 9223372036854775807) rfl rfl rfl rfl (by omega)) ?_
                  refine OW.val rfl rfl (EX.move rfl) ?_
                  refine OW.nil ?_
                  refine KW.back4 (k + 1) (vkr) (all) (wr) ⟨rfl, rfl, rfl, rfl, trivial⟩ rfl ?_ (by omega)
                  exact ⟨by omega, hstep.symm, hal, hd, htr⟩
              · have hgd : E.keep.getD k false = false := by simp [List.getD, List.getElem?_eq_none (Nat.le_of_not_lt hk2)]
                rw [hgd] at hstep
                refine OW.pass rfl rfl ?_
                refine OW.pass rfl rfl ?_
                refine OW.pass rfl rfl ?_
                refine OW.pass rfl rfl ?_
                refine OW.pass rfl rfl ?_
                refine OW.pass rfl rfl ?_
                refine OW.pass rfl rfl ?_
                refine OW.pass rfl rfl ?_
                refine OW.val rfl rfl (EX.pickF rfl rfl) ?_
                refine OW.nil ?_
                refine KW.condF rfl (KW.skip (KW.leave (KW.region ?_)))
                refine OW.val rfl rfl (by first | exact EX.addN (b := 1) (m := 9223372036854775807) rfl rfl rfl (by omega) | exact EX.addZ (m := 9223372036854775807) rfl rfl rfl rfl (by omega)) ?_
                refine OW.val rfl rfl (EX.move rfl) ?_
                refine OW.nil ?_
                refine KW.back4 (k + 1) (vkr) (all) (wr) ⟨rfl, rfl, rfl, rfl, trivial⟩ rfl ?_ (by omega)
                exact ⟨by omega, by rw [hstep]; rfl, hal, hd, htr⟩
            · obtain rfl : k = E.pend.length := by omega
              rw [List.take_length] at hall
              obtain ⟨Ak, ck, rfl, hck, hslk⟩ := hd.kept.slice
              have hclone := cloneB_c Ak ck (bytesV all) _ wr hslk hd.kept.noneEmpty bytesV_one (by rw [bytesV_length]; omega)
              rw [bytesV_length] at hclone
              refine KW.exit rfl (KW.seq (KW.region ?_))
              refine OW.val rfl rfl (EX.move rfl) ?_
              refine OW.val rfl rfl (EX.move rfl) ?_
              refine OW.val rfl rfl (EX.move rfl) ?_
              refine OW.val rfl rfl (EX.move rfl) ?_
              refine OW.val rfl rfl (EX.move rfl) ?_
              refine OW.val rfl rfl (EX.nilCheck rfl) ?_
              refine OW.val rfl rfl (EX.fieldAddr (off := 1) Try.underlying85 rfl rfl ti80 rfl rfl) ?_
              refine OW.val rfl rfl (EX.load Try.underlying80 rfl rfl (hd.cells.cell_of rfl)) ?_
              refine OW.call rfl rfl rfl (hclone) ?_
              rintro v7 w7 ⟨hown7, hx7⟩
              refine OW.val rfl rfl (EX.buildS (pl := [(0, 1), (1, 1)]) (ks := []) (is := []) (zs := [.int .i64 0, .slice none 0 0]) Try.underlying45 ti45 (by kernel_rfl) rfl rfl rfl (by first | rfl | (simp only [List.all_cons, List.all_nil, Bool.and_true, Bool.true_and, Bool.and_eq_true, Value.oneCell']; repeat (first | assumption | exact Own.one (by assumption) | constructor))) (by simp only [setAll, List.set_cons_zero, List.set_cons_succ]; rfl)) ?_
              refine OW.val rfl rfl (EX.nilCheck rfl) ?_
              refine OW.val rfl rfl (EX.fieldAddr (off := 2) Try.underlying85 rfl rfl ti80 rfl rfl) ?_
              have hd7 := hd.ext hx7
              have hone7 := hown7.one
              refine OW.storeB rfl ti80 rfl rfl (by first | rfl | assumption | exact Own.one (by assumption)) (hd7.cells) (by simp) ?_
              rintro w8 hb8 hm8
              refine OW.val rfl rfl (EX.nilCheck rfl) ?_
              refine OW.val rfl rfl (EX.fieldAddr (off := 3) Try.underlying85 rfl rfl ti83 rfl rfl) ?_
              refine OW.storeB rfl ti83 rfl rfl (by first | rfl | assumption | exact Own.one (by assumption)) (hb8) (by simp) ?_
              rintro w9 hb9 hm9
              refine OW.val rfl rfl (EX.nilCheck rfl) ?_
              refine OW.val rfl rfl (EX.fieldAddr (off := 4) Try.underlying85 rfl rfl ti45 rfl rfl) ?_
              refine OW.storeS rfl ti45 rfl rfl rfl (by first | rfl | (simp only [List.all_cons, List.all_nil, Bool.and_true, Bool.true_and, Bool.and_eq_true, Value.oneCell']; repeat (first | assumption | exact Own.one (by assumption) | constructor))) (hb9) (by simp) ?_
              rintro w10 hb10 hm10
              refine OW.val rfl rfl (EX.nilCheck rfl) ?_
              refine OW.val rfl rfl (EX.fieldAddr (off := 6) Try.underlying85 rfl rfl ti4 rfl rfl) ?_
              refine OW.storeB rfl ti4 rfl rfl (by first | rfl | assumption | exact Own.one (by assumption)) (hb10) (by simp) ?_
              rintro w11 hb11 hm11
              refine OW.nil ?_
              refine KW.seq (KW.region ?_)
              refine OW.val rfl rfl (EX.assign rfl) ?_
              refine OW.nil ?_
              refine KW.ret (ret1 rfl rfl ?_)
              have hmm : Mo w7 w11 [b] := ((hm8.trans hm9).trans hm10).trans hm11
              have hEall : all = fallen (D.pushed c).pend (D.pushed c).keep (D.pushed c).kept := by rw [hEd]; exact hall
              rw [does_fall (by rw [hEd]; exact hz1), hEd, ← hall]
              refine ⟨rfl, ⟨_, _, _, _, [], Dev.after (D' := { E with kept := all, now := all, pend := [], at_ := 0, keep := [], dead := true }) hd.lo hd7.cells hmm hb11 hd7.kept (hown7.base (fun k hk => by have := (hown7.lt k hk).1; have := hd.cells.lt; have := hd.lo; omega)) ?_ (Own.nil _ _ _ _) trivial (Own.nil _ _ _ _)⟩, ?_⟩
              · intro k hk hk'
                have q1 := (hd.kept.lt k hk).2
                have q2 := (hown7.lt k hk').1
                omega
              · exact (htr.trans (Tm.of_ext hx7 B dty)).trans (Dev.tmD hd.lo hd7.cells hmm)
        · refine KW.skip ?_
          refine KW.meet1 (w2) ⟨rfl, rfl, trivial⟩ rfl ?_
          have hz1 : ¬ E.at_ - 1 = 0 := hz
          exact ⟨h2, ht2, by omega⟩
      · refine KW.skip ?_
        refine KW.meet1 (w1) ⟨rfl, rfl, trivial⟩ rfl ?_
        have e0 : E.at_ = 0 := by omega
        refine ⟨?_, ht1, by omega⟩
        have : ({ E with at_ := E.at_ - 1 } : Dv) = E := by cases E; simp at e0; simp [e0]
        rw [this]
        exact h1
    · rintro w2 ⟨h2, ht2, hne1⟩
      have hcapE := hE.cap
      have hnowE := hE.now
      rw [does_go (by rw [hEd]; exact hne1), hEd]
      refine KW.seq (KW.seq (KW.region ?_))
      refine OW.val rfl rfl (EX.move rfl) ?_
      refine OW.val rfl rfl (EX.neqFb Try.underlying143 rfl rfl hq) ?_
      refine OW.nil ?_
      refine KW.cond rfl (fun hc => ?_) (fun hc => ?_)
      · obtain ⟨ch, rfl⟩ := Option.isSome_iff_exists.1 hc
        have hv2 : ChV w2 ch vc := (hcs ch rfl).1.tm ht2 rfl rfl
        have hok := (hcs ch rfl).2
        obtain ⟨f, cs, rfl, hret⟩ := chV_call hv2 hok hD.cap.2 (h2.now.more (Nat.zero_le _)) (by show E.now.length ≤ 100000000; omega)
        refine KW.region ?_
        refine OW.val rfl rfl (EX.move rfl) ?_
        refine OW.val rfl rfl (EX.move rfl) ?_
        refine OW.val rfl rfl (EX.move rfl) ?_
        refine OW.val rfl rfl (EX.nilCheck rfl) ?_
        refine OW.val rfl rfl (EX.fieldAddr (off := 2) Try.underlying85 rfl rfl ti80 rfl rfl) ?_
        refine OW.val rfl rfl (EX.load Try.underlying80 rfl rfl (h2.cells.cell_of rfl)) ?_
        refine OW.callV rfl rfl rfl rfl rfl (hret) ?_
        rintro v5 w5 ⟨hown5, hmo5, hbl5⟩
        refine OW.val rfl rfl (EX.nilCheck rfl) ?_
        refine OW.val rfl rfl (EX.fieldAddr (off := 2) Try.underlying85 rfl rfl ti80 rfl rfl) ?_
        have t5 : Tm w2 w5 B (fun U => U == 5) := Tm.ownMo h2.now hmo5
        have hone5 := hown5.one
        have hk5 := h2.kept.mo hmo5 (fun k hk hkS => h2.apart k hk (Option.mem_toList.1 hkS))
        have hap5 : ∀ k, vk.ownBlock = some k → v5.ownBlock ≠ some k := by
          intro k hk' hk
          rcases hbl5 with e | ⟨g', e, hge⟩
          · exact h2.apart k hk' (by rw [← e]; exact hk)
          · rw [e] at hk; injection hk with hk; have := (h2.kept.lt k hk').2; omega
        have hbase5 : Own w5 B 5 1 v5 (ch.ap E.now).length (bytesV (ch.ap E.now)) := hown5.base (by
          intro k hk
          rcases hbl5 with e | ⟨g', e, hge⟩
          · exact (h2.now.lt k (by rw [← e]; exact hk)).1
          · rw [e] at hk; injection hk with hk; have := h2.cells.lt; have := h2.lo; omega)
        refine OW.storeB rfl ti80 rfl rfl (by first | rfl | assumption | exact Own.one (by assumption)) (t5.bk h2.cells rfl) (by simp) ?_
        rintro w6 hb6 hm6
        refine OW.nil ?_
        refine KW.seq (KW.region ?_)
        refine OW.val rfl rfl (EX.move rfl) ?_
        refine OW.val rfl rfl (EX.nilCheck rfl) ?_
        refine OW.val rfl rfl (EX.fieldAddr (off := 7) Try.underlying85 rfl rfl ti3 rfl rfl) ?_
        have hEcalls : ({ E with at_ := E.at_ - 1 } : Dv).calls ≤ 1000000 := by show E.calls ≤ 1000000; rw [← hEd]; exact hcalls
        refine OW.val rfl rfl (EX.load Try.underlying3 rfl rfl (hb6.cell_of rfl)) ?_
        refine OW.val rfl rfl (by first | exact EX.addN (b := 1) (m := 9223372036854775807) rfl rfl rfl (by omega) | exact EX.addZ (m := 9223372036854775807) rfl rfl rfl rfl (by omega)) ?_
        refine OW.val rfl rfl (EX.nilCheck rfl) ?_
        refine OW.val rfl rfl (EX.fieldAddr (off := 7) Try.underlying85 rfl rfl ti3 rfl rfl) ?_
        refine OW.storeB rfl ti3 rfl rfl (by first | rfl | assumption | exact Own.one (by assumption)) (hb6) (by simp) ?_
        rintro w7 hb7 hm7
        refine OW.nil ?_
        refine KW.seq (KW.region ?_)
        refine OW.val rfl rfl (EX.assign rfl) ?_
        refine OW.nil ?_
        refine KW.ret (ret1 rfl rfl ?_)
        have hmm : Mo w5 w7 [b] := hm6.trans hm7
        refine ⟨rfl, ⟨_, _, _, _, _, Dev.after (D' := Dv.done { E with at_ := E.at_ - 1 } (some ch)) h2.lo (t5.bk h2.cells rfl) hmm hb7 hk5 hbase5 hap5 (t5.own h2.pend rfl) (h2.chs.tm t5 rfl rfl) (t5.own h2.keep rfl)⟩, ?_⟩
        exact (ht2.trans (t5.mono fun T hT => by simp at hT; simp [dty, hT])).trans (Dev.tmD h2.lo (t5.bk h2.cells rfl) hmm)
      · obtain rfl : c = none := by cases c; rfl; simp at hc
        obtain ⟨An, cn, rfl, hcn2, hsln⟩ := h2.now.slice
        have hclone := cloneB_c An cn (bytesV E.now) _ w2 hsln h2.now.noneEmpty bytesV_one (by rw [bytesV_length]; omega)
        rw [bytesV_length] at hclone
        have hEcalls : ({ E with at_ := E.at_ - 1 } : Dv).calls ≤ 1000000 := by show E.calls ≤ 1000000; rw [← hEd]; exact hcalls
        refine KW.region ?_
        refine OW.val rfl rfl (EX.move rfl) ?_
        refine OW.val rfl rfl (EX.move rfl) ?_
        refine OW.val rfl rfl (EX.move rfl) ?_
        refine OW.val rfl rfl (EX.nilCheck rfl) ?_
        refine OW.val rfl rfl (EX.fieldAddr (off := 2) Try.underlying85 rfl rfl ti80 rfl rfl) ?_
        refine OW.val rfl rfl (EX.load Try.underlying80 rfl rfl (h2.cells.cell_of rfl)) ?_
        refine OW.call rfl rfl rfl (hclone) ?_
        rintro v7 w7 ⟨hown7, hx7⟩
        refine OW.val rfl rfl (EX.nilCheck rfl) ?_
        refine OW.val rfl rfl (EX.fieldAddr (off := 1) Try.underlying85 rfl rfl ti80 rfl rfl) ?_
        have hd7 := h2.ext hx7
        have hone7 := hown7.one
        refine OW.storeB rfl ti80 rfl rfl (by first | rfl | assumption | exact Own.one (by assumption)) (hd7.cells) (by simp) ?_
        rintro w8 hb8 hm8
        refine OW.val rfl rfl (EX.nilCheck rfl) ?_
        refine OW.val rfl rfl (EX.fieldAddr (off := 3) Try.underlying85 rfl rfl ti83 rfl rfl) ?_
        refine OW.storeB rfl ti83 rfl rfl (by first | rfl | assumption | exact Own.one (by assumption)) (hb8) (by simp) ?_
        rintro w9 hb9 hm9
        refine OW.nil ?_
        refine KW.seq (KW.region ?_)
        refine OW.val rfl rfl (EX.move rfl) ?_
        refine OW.val rfl rfl (EX.nilCheck rfl) ?_
        refine OW.val rfl rfl (EX.fieldAddr (off := 7) Try.underlying85 rfl rfl ti3 rfl rfl) ?_
        refine OW.val rfl rfl (EX.load Try.underlying3 rfl rfl (hb9.cell_of rfl)) ?_
        refine OW.val rfl rfl (by first | exact EX.addN (b := 1) (m := 9223372036854775807) rfl rfl rfl (by omega) | exact EX.addZ (m := 9223372036854775807) rfl rfl rfl rfl (by omega)) ?_
        refine OW.val rfl rfl (EX.nilCheck rfl) ?_
        refine OW.val rfl rfl (EX.fieldAddr (off := 7) Try.underlying85 rfl rfl ti3 rfl rfl) ?_
        refine OW.storeB rfl ti3 rfl rfl (by first | rfl | assumption | exact Own.one (by assumption)) (hb9) (by simp) ?_
        rintro w10 hb10 hm10
        refine OW.nil ?_
        refine KW.seq (KW.region ?_)
        refine OW.val rfl rfl (EX.assign rfl) ?_
        refine OW.nil ?_
        refine KW.ret (ret1 rfl rfl ?_)
        have hmm : Mo w7 w10 [b] := (hm8.trans hm9).trans hm10
        refine ⟨rfl, ⟨_, _, _, _, [], Dev.after (D' := Dv.done { E with at_ := E.at_ - 1 } none) h2.lo hd7.cells hmm hb10 (hown7.base (fun k hk => by have := (hown7.lt k hk).1; have := h2.cells.lt; have := h2.lo; omega)) hd7.now ?_ (Own.nil _ _ _ _) trivial hd7.keep⟩, ?_⟩
        · intro k hk hk'
          have q1 := (h2.now.lt k hk').2
          have q2 := (hown7.lt k hk).1
          omega
        · exact (ht2.trans (Tm.of_ext hx7 B dty)).trans (Dev.tmD h2.lo hd7.cells hmm)
end Go.Proofs.Ytlpnoogcdnfllaa
/- disk: the device's methods, whole. -/
namespace Go.Proofs.Ytlpnoogcdnfllaa
set_option linter.unnecessarySimpa false
set_option linter.unusedSimpArgs false
open Go.RowKit Dsk
set_option linter.unusedVariables false

def _root_.Go.Proofs.Ytlpnoogcdnfllaa.Dsk.Dv.write (D : Dv) (i : Int) (s : List UInt8) : Dv × Nat :=
  if D.dead then (D, 190) else if i < 0 ∨ (D.cap : Int) ≤ i then (D, 191) else if s.length ≠ 512 then (D, 2) else D.does (some (.write i.toNat s))
def _root_.Go.Proofs.Ytlpnoogcdnfllaa.Dsk.Dv.cut (D : Dv) (n : Int) : Dv × Nat :=
  if D.dead then (D, 190) else if n < 0 ∨ ((D.now.length / 512 : Nat) : Int) < n then (D, 191) else D.does (some (.cut n.toNat))
def _root_.Go.Proofs.Ytlpnoogcdnfllaa.Dsk.Dv.sync (D : Dv) : Dv × Nat := if D.dead then (D, 190) else D.does none
def _root_.Go.Proofs.Ytlpnoogcdnfllaa.Dsk.Dv.plan (D : Dv) (a : Int) (k : List Bool) : Dv × Nat :=
  if D.dead then (D, 190) else if a < 0 then (D, 2) else ({ D with at_ := a.toNat, keep := k }, 0)
theorem RetQ.of {P : Program} {f : FuncId} {args : List Value} {w : World} {v : Value} (h : Ret P f args w fun v' w' => v' = v ∧ w = w') : RetQ P f args w v :=
  h.mono fun _ _ ⟨h1, h2⟩ => ⟨h1, 0, by subst h2; rfl⟩
section
variable {w : World} {B b : Nat} {D : Dv}
theorem len_d (h : DevAt w B b D) (hD : D.Ok) : Ret Try.prog 28 [.pointer (some ⟨b, 0, none⟩)] w fun v w' => v = .int .i64 ((D.now.length / 512 : Nat) : Int) ∧ w = w' := by
  have h0 := h
  obtain ⟨vk, vn, vp, vq, vs, h⟩ := h
  have q1 := hD.now
  have q2 := hD.cap
  obtain ⟨A, c, rfl, hc, hsl⟩ := h.now.slice
  refine Ret.enter Try.func28 rfl Try.ntmps28 (by kernel_rfl) rfl ?_
  refine KW.seq (KW.region ?_)
  refine OW.val rfl rfl (EX.assign rfl) ?_
  refine OW.nil ?_
  refine KW.seq (KW.seq (KW.region ?_))
  refine OW.val rfl rfl (EX.move rfl) ?_
  refine OW.call rfl rfl rfl (none_d h0 hD) ?_
  rintro _ _ ⟨rfl, rfl⟩
  refine OW.nil ?_
  refine KW.condF rfl (KW.skip (KW.seq (KW.region ?_)))
  refine OW.val rfl rfl (EX.move rfl) ?_
  refine OW.val rfl rfl (EX.nilCheck rfl) ?_
  refine OW.val rfl rfl (EX.fieldAddr (off := 2) Try.underlying85 rfl rfl ti80 rfl rfl) ?_
  refine OW.val rfl rfl (EX.load Try.underlying80 rfl rfl (h.cells.cell_of rfl)) ?_
  refine OW.val rfl rfl (EX.lenA Try.underlying80 rfl) ?_
  refine OW.val rfl rfl (EX.quoN (b := 512) (m := 9223372036854775807) rfl rfl rfl (by omega)) ?_
  refine OW.val rfl rfl (EX.assign rfl) ?_
  refine OW.nil ?_
  refine KW.ret (ret1 rfl rfl ?_)
  exact ⟨rfl, rfl⟩
theorem image_d (h : DevAt w B b D) (hD : D.Ok) : Ret Try.prog 15 [.pointer (some ⟨b, 0, none⟩)] w fun v w' => v = str D.now ∧ w = w' := by
  have h0 := h
  obtain ⟨vk, vn, vp, vq, vs, h⟩ := h
  obtain ⟨A, c, rfl, hc, hsl⟩ := h.now.slice
  refine Ret.enter Try.func15 rfl Try.ntmps15 (by kernel_rfl) rfl ?_
  refine KW.seq (KW.region ?_)
  refine OW.val rfl rfl (EX.assign rfl) ?_
  refine OW.nil ?_
  refine KW.seq (KW.seq (KW.region ?_))
  refine OW.val rfl rfl (EX.move rfl) ?_
  refine OW.call rfl rfl rfl (none_d h0 hD) ?_
  rintro _ _ ⟨rfl, rfl⟩
  refine OW.nil ?_
  refine KW.condF rfl (KW.skip (KW.seq (KW.region ?_)))
  refine OW.val rfl rfl (EX.move rfl) ?_
  refine OW.val rfl rfl (EX.nilCheck rfl) ?_
  refine OW.val rfl rfl (EX.fieldAddr (off := 2) Try.underlying85 rfl rfl ti80 rfl rfl) ?_
  refine OW.val rfl rfl (EX.load Try.underlying80 rfl rfl (h.cells.cell_of rfl)) ?_
  refine OW.val rfl rfl (EX.strOf Try.underlying80 Try.underlying5 Try.underlying9 rfl (hsl) (rfl)) ?_
  refine OW.val rfl rfl (EX.assign rfl) ?_
  refine OW.nil ?_
  refine KW.ret (ret1 rfl rfl ?_)
  exact ⟨rfl, rfl⟩
theorem capacity_d (h : DevAt w B b D) (hD : D.Ok) : Ret Try.prog 30 [.pointer (some ⟨b, 0, none⟩)] w fun v w' => v = .int .i64 (D.cap : Int) ∧ w = w' := by
  have h0 := h
  obtain ⟨vk, vn, vp, vq, vs, h⟩ := h
  refine Ret.enter Try.func30 rfl Try.ntmps30 (by kernel_rfl) rfl ?_
  refine KW.seq (KW.region ?_)
  refine OW.val rfl rfl (EX.assign rfl) ?_
  refine OW.nil ?_
  refine KW.seq (KW.seq (KW.region ?_))
  refine OW.val rfl rfl (EX.move rfl) ?_
  refine OW.call rfl rfl rfl (none_d h0 hD) ?_
  rintro _ _ ⟨rfl, rfl⟩
  refine OW.nil ?_
  refine KW.condF rfl (KW.skip (KW.seq (KW.region ?_)))
  refine OW.val rfl rfl (EX.move rfl) ?_
  refine OW.val rfl rfl (EX.nilCheck rfl) ?_
  refine OW.val rfl rfl (EX.fieldAddr (off := 0) Try.underlying85 rfl rfl ti3 rfl rfl) ?_
  refine OW.val rfl rfl (EX.load Try.underlying3 rfl rfl (h.cells.cell_of rfl)) ?_
  refine OW.val rfl rfl (EX.assign rfl) ?_
  refine OW.nil ?_
  refine KW.ret (ret1 rfl rfl ?_)
  exact ⟨rfl, rfl⟩
theorem calls_d (h : DevAt w B b D) (hD : D.Ok) : Ret Try.prog 26 [.pointer (some ⟨b, 0, none⟩)] w fun v w' => v = .int .i64 (D.calls : Int) ∧ w = w' := by
  have h0 := h
  obtain ⟨vk, vn, vp, vq, vs, h⟩ := h
  refine Ret.enter Try.func26 rfl Try.ntmps26 (by kernel_rfl) rfl ?_
  refine KW.seq (KW.region ?_)
  refine OW.val rfl rfl (EX.assign rfl) ?_
  refine OW.nil ?_
  refine KW.seq (KW.seq (KW.region ?_))
  refine OW.val rfl rfl (EX.move rfl) ?_
  refine OW.call rfl rfl rfl (none_d h0 hD) ?_
  rintro _ _ ⟨rfl, rfl⟩
  refine OW.nil ?_
  refine KW.condF rfl (KW.skip (KW.seq (KW.region ?_)))
  refine OW.val rfl rfl (EX.move rfl) ?_
  refine OW.val rfl rfl (EX.nilCheck rfl) ?_
  refine OW.val rfl rfl (EX.fieldAddr (off := 7) Try.underlying85 rfl rfl ti3 rfl rfl) ?_
  refine OW.val rfl rfl (EX.load Try.underlying3 rfl rfl (h.cells.cell_of rfl)) ?_
  refine OW.val rfl rfl (EX.assign rfl) ?_
  refine OW.nil ?_
  refine KW.ret (ret1 rfl rfl ?_)
  exact ⟨rfl, rfl⟩
theorem dead_d (h : DevAt w B b D) (hD : D.Ok) : Ret Try.prog 18 [.pointer (some ⟨b, 0, none⟩)] w fun v w' => v = .bool D.dead ∧ w = w' := by
  have h0 := h
  obtain ⟨vk, vn, vp, vq, vs, h⟩ := h
  refine Ret.enter Try.func18 rfl Try.ntmps18 (by kernel_rfl) rfl ?_
  refine KW.seq (KW.region ?_)
  refine OW.val rfl rfl (EX.assign rfl) ?_
  refine OW.nil ?_
  refine KW.seq ?_
  refine KW.region ?_
  refine OW.val rfl rfl (EX.move rfl) ?_
  refine OW.call rfl rfl rfl (none_d h0 hD) ?_
  rintro _ _ ⟨rfl, rfl⟩
  refine OW.val rfl rfl (by first | exact EX.notD rfl | exact EX.notB rfl) ?_
  refine OW.val rfl rfl (EX.move rfl) ?_
  refine OW.val rfl rfl (EX.move rfl) ?_
  refine OW.val rfl rfl (EX.nilCheck rfl) ?_
  refine OW.val rfl rfl (EX.fieldAddr (off := 6) Try.underlying85 rfl rfl ti4 rfl rfl) ?_
  refine OW.val rfl rfl (EX.load Try.underlying4 rfl rfl (h.cells.cell_of rfl)) ?_
  refine OW.val rfl rfl (EX.pickT rfl rfl) ?_
  refine OW.val rfl rfl (EX.assign rfl) ?_
  refine OW.nil ?_
  refine KW.ret (ret1 rfl rfl ?_)
  exact ⟨rfl, rfl⟩
theorem up_d (h : DevAt w B b D) (hD : D.Ok) : Ret Try.prog 19 [.pointer (some ⟨b, 0, none⟩)] w fun v w' => v = .int .i64 0 ∧ DevAt w' B b { D with dead := false } ∧ Tm w w' B dty := by
  have h0 := h
  obtain ⟨vk, vn, vp, vq, vs, h⟩ := h
  refine Ret.enter Try.func19 rfl Try.ntmps19 (by kernel_rfl) rfl ?_
  refine KW.seq (KW.region ?_)
  refine OW.val rfl rfl (EX.assign rfl) ?_
  refine OW.nil ?_
  refine KW.seq (KW.seq (KW.region ?_))
  refine OW.val rfl rfl (EX.move rfl) ?_
  refine OW.call rfl rfl rfl (none_d h0 hD) ?_
  rintro _ _ ⟨rfl, rfl⟩
  refine OW.nil ?_
  refine KW.condF rfl (KW.skip (KW.seq (KW.region ?_)))
  refine OW.val rfl rfl (EX.move rfl) ?_
  refine OW.val rfl rfl (EX.nilCheck rfl) ?_
  refine OW.val rfl rfl (EX.fieldAddr (off := 6) Try.underlying85 rfl rfl ti4 rfl rfl) ?_
  refine OW.storeB rfl ti4 rfl rfl (by first | rfl | assumption | exact Own.one (by assumption)) (h.cells) (by simp) ?_
  rintro w2 hb2 hm2
  refine OW.nil ?_
  refine KW.seq (KW.region ?_)
  refine OW.val rfl rfl (EX.assign rfl) ?_
  refine OW.nil ?_
  refine KW.ret (ret1 rfl rfl ?_)
  exact ⟨rfl, ⟨_, _, _, _, _, Dev.after (D' := { D with dead := false }) h.lo h.cells hm2 hb2 h.kept h.now h.apart h.pend h.chs h.keep⟩, Dev.tmD h.lo h.cells hm2⟩
end
/-- what a method needs to know of the device's numbers -/
structure Small (D : Dv) : Prop where
  calls : D.calls ≤ 1000000
  pend : D.pend.length ≤ 1000000
  at_ : D.at_ ≤ 9223372036854775807
  keep : D.keep.length ≤ 140737488355328
section
variable {w : World} {B b : Nat} {D : Dv}
theorem sync_d (h : DevAt w B b D) (hD : D.Ok) (hs : Small D) : Ret Try.prog 44 [.pointer (some ⟨b, 0, none⟩)] w fun v w' => v = .int .i64 ((D.sync.2 : Nat) : Int) ∧ DevAt w' B b D.sync.1 ∧ Tm w w' B dty := by
  refine Ret.enter Try.func44 rfl Try.ntmps44 (by kernel_rfl) rfl ?_
  refine KW.seq (KW.region ?_)
  refine OW.val rfl rfl (EX.assign rfl) ?_
  refine OW.nil ?_
  refine KW.seq (KW.seq (KW.region ?_))
  refine OW.val rfl rfl (EX.move rfl) ?_
  refine OW.call rfl rfl rfl (alive_d h hD) ?_
  rintro _ _ ⟨rfl, rfl⟩
  refine OW.val rfl rfl (EX.assign rfl) ?_
  refine OW.nil ?_
  refine KW.seq (KW.region ?_)
  refine OW.val rfl rfl (EX.move rfl) ?_
  refine OW.val rfl rfl (by first | exact EX.neqN (b := 0) rfl rfl | exact EX.neqZ rfl rfl) ?_
  refine OW.nil ?_
  rcases hd : D.dead with _ | _
  · have e : D.sync = D.does none := by unfold Dv.sync; rw [hd]; rfl
    rw [if_neg (by simp)]
    refine KW.as 7 (.bool false) rfl (congrArg Value.bool (decide_eq_false (by decide))) ?_
    refine KW.condF rfl (KW.skip (KW.seq (KW.region ?_)))
    refine OW.val rfl rfl (EX.move rfl) ?_
    refine OW.call rfl rfl rfl (does_c h hD .nilFunc none (fun _ => rfl) (fun d q => by cases q) hs.calls hs.pend hs.at_ hs.keep) ?_
    rintro _ w' ⟨rfl, h1, h2⟩
    refine OW.val rfl rfl (EX.assign rfl) ?_
    refine OW.nil ?_
    refine KW.ret (ret1 rfl rfl ?_)
    rw [e]
    exact ⟨rfl, h1, h2⟩
  · have e : D.sync = (D, 190) := by unfold Dv.sync; rw [hd]; rfl
    rw [if_pos rfl]
    refine KW.as 7 (.bool true) rfl (congrArg Value.bool (decide_eq_true (by decide))) ?_
    refine KW.condT rfl (KW.seq (KW.region ?_))
    refine OW.val rfl rfl (EX.move rfl) ?_
    refine OW.val rfl rfl (EX.assign rfl) ?_
    refine OW.nil ?_
    refine KW.ret (ret1 rfl rfl ?_)
    rw [e]
    exact ⟨rfl, h, Tm.refl _ _ _⟩
theorem write_d (h : DevAt w B b D) (hD : D.Ok) (hs : Small D) (i : Int) (i0 : -9223372036854775808 ≤ i) (i1 : i ≤ 9223372036854775807) (s : List UInt8) (hsl : s.length ≤ 140737488355328) :
    Ret Try.prog 43 [.pointer (some ⟨b, 0, none⟩), .int .i64 i, str s] w fun v w' => v = .int .i64 (((D.write i s).2 : Nat) : Int) ∧ DevAt w' B b (D.write i s).1 ∧ Tm w w' B dty := by
  refine Ret.enter Try.func43 rfl Try.ntmps43 (by kernel_rfl) rfl ?_
  refine KW.seq (KW.region ?_)
  refine OW.boxB rfl rfl rfl rfl ?_
  rintro bi w1 hge1 hi1 hx1
  refine OW.boxB rfl rfl rfl rfl ?_
  rintro bs w2 hge2 hs2 hx2
  refine OW.val rfl rfl (EX.assign rfl) ?_
  refine OW.nil ?_
  refine KW.seq (KW.seq (KW.region ?_))
  refine OW.val rfl rfl (EX.move rfl) ?_
  have hi2 := hi1.ext hx2
  have h2 := h.ext (hx1.trans hx2)
  have t2 : Tm w w2 B dty := Tm.of_ext (hx1.trans hx2) B dty
  refine OW.call rfl rfl rfl (alive_d h2 hD) ?_
  rintro _ _ ⟨rfl, rfl⟩
  refine OW.val rfl rfl (EX.assign rfl) ?_
  refine OW.nil ?_
  refine KW.seq (KW.region ?_)
  refine OW.val rfl rfl (EX.move rfl) ?_
  refine OW.val rfl rfl (by first | exact EX.neqN (b := 0) rfl rfl | exact EX.neqZ rfl rfl) ?_
  refine OW.nil ?_
  rcases hd : D.dead with _ | _
  · rw [if_neg (by simp)]
    refine KW.as 11 (.bool false) rfl (congrArg Value.bool (decide_eq_false (by decide))) ?_
    refine KW.condF rfl (KW.skip (KW.seq (KW.seq ?_)))
    obtain ⟨vk, vn, vp, vq, vs, hv⟩ := id h2
    refine KW.regionQ (by kernel_rfl) (by kernel_rfl) ?_
    refine QW.val rfl rfl (fun _ => EX.load Try.underlying3 rfl rfl ((hi2.drewN _).cell_of rfl)) ?_
    refine QW.val rfl rfl (fun _ => by first | exact EX.lssN (b := 0) rfl rfl | exact EX.lssZ rfl rfl) ?_
    refine QW.val rfl rfl (fun _ => EX.move rfl) ?_
    refine QW.splitD 15 rfl (fun a1 => ?_) (fun a1 => ?_)
    · have e : D.write i s = (D, 191) := by unfold Dv.write; rw [hd, if_neg (by simp), if_pos (.inl a1)]
      refine QW.pass rfl rfl ?_
      refine QW.pass rfl rfl ?_
      refine QW.pass rfl rfl ?_
      refine QW.pass rfl rfl ?_
      refine QW.pass rfl rfl ?_
      refine QW.pass rfl rfl ?_
      refine QW.val rfl rfl (fun _ => EX.pickT rfl rfl) ?_
      refine QW.nil (fun nq => ?_)
      refine KW.condT rfl (KW.seq (KW.region ?_))
      refine OW.val rfl rfl (EX.assign rfl) ?_
      refine OW.nil ?_
      refine KW.ret (ret1 rfl rfl ?_)
      rw [e]
      exact ⟨rfl, h2.ext (Ext.drewN _ _), t2.trans (Tm.of_ext (Ext.drewN _ _) _ _)⟩
    · skip
      refine QW.val rfl rfl (fun _ => EX.load Try.underlying3 rfl rfl ((hi2.drewN _).cell_of rfl)) ?_
      refine QW.val rfl rfl (fun _ => EX.move rfl) ?_
      refine QW.val rfl rfl (fun _ => EX.nilCheck rfl) ?_
      refine QW.val rfl rfl (fun _ => EX.fieldAddr (off := 0) Try.underlying85 rfl rfl ti3 rfl rfl) ?_
      refine QW.val rfl rfl (fun _ => EX.load Try.underlying3 rfl rfl ((hv.cells.drewN _).cell_of rfl)) ?_
      refine QW.val rfl rfl (fun _ => by first | exact EX.geqN rfl rfl | exact EX.geqZ rfl rfl) ?_
      refine QW.val rfl rfl (fun _ => EX.pickF rfl rfl) ?_
      refine QW.nil (fun nq => ?_)
      refine KW.condD rfl (fun a2 => ?_) (fun a2 => ?_)
      · have e : D.write i s = (D, 191) := by unfold Dv.write; rw [hd, if_neg (by simp), if_pos (.inr a2)]
        refine KW.seq (KW.region ?_)
        refine OW.val rfl rfl (EX.assign rfl) ?_
        refine OW.nil ?_
        refine KW.ret (ret1 rfl rfl ?_)
        rw [e]
        exact ⟨rfl, h2.ext (Ext.drewN _ _), t2.trans (Tm.of_ext (Ext.drewN _ _) _ _)⟩
      · have hr : ¬ (i < 0 ∨ (D.cap : Int) ≤ i) := by omega
        have h3 := h2.ext (Ext.drewN w2 nq)
        have t3 : Tm w (w2.drewN nq) B dty := t2.trans (Tm.of_ext (Ext.drewN _ _) _ _)
        obtain ⟨j, rfl⟩ := Int.eq_ofNat_of_zero_le (show 0 ≤ i by omega)
        refine KW.skip (KW.seq (KW.seq (KW.region ?_)))
        refine OW.val rfl rfl (EX.load Try.underlying9 rfl rfl ((hs2.drewN _).cell_of rfl)) ?_
        refine OW.val rfl rfl (EX.lenS Try.underlying9 rfl) ?_
        refine OW.val rfl rfl (by first | exact EX.neqN (b := 512) rfl rfl | exact EX.neqZ rfl rfl) ?_
        refine OW.nil ?_
        refine KW.condD rfl (fun a3 => ?_) (fun a3 => ?_)
        · have e : D.write (j : Int) s = (D, 2) := by unfold Dv.write; rw [hd, if_neg (by simp), if_neg hr, if_pos a3]
          refine KW.seq (KW.region ?_)
          refine OW.val rfl rfl (EX.assign rfl) ?_
          refine OW.nil ?_
          refine KW.ret (ret1 rfl rfl ?_)
          rw [e]
          exact ⟨rfl, h3, t3⟩
        · have e : D.write (j : Int) s = D.does (some (.write j s)) := by unfold Dv.write; rw [hd, if_neg (by simp), if_neg hr, if_neg a3]; rfl
          refine KW.skip (KW.seq (KW.region ?_))
          refine OW.val rfl rfl (EX.move rfl) ?_
          refine OW.val rfl rfl (EX.makeFunc rfl rfl) ?_
          refine OW.call rfl rfl rfl (does_c h3 hD _ (some (.write j s)) (fun q => by cases q) (fun d q => by cases q; exact ⟨⟨bi, bs, rfl, hi2.drewN _, hs2.drewN _⟩, by omega, by omega⟩) hs.calls hs.pend hs.at_ hs.keep) ?_
          rintro _ w4 ⟨rfl, h4, t4⟩
          refine OW.val rfl rfl (EX.assign rfl) ?_
          refine OW.nil ?_
          refine KW.ret (ret1 rfl rfl ?_)
          rw [e]
          exact ⟨rfl, h4, t3.trans t4⟩
  · have e : D.write i s = (D, 190) := by unfold Dv.write; rw [hd]; rfl
    rw [if_pos rfl]
    refine KW.as 11 (.bool true) rfl (congrArg Value.bool (decide_eq_true (by decide))) ?_
    refine KW.condT rfl (KW.seq (KW.region ?_))
    refine OW.val rfl rfl (EX.move rfl) ?_
    refine OW.val rfl rfl (EX.assign rfl) ?_
    refine OW.nil ?_
    refine KW.ret (ret1 rfl rfl ?_)
    rw [e]
    exact ⟨rfl, h2, t2⟩
theorem plan_d (h : DevAt w B b D) (hD : D.Ok) (a : Int) (i0 : -9223372036854775808 ≤ a) (i1 : a ≤ 9223372036854775807) (A : Option Addr) (c C : Nat) (k : List Bool) (hsl : Sl w C A (boolsV k)) (hA : A = none → boolsV k = []) (hk : k.length ≤ 140737488351232) :
    Ret Try.prog 17 [.pointer (some ⟨b, 0, none⟩), .agg [.int .i64 a, .slice A k.length c].toArray] w fun v w' => v = .int .i64 (((D.plan a k).2 : Nat) : Int) ∧ DevAt w' B b (D.plan a k).1 ∧ Tm w w' B dty := by
  refine Ret.enter Try.func17 rfl Try.ntmps17 (by kernel_rfl) rfl ?_
  refine KW.seq (KW.region ?_)
  refine OW.boxS rfl rfl rfl ?_
  rintro bf w2 hge1 hf2 hx1
  refine OW.val rfl rfl (EX.assign rfl) ?_
  refine OW.nil ?_
  refine KW.seq (KW.seq (KW.region ?_))
  refine OW.val rfl rfl (EX.move rfl) ?_
  have h2 := h.ext hx1
  have t2 : Tm w w2 B dty := Tm.of_ext hx1 B dty
  refine OW.call rfl rfl rfl (alive_d h2 hD) ?_
  rintro _ _ ⟨rfl, rfl⟩
  refine OW.val rfl rfl (EX.assign rfl) ?_
  refine OW.nil ?_
  refine KW.seq (KW.region ?_)
  refine OW.val rfl rfl (EX.move rfl) ?_
  refine OW.val rfl rfl (by first | exact EX.neqN (b := 0) rfl rfl | exact EX.neqZ rfl rfl) ?_
  refine OW.nil ?_
  rcases hd : D.dead with _ | _
  · rw [if_neg (by simp)]
    refine KW.as 9 (.bool false) rfl (congrArg Value.bool (decide_eq_false (by decide))) ?_
    refine KW.condF rfl (KW.skip (KW.seq (KW.seq (KW.region ?_))))
    refine OW.val rfl rfl (EX.fieldAddr (off := 0) Try.underlying45 rfl rfl ti3 rfl rfl) ?_
    refine OW.val rfl rfl (EX.load Try.underlying3 rfl rfl (hf2.cell_of rfl)) ?_
    refine OW.val rfl rfl (by first | exact EX.lssN (b := 0) rfl rfl | exact EX.lssZ rfl rfl) ?_
    refine OW.nil ?_
    refine KW.condD rfl (fun a1 => ?_) (fun a1 => ?_)
    · have e : D.plan a k = (D, 2) := by unfold Dv.plan; rw [hd, if_neg (by simp), if_pos a1]
      refine KW.seq (KW.region ?_)
      refine OW.val rfl rfl (EX.assign rfl) ?_
      refine OW.nil ?_
      refine KW.ret (ret1 rfl rfl ?_)
      rw [e]
      exact ⟨rfl, h2, t2⟩
    · obtain ⟨j, rfl⟩ := Int.eq_ofNat_of_zero_le (show 0 ≤ a by omega)
      have e : D.plan (j : Int) k = ({ D with at_ := j, keep := k }, 0) := by unfold Dv.plan; rw [hd, if_neg (by simp), if_neg a1]; rfl
      have h3 := h2.ext (Ext.drew w2)
      have t3 : Tm w w2.drew B dty := t2.trans (Tm.of_ext (Ext.drew _) _ _)
      obtain ⟨vk, vn, vp, vq, vs, hv⟩ := id h3
      have hclone := cloneT_c A c (boolsV k) _ w2.drew ((hsl.ext hx1).ext (Ext.drew w2)) hA (boolsV_one k) (by rw [boolsV_length]; omega)
      rw [boolsV_length] at hclone
      refine KW.skip (KW.seq ?_)
      refine KW.regionG (N := 10) (fun w' => Bk w' bf 45 [.int .i64 (j : Int), .slice A k.length c]) (by kernel_rfl) rfl ?_
      have hS := hf2.drew
      refine GW.val 0 rfl (by kernel_rfl) (by kernel_rfl) (by kernel_rfl) rfl rfl hS (fun w' hS' => EX.move rfl) ?_
      refine GW.val 1 rfl (by kernel_rfl) (by kernel_rfl) (by kernel_rfl) rfl rfl hS (fun w' hS' => EX.fieldAddr (off := 0) Try.underlying45 rfl rfl ti3 rfl rfl) ?_
      refine GW.val 2 rfl (by kernel_rfl) (by kernel_rfl) (by kernel_rfl) rfl rfl hS (fun w' hS' => EX.load Try.underlying3 rfl rfl (hS'.cell_of rfl)) ?_
      refine GW.val 3 rfl (by kernel_rfl) (by kernel_rfl) (by kernel_rfl) rfl rfl hS (fun w' hS' => EX.fieldAddr (off := 1) Try.underlying45 rfl rfl ti43 rfl rfl) ?_
      refine GW.val 4 rfl (by kernel_rfl) (by kernel_rfl) (by kernel_rfl) rfl rfl hS (fun w' hS' => EX.load Try.underlying43 rfl rfl (hS'.cell_of rfl)) ?_
      refine GW.call 5 rfl (by kernel_rfl) rfl rfl rfl (hclone) ?_
      rintro v7 w7 ⟨hown7, hx7⟩
      refine ⟨hS.ext hx7, fun hS => ?_⟩
      refine GW.val 6 rfl (by kernel_rfl) (by kernel_rfl) (by kernel_rfl) rfl rfl hS (fun w' hS' => EX.buildS (pl := [(0, 1), (1, 1)]) (ks := [0, 1]) (is := [0, 1]) (zs := [.int .i64 0, .slice none 0 0]) Try.underlying45 ti45 (by kernel_rfl) rfl rfl rfl (by first | rfl | (simp only [List.all_cons, List.all_nil, Bool.and_true, Bool.true_and, Bool.and_eq_true, Value.oneCell']; repeat (first | assumption | exact Own.one (by assumption) | constructor))) (by simp only [setAll, List.set_cons_zero, List.set_cons_succ]; rfl)) ?_
      refine GW.val 7 rfl (by kernel_rfl) (by kernel_rfl) (by kernel_rfl) rfl rfl hS (fun w' hS' => EX.nilCheck rfl) ?_
      refine GW.val 8 rfl (by kernel_rfl) (by kernel_rfl) (by kernel_rfl) rfl rfl hS (fun w' hS' => EX.fieldAddr (off := 4) Try.underlying85 rfl rfl ti45 rfl rfl) ?_
      have hd7 := hv.ext hx7
      refine GW.storeS 9 rfl (by kernel_rfl) rfl ti45 rfl rfl rfl (by first | rfl | (simp only [List.all_cons, List.all_nil, Bool.and_true, Bool.true_and, Bool.and_eq_true, Value.oneCell']; repeat (first | assumption | exact Own.one (by assumption) | constructor))) (hd7.cells) (by simp) ?_
      rintro w8 hb8 hm8
      refine ⟨hS.mo hm8 (by simp; exact (hd7.cells.ne hS (by decide)).symm), fun hS => ?_⟩
      refine GW.done (by kernel_rfl) ?_
      refine KW.seq (KW.region ?_)
      refine OW.val rfl rfl (EX.assign rfl) ?_
      refine OW.nil ?_
      refine KW.ret (ret1 rfl rfl ?_)
      rw [e]
      refine ⟨rfl, ⟨_, _, _, _, _, Dev.after (D' := { D with at_ := j, keep := k }) hv.lo hd7.cells hm8 hb8 hd7.kept hd7.now hd7.apart hd7.pend hd7.chs (hown7.base (fun q hq => by have q1 := (hown7.lt q hq).1; have q2 := hv.cells.lt; have q3 := hv.lo; omega))⟩, ?_⟩
      exact (t3.trans (Tm.of_ext hx7 B dty)).trans (Dev.tmD hv.lo hd7.cells hm8)
  · have e : D.plan a k = (D, 190) := by unfold Dv.plan; rw [hd]; rfl
    rw [if_pos rfl]
    refine KW.as 9 (.bool true) rfl (congrArg Value.bool (decide_eq_true (by decide))) ?_
    refine KW.condT rfl (KW.seq (KW.region ?_))
    refine OW.val rfl rfl (EX.move rfl) ?_
    refine OW.val rfl rfl (EX.assign rfl) ?_
    refine OW.nil ?_
    refine KW.ret (ret1 rfl rfl ?_)
    rw [e]
    exact ⟨rfl, h2, t2⟩
end
end Go.Proofs.Ytlpnoogcdnfllaa
/- wal, in plain words: transactions, how they are laid and found. No program is spoken of. -/
namespace Go.Proofs.Ytlpnoogcdnfllaa.Wal
set_option linter.unnecessarySimpa false
open Go.RowKit Rec Pth Dsk
set_option linter.unusedVariables false
set_option linter.unusedSimpArgs false
abbrev By := List UInt8
structure Nt where
  kind : Int
  mem : M
  deriving DecidableEq
def bare (p : By) : M := ⟨p, 0, 0, 0, 0⟩
/-- a note's bytes, if it may be -/
def noteD (n : Nt) : Option By :=
  if n.kind = 1 then (if mayM n.mem then some (memberT n.mem) else none)
  else if n.kind = 2 then (if checkP n.mem.path = 0 ∧ n.mem = bare n.mem.path then some n.mem.path else none)
  else none
def noteB (n : Nt) : By := (noteD n).getD []
def mayN (n : Nt) : Prop := noteD n ≠ none
instance (n : Nt) : Decidable (mayN n) := by unfold mayN; infer_instance
/-- the records of notes, from a place on -/
def recs (gen : Nat) : Nat → List Nt → List By
  | _, [] => []
  | i, n :: l => text n.kind.toNat gen i (noteB n) :: recs gen (i + 1) l
def txs (gen at_ : Nat) (l : List Nt) : List By := recs gen at_ l ++ [text 3 gen (at_ + l.length) [UInt8.ofNat l.length]]
theorem recs_length (gen : Nat) : ∀ (l : List Nt) (i : Nat), (recs gen i l).length = l.length
  | [], _ => rfl
  | n :: l, i => by simp [recs, recs_length gen l]
theorem recs_snoc (gen : Nat) (n : Nt) : ∀ (l : List Nt) (i : Nat), recs gen i (l ++ [n]) = recs gen i l ++ [text n.kind.toNat gen (i + l.length) (noteB n)]
  | [], i => rfl
  | m :: l, i => by
    rw [List.cons_append, recs, recs, recs_snoc gen n l, List.cons_append, List.length_cons, show i + 1 + l.length = i + (l.length + 1) by omega]
/-- what is written, sector by sector -/
def writes : Dv → Nat → List By → Dv × Nat
  | D, _, [] => (D, 0)
  | D, i, s :: l => if (D.write i s).2 = 0 then writes (D.write i s).1 (i + 1) l else D.write i s
def badW (gen at_ : Int) (n : Nat) : Prop := gen < 0 ∨ 4611686018427387904 < gen ∨ at_ < 0 ∨ 20 < at_ ∨ n = 0 ∨ 20 - at_ ≤ n
instance (gen at_ : Int) (n : Nat) : Decidable (badW gen at_ n) := by unfold badW; infer_instance
def appendW (D : Dv) (gen at_ : Int) (l : List Nt) : Dv × Int × Nat :=
  if badW gen at_ l.length ∨ ∃ n ∈ l, ¬ mayN n then (D, 0, 210)
  else
    let r := writes D (10 + at_.toNat) (txs gen.toNat at_.toNat l)
    if r.2 = 0 then (if r.1.sync.2 = 0 then (r.1.sync.1, at_ + l.length + 1, 0) else (r.1.sync.1, 0, r.1.sync.2)) else (r.1, 0, r.2)
/-! ### Finding -/
def noteOf (x : R) : Option Nt :=
  if x.kind = 1 then (if (memL (x.data.length + 1) x.data []).2 = 0 ∧ (memL (x.data.length + 1) x.data []).1.length = 1 then some ⟨1, (memL (x.data.length + 1) x.data []).1.getD 0 (bare [])⟩ else none)
  else if x.kind = 2 then (if checkP x.data = 0 then some ⟨2, bare x.data⟩ else none)
  else none
def sec (s : By) (i : Nat) : By := (s.drop (i * 512)).take 512
/-- replay, from a sector on: 'rd' are the sectors of the log, 'm' how many of them there are -/
def rep (gen : Int) (rd : Nat → By) (m : Nat) : Nat → Nat → List Nt → List (List Nt) → Nat → List (List Nt) × Nat
  | 0, _, _, out, b => (out, b)
  | f + 1, i, op, out, b =>
    if i < m then
      let x := decodeR (rd i)
      if x.2 ≠ 0 ∨ x.1.gen ≠ gen ∨ x.1.index ≠ i then (out, b)
      else if x.1.kind = 3 then (if op = [] ∨ x.1.data ≠ [UInt8.ofNat op.length] then (out, b) else rep gen rd m f (i + 1) [] (out ++ [op]) (i + 1))
      else match noteOf x.1 with
        | some n => rep gen rd m f (i + 1) (op ++ [n]) out b
        | none => (out, b)
    else (out, b)
/-- how many sectors of the log a text of sectors has -/
def logN (s : By) : Nat := min 20 (s.length / 512 - 10)
def replay (s : By) (gen : Int) : List (List Nt) × Nat := rep gen (fun i => sec s (10 + i)) (logN s) 21 0 [] [] 0
def badG (gen : Int) : Prop := gen < 0 ∨ 4611686018427387904 < gen
instance (gen : Int) : Decidable (badG gen) := by unfold badG; infer_instance
def replayD (D : Dv) (gen : Int) : (List (List Nt) × Nat) × Nat := if badG gen then (([], 0), 210) else if D.dead then (([], 0), 190) else (replay D.now gen, 0)
/-! ### Sectors of texts -/
theorem sec_length {s : By} {i : Nat} (h : (i + 1) * 512 ≤ s.length) : (sec s i).length = 512 := by
  unfold sec
  rw [List.length_take, List.length_drop]
  omega
theorem blk_put {s t : By} {a b n : Nat} (ht : t.length = n) (ha : a + n ≤ s.length) (h : b + n ≤ a ∨ b = a ∨ a + n ≤ b) : ((s.take a ++ t ++ s.drop (a + n)).drop b).take n = if b = a then t else (s.drop b).take n := by
  have l1 : (s.take a).length = a := by rw [List.length_take]; omega
  rcases h with h1 | h1 | h1
  · by_cases h2 : b = a
    · have : n = 0 := by omega
      subst this
      rw [if_pos h2, List.take_zero, List.eq_nil_of_length_eq_zero ht]
    · rw [if_neg h2, List.append_assoc, List.drop_append_of_le_length (by omega), List.take_append_of_le_length (by rw [List.length_drop]; omega), List.drop_take, List.take_take, Nat.min_eq_left (by omega)]
  · subst h1
    rw [if_pos rfl, List.append_assoc, List.drop_left' l1, List.take_left' ht]
  · have l2 : (s.take a ++ t).length = a + n := by rw [List.length_append, l1, ht]
    have e : (s.take a ++ t ++ s.drop (a + n)).drop b = s.drop b := by
      rw [List.drop_append, List.drop_eq_nil_of_le (by omega), List.nil_append, List.drop_drop, l2, show a + n + (b - (a + n)) = b by omega]
    rw [e]
    by_cases h2 : b = a
    · have : n = 0 := by omega
      subst this
      rw [if_pos h2, List.take_zero, List.eq_nil_of_length_eq_zero ht]
    · rw [if_neg h2]
theorem sec_put {s t : By} {i j : Nat} (h : (i + 1) * 512 ≤ s.length) (ht : t.length = 512) : sec (s.take (i * 512) ++ t ++ s.drop (i * 512 + 512)) j = if j = i then t else sec s j := by
  have e := blk_put (s := s) (a := i * 512) (b := j * 512) ht (by omega) (by omega)
  unfold sec
  rw [e]
  by_cases h1 : j = i
  · rw [if_pos h1, if_pos (by rw [h1])]
  · rw [if_neg h1, if_neg (by omega)]
theorem ap_write (i : Nat) (t s : By) : (Ch.write i t).ap s = (s ++ zeros ((i + 1) * 512 - s.length)).take (i * 512) ++ t ++ (s ++ zeros ((i + 1) * 512 - s.length)).drop (i * 512 + t.length) := rfl
theorem sec_write {s t : By} {i j : Nat} (hm : s.length % 512 = 0) (ht : t.length = 512) (hj : j = i ∨ j < s.length / 512) : sec ((Ch.write i t).ap s) j = if j = i then t else sec s j := by
  have hz : ∀ z : By, sec s j = sec (s ++ z) j ∨ ¬ j < s.length / 512 := fun z => by
    by_cases h : j < s.length / 512
    · left
      unfold sec
      rw [List.drop_append_of_le_length (by omega), List.take_append_of_le_length (by rw [List.length_drop]; omega)]
    · exact .inr h
  have e := sec_put (s := s ++ zeros ((i + 1) * 512 - s.length)) (i := i) (j := j) (by rw [List.length_append, zeros_length]; omega) ht
  rw [ap_write, ht, e]
  split
  · rfl
  · rename_i h
    rcases hz (zeros ((i + 1) * 512 - s.length)) with h1 | h1
    · exact h1.symm
    · exact absurd (hj.resolve_left h) h1
theorem len_write {s t : By} {i : Nat} (ht : t.length = 512) (hm : s.length % 512 = 0) : ((Ch.write i t).ap s).length = max s.length ((i + 1) * 512) := by
  rw [ap_write]
  simp only [List.length_append, List.length_take, List.length_drop, zeros_length, ht]
  omega
/-! ### Records are found as they were laid -/
theorem check_len {s : By} (h1 : checkP s = 0) : s.length ≤ 120 := by
  unfold checkP at h1
  split at h1
  · rename_i e
    unfold cleanP at e
    split at e
    · rename_i h2
      simp only [Prod.mk.injEq, and_true] at e
      rw [e] at h2
      exact h2.2.2.2
    · simp at e
  · simp at h1
theorem noteB_len {n : Nt} (h : mayN n) : (noteB n).length ≤ 131 ∧ (n.kind = 1 ∨ n.kind = 2) := by
  unfold mayN at h
  unfold noteB
  unfold noteD at h ⊢
  by_cases h1 : n.kind = 1
  · rw [if_pos h1] at h ⊢
    by_cases h2 : mayM n.mem
    · rw [if_pos h2]
      have := may_path h2
      exact ⟨by show (memberT n.mem).length ≤ _; rw [memberT_length]; omega, .inl h1⟩
    · rw [if_neg h2] at h
      exact absurd rfl h
  · rw [if_neg h1] at h ⊢
    by_cases h2 : n.kind = 2
    · rw [if_pos h2] at h ⊢
      by_cases h3 : checkP n.mem.path = 0 ∧ n.mem = bare n.mem.path
      · rw [if_pos h3]
        have := check_len h3.1
        exact ⟨by show n.mem.path.length ≤ _; omega, .inr h2⟩
      · rw [if_neg h3] at h
        exact absurd rfl h
    · rw [if_neg h2] at h
      exact absurd rfl h
theorem noteOf_back {n : Nt} (h : mayN n) (hs : n.mem.sum ≤ 4294967295) (g i : Int) : noteOf ⟨n.kind.toNat, g, i, noteB n⟩ = some n := by
  unfold mayN at h
  unfold noteB
  unfold noteD at h ⊢
  obtain ⟨k, m⟩ := n
  simp only at h hs ⊢
  by_cases h1 : k = 1
  · subst h1
    rw [if_pos rfl] at h ⊢
    by_cases h2 : mayM m
    · rw [if_pos h2]
      have e := memL_back [m] ((memberT m).length + 1) [] (fun x hx => by rw [List.mem_singleton.1 hx]; exact ⟨h2, hs⟩) (by simp [allT])
      have e2 : allT [m] = memberT m := by simp [allT]
      rw [e2] at e
      have e3 : noteOf ⟨1, g, i, memberT m⟩ = some ⟨1, m⟩ := by
        unfold noteOf
        simp only [if_true]
        rw [e]
        rfl
      exact e3
    · rw [if_neg h2] at h
      exact absurd rfl h
  · rw [if_neg h1] at h ⊢
    by_cases h2 : k = 2
    · subst h2
      rw [if_pos rfl] at h ⊢
      by_cases h3 : checkP m.path = 0 ∧ m = bare m.path
      · rw [if_pos h3]
        have e3 : noteOf ⟨2, g, i, m.path⟩ = some ⟨2, m⟩ := by
          unfold noteOf
          simp only [if_true]
          rw [if_neg (by decide), if_pos h3.1, ← h3.2]
        exact e3
      · rw [if_neg h3] at h
        exact absurd rfl h
    · rw [if_neg h2] at h
      exact absurd rfl h
/-- a record that is read again -/
structure Rd (s : By) (k : Nat) (g i : Nat) (d : By) : Prop where
  eq : decodeR s = (⟨k, g, i, d⟩, 0)
theorem rd_text {k g i : Nat} {d : By} (hk : 1 ≤ k ∧ k ≤ 255) (hg : g ≤ 4611686018427387904) (hi : i ≤ 2147483647) (hd : d.length ≤ 486) : Rd (text k g i d) k g i d := by
  refine ⟨?_⟩
  have hb : ¬ bad k (g : Int) (i : Int) d := by unfold bad; omega
  have e : encodeR k (g : Int) (i : Int) d = (text k g i d, 0) := by
    unfold encodeR
    rw [if_neg hb]
    rfl
  exact dec_enc hk.2 e
section
variable {gen : Nat} {rd : Nat → By} {m : Nat}
theorem rep_note {f i : Nat} {op : List Nt} {out : List (List Nt)} {b : Nat} {n : Nt} (hn : mayN n) (hs : n.mem.sum ≤ 4294967295) (hr : Rd (rd i) n.kind.toNat gen i (noteB n)) (hi : i < m) :
    rep gen rd m (f + 1) i op out b = rep gen rd m f (i + 1) (op ++ [n]) out b := by
  have hk := (noteB_len hn).2
  rw [rep, if_pos hi, hr.eq]
  simp only
  rw [if_neg (by simp), if_neg (by omega), noteOf_back hn hs]
theorem rep_end {f i : Nat} {op : List Nt} {out : List (List Nt)} {b : Nat} (ho : op ≠ []) (hr : Rd (rd i) 3 gen i [UInt8.ofNat op.length]) (hi : i < m) :
    rep gen rd m (f + 1) i op out b = rep gen rd m f (i + 1) [] (out ++ [op]) (i + 1) := by
  rw [rep, if_pos hi, hr.eq]
  simp only
  rw [if_neg (by simp), if_pos trivial, if_neg (by simp [ho])]
theorem rep_over {f i : Nat} {op : List Nt} {out : List (List Nt)} {b : Nat} (hi : m ≤ i) : rep gen rd m f i op out b = (out, b) := by
  cases f with
  | zero => rfl
  | succ f => rw [rep, if_neg (by omega)]
theorem rep_other {f i : Nat} {op : List Nt} {out : List (List Nt)} {b : Nat} (h : ((decodeR (rd i)).1.gen ≠ gen)) : rep gen rd m f i op out b = (out, b) := by
  cases f with
  | zero => rfl
  | succ f =>
    rw [rep]
    split
    · simp only
      rw [if_pos (.inr (.inl h))]
    · rfl
/-- notes that may be, in short -/
def Good (l : List Nt) : Prop := ∀ n ∈ l, mayN n ∧ n.mem.sum ≤ 4294967295
theorem rd_recs {g : Nat} (hg : g ≤ 4611686018427387904) : ∀ (l : List Nt) (i : Nat), Good l → i + l.length ≤ 2147483647 → ∀ k (hk : k < l.length), Rd ((recs g i l).getD k []) (l[k]).kind.toNat g (i + k) (noteB l[k])
  | [], i, _, _, k, hk => by simp at hk
  | n :: l, i, hl, hi, 0, hk => by
    have h := noteB_len (hl n (by simp)).1
    simp only [List.length_cons] at hi
    exact rd_text (by omega) hg (by omega) (by omega)
  | n :: l, i, hl, hi, k + 1, hk => by
    have h := rd_recs hg l (i + 1) (fun x hx => hl x (by simp [hx])) (by simp only [List.length_cons] at hi; omega) k (by simpa using hk)
    rw [show i + 1 + k = i + (k + 1) by omega] at h
    exact h
theorem rep_recs : ∀ (l : List Nt) (f i : Nat) (op : List Nt) (out : List (List Nt)) (b : Nat), Good l → (∀ k (hk : k < l.length), Rd (rd (i + k)) (l[k]).kind.toNat gen (i + k) (noteB l[k])) → i + l.length ≤ m →
    rep gen rd m (f + l.length) i op out b = rep gen rd m f (i + l.length) (op ++ l) out b
  | [], f, i, op, out, b, _, _, _ => by simp
  | n :: l, f, i, op, out, b, hl, hr, hm => by
    simp only [List.length_cons] at hm
    have h0 : Rd (rd i) n.kind.toNat gen i (noteB n) := hr 0 (by simp)
    have ih := rep_recs l f (i + 1) (op ++ [n]) out b (fun x hx => hl x (by simp [hx])) (fun k hk => by
      have := hr (k + 1) (by simp; omega)
      rw [show i + (k + 1) = i + 1 + k by omega] at this
      exact this) (by omega)
    rw [List.length_cons, ← Nat.add_assoc, rep_note (hl n (by simp)).1 (hl n (by simp)).2 h0 (by omega), ih, List.append_assoc, show i + 1 + l.length = i + (l.length + 1) by omega]
    rfl
theorem txs_length (g i : Nat) (l : List Nt) : (txs g i l).length = l.length + 1 := by simp [txs, recs_length]
theorem txs_note (g i : Nat) (l : List Nt) {k : Nat} (h : k < l.length) : (txs g i l).getD k [] = (recs g i l).getD k [] := by
  unfold txs
  simp only [List.getD_eq_getElem?_getD]
  rw [List.getElem?_append_left (by rw [recs_length]; exact h)]
theorem txs_end (g i : Nat) (l : List Nt) : (txs g i l).getD l.length [] = text 3 g (i + l.length) [UInt8.ofNat l.length] := by
  unfold txs
  simp only [List.getD_eq_getElem?_getD]
  rw [List.getElem?_append_right (by rw [recs_length]; exact Nat.le_refl _), recs_length, Nat.sub_self]
  rfl
theorem rep_tx {l : List Nt} {f i : Nat} {out : List (List Nt)} {b : Nat} (hg : gen ≤ 4611686018427387904) (hl : Good l) (hne : l ≠ []) (hr : ∀ k, k < l.length + 1 → rd (i + k) = (txs gen i l).getD k []) (hm : i + l.length + 1 ≤ m) (hm2 : m ≤ 20) :
    rep gen rd m (f + (l.length + 1)) i [] out b = rep gen rd m f (i + l.length + 1) [] (out ++ [l]) (i + l.length + 1) := by
  rw [show f + (l.length + 1) = (f + 1) + l.length by omega, rep_recs l (f + 1) i [] out b hl (fun k hk => by
    rw [hr k (by omega), txs_note gen i l hk]
    exact rd_recs hg l i hl (by omega) k hk) (by omega), List.nil_append]
  refine rep_end hne ?_ (by omega)
  rw [hr l.length (by omega), txs_end]
  exact rd_text (by decide) hg (by omega) (by simp)
/-! ### Many transactions -/
def lay (g : Nat) : Nat → List (List Nt) → List By
  | _, [] => []
  | i, l :: ls => txs g i l ++ lay g (i + l.length + 1) ls
def total (ls : List (List Nt)) : Nat := (ls.map (fun l => l.length + 1)).sum
theorem total_cons (l : List Nt) (ls : List (List Nt)) : total (l :: ls) = l.length + 1 + total ls := by simp [total]
theorem lay_length (g : Nat) : ∀ (ls : List (List Nt)) (i : Nat), (lay g i ls).length = total ls
  | [], _ => rfl
  | l :: ls, i => by rw [lay, List.length_append, txs_length, lay_length g ls, total_cons]
theorem lay_snoc (g : Nat) (l : List Nt) : ∀ (ls : List (List Nt)) (i : Nat), lay g i (ls ++ [l]) = lay g i ls ++ txs g (i + total ls) l
  | [], i => by simp [lay, total]
  | x :: ls, i => by
    rw [List.cons_append, lay, lay, lay_snoc g l ls, total_cons, List.append_assoc, show i + x.length + 1 + total ls = i + (x.length + 1 + total ls) by omega]
def Goods (ls : List (List Nt)) : Prop := ∀ l ∈ ls, Good l ∧ l ≠ []
theorem rep_all (hg : gen ≤ 4611686018427387904) (hm2 : m ≤ 20) : ∀ (ls : List (List Nt)) (f i : Nat) (out : List (List Nt)) (b : Nat), Goods ls → (∀ k, k < total ls → rd (i + k) = (lay gen i ls).getD k []) → i + total ls ≤ m →
    rep gen rd m (f + total ls) i [] out b = rep gen rd m f (i + total ls) [] (out ++ ls) (if ls = [] then b else i + total ls)
  | [], f, i, out, b, _, _, _ => by simp [total]
  | l :: ls, f, i, out, b, hl, hr, hm => by
    rw [total_cons] at hm hr
    have h1 := hl l (by simp)
    have ih := rep_all hg hm2 ls f (i + l.length + 1) (out ++ [l]) (i + l.length + 1) (fun x hx => hl x (by simp [hx])) (fun k hk => by
      have := hr (l.length + 1 + k) (by omega)
      rw [lay, List.getD_eq_getElem?_getD, List.getElem?_append_right (by rw [txs_length]; omega), txs_length, show l.length + 1 + k - (l.length + 1) = k by omega, show i + (l.length + 1 + k) = i + l.length + 1 + k by omega] at this
      rw [this, List.getD_eq_getElem?_getD]) (by omega)
    have e1 : out ++ [l] ++ ls = out ++ l :: ls := by simp
    have e2 : (if ls = [] then i + l.length + 1 else i + l.length + 1 + total ls) = i + (l.length + 1 + total ls) := by
      by_cases e : ls = []
      · subst e
        rw [if_pos rfl]
        simp [total]
        omega
      · rw [if_neg e]
        omega
    have e3 : i + l.length + 1 + total ls = i + (l.length + 1 + total ls) := by omega
    rw [total_cons, show f + (l.length + 1 + total ls) = (f + total ls) + (l.length + 1) by omega, rep_tx hg h1.1 h1.2 (fun k hk => by
      rw [hr k (by omega), lay]
      simp only [List.getD_eq_getElem?_getD]
      rw [List.getElem?_append_left (by rw [txs_length]; exact hk)]) (by omega) hm2, ih, e1, e2, e3, if_neg (List.cons_ne_nil _ _)]
end
end Go.Proofs.Ytlpnoogcdnfllaa.Wal
/- disk: devices are made; what the document fixes. -/
namespace Go.Proofs.Ytlpnoogcdnfllaa
set_option linter.unnecessarySimpa false
set_option linter.unusedSimpArgs false
open Go.RowKit Dsk
set_option linter.unusedVariables false

def _root_.Go.Proofs.Ytlpnoogcdnfllaa.Dsk.fresh (cap : Nat) (s : List UInt8) : Dv := { cap := cap, kept := s, now := s, pend := [], at_ := 0, keep := [], dead := false, calls := 0 }
theorem fresh_ok {cap : Nat} {s : List UInt8} (h : 1 ≤ cap ∧ cap ≤ 4096) (h1 : s.length % 512 = 0) (h2 : s.length / 512 ≤ cap) : (fresh cap s).Ok :=
  ⟨h, by show s.length ≤ 512 * cap; omega, by show s.length ≤ 512 * cap; omega, h1, h1, fun c hc => by simp [fresh] at hc⟩
theorem fresh_small (cap : Nat) (s : List UInt8) : Small (fresh cap s) := ⟨by simp [fresh], by simp [fresh], by simp [fresh], by simp [fresh]⟩
/-- may a device with these sectors be? -/
def _root_.Go.Proofs.Ytlpnoogcdnfllaa.Dsk.may (c : Int) (s : List UInt8) : Prop := 1 ≤ c ∧ c ≤ 4096 ∧ s.length % 512 = 0 ∧ ((s.length / 512 : Nat) : Int) ≤ c
theorem Own.ofBytes {w : World} {B g cap : Nat} {s : List UInt8} {rs : List Value} (hb : Bk w g 5 (bytesV s ++ rs)) (hB : B ≤ g) (hc : s.length ≤ cap) (hm : cap ≤ maxLen) (hl : s.length + rs.length = cap) : Own w B 5 1 (.slice (some ⟨g, 0, none⟩) s.length cap) s.length (bytesV s) :=
  ⟨by simp [bytesV], .inr ⟨g, cap, rs, rfl, hB, hb, by rw [bytesV_length]; omega, hc, hm⟩⟩
theorem load_s (c : Int) (c0 : -9223372036854775808 ≤ c) (c1 : c ≤ 9223372036854775807) (s : List UInt8) (hs : s.length ≤ 140737488355328) (w : World) :
    Ret Try.prog 12 [.int .i64 c, str s] w fun v w' => ∃ (p : Value) (e : Nat), v = .tuple #[p, .int .i64 (e : Int)] ∧ Ext w w' ∧ ((¬ may c s ∧ p = .pointer none ∧ e = 2) ∨ (may c s ∧ ∃ b, p = .pointer (some ⟨b, 0, none⟩) ∧ e = 0 ∧ DevAt w' w.heap.size b (fresh c.toNat s))) := by
  refine Ret.enter Try.func12 rfl Try.ntmps12 (by kernel_rfl) rfl ?_
  refine KW.seq (KW.region ?_)
  refine OW.val rfl rfl (EX.assign rfl) ?_
  refine OW.val rfl rfl (EX.assign rfl) ?_
  refine OW.nil ?_
  refine KW.seq (KW.seq ?_)
  refine KW.cut1 (fun (_u : Unit) => True) (fun (_u : Unit) => [(0, .int .i64 (c : Int)), (1, str (s)), (24, .bool (decide (¬ (1 ≤ c ∧ c ≤ 4096 ∧ s.length % 512 = 0 ∧ ((s.length / 512 : Nat) : Int) ≤ c))))]) (fun (_u : Unit) => w) ?_ ?_
  · refine KW.region ?_
    refine OW.val rfl rfl (EX.move rfl) ?_
    refine OW.val rfl rfl (by first | exact EX.lssN (b := 1) rfl rfl | exact EX.lssZ rfl rfl) ?_
    refine OW.val rfl rfl (EX.move rfl) ?_
    refine OW.splitD 8 rfl (fun a1 => ?_) (fun a1 => ?_)
    · refine OW.pass rfl rfl ?_
      refine OW.pass rfl rfl ?_
      refine OW.val rfl rfl (EX.pickT rfl rfl) ?_
      refine OW.val rfl rfl (EX.move rfl) ?_
      refine OW.pass rfl rfl ?_
      refine OW.pass rfl rfl ?_
      refine OW.pass rfl rfl ?_
      refine OW.pass rfl rfl ?_
      refine OW.val rfl rfl (EX.pickT rfl rfl) ?_
      refine OW.val rfl rfl (EX.move rfl) ?_
      refine OW.pass rfl rfl ?_
      refine OW.pass rfl rfl ?_
      refine OW.pass rfl rfl ?_
      refine OW.pass rfl rfl ?_
      refine OW.pass rfl rfl ?_
      refine OW.val rfl rfl (EX.pickT rfl rfl) ?_
      refine OW.nil ?_
      refine KW.as 24 (.bool (decide (¬ (1 ≤ c ∧ c ≤ 4096 ∧ s.length % 512 = 0 ∧ ((s.length / 512 : Nat) : Int) ≤ c)))) rfl (by rw [decide_eq_true]; omega) ?_
      refine KW.meet1 (()) ⟨rfl, rfl, rfl, trivial⟩ rfl ?_
      trivial
    · refine OW.val rfl rfl (EX.move rfl) ?_
      refine OW.val rfl rfl (by first | exact EX.gtrN (b := 4096) rfl rfl | exact EX.gtrZ rfl rfl) ?_
      refine OW.val rfl rfl (EX.pickF rfl rfl) ?_
      refine OW.val rfl rfl (EX.move rfl) ?_
      refine OW.splitD 12 rfl (fun a2 => ?_) (fun a2 => ?_)
      · refine OW.pass rfl rfl ?_
        refine OW.pass rfl rfl ?_
        refine OW.pass rfl rfl ?_
        refine OW.pass rfl rfl ?_
        refine OW.val rfl rfl (EX.pickT rfl rfl) ?_
        refine OW.val rfl rfl (EX.move rfl) ?_
        refine OW.pass rfl rfl ?_
        refine OW.pass rfl rfl ?_
        refine OW.pass rfl rfl ?_
        refine OW.pass rfl rfl ?_
        refine OW.pass rfl rfl ?_
        refine OW.val rfl rfl (EX.pickT rfl rfl) ?_
        refine OW.nil ?_
        refine KW.as 24 (.bool (decide (¬ (1 ≤ c ∧ c ≤ 4096 ∧ s.length % 512 = 0 ∧ ((s.length / 512 : Nat) : Int) ≤ c)))) rfl (by rw [decide_eq_true]; omega) ?_
        refine KW.meet1 (()) ⟨rfl, rfl, rfl, trivial⟩ rfl ?_
        trivial
      · refine OW.val rfl rfl (EX.move rfl) ?_
        refine OW.val rfl rfl (EX.lenS Try.underlying9 rfl) ?_
        refine OW.val rfl rfl (EX.remN (b := 512) rfl rfl (by omega)) ?_
        refine OW.val rfl rfl (by first | exact EX.neqN (b := 0) rfl rfl | exact EX.neqZ rfl rfl) ?_
        refine OW.val rfl rfl (EX.pickF rfl rfl) ?_
        refine OW.val rfl rfl (EX.move rfl) ?_
        refine OW.splitD 18 rfl (fun a3 => ?_) (fun a3 => ?_)
        · refine OW.pass rfl rfl ?_
          refine OW.pass rfl rfl ?_
          refine OW.pass rfl rfl ?_
          refine OW.pass rfl rfl ?_
          refine OW.pass rfl rfl ?_
          refine OW.val rfl rfl (EX.pickT rfl rfl) ?_
          refine OW.nil ?_
          refine KW.as 24 (.bool (decide (¬ (1 ≤ c ∧ c ≤ 4096 ∧ s.length % 512 = 0 ∧ ((s.length / 512 : Nat) : Int) ≤ c)))) rfl (by rw [decide_eq_true]; omega) ?_
          refine KW.meet1 (()) ⟨rfl, rfl, rfl, trivial⟩ rfl ?_
          trivial
        · refine OW.val rfl rfl (EX.move rfl) ?_
          refine OW.val rfl rfl (EX.lenS Try.underlying9 rfl) ?_
          refine OW.val rfl rfl (EX.quoN (b := 512) (m := 9223372036854775807) rfl rfl rfl (by omega)) ?_
          refine OW.val rfl rfl (EX.move rfl) ?_
          refine OW.val rfl rfl (by first | exact EX.gtrN rfl rfl | exact EX.gtrZ rfl rfl) ?_
          refine OW.val rfl rfl (EX.pickF rfl rfl) ?_
          refine OW.nil ?_
          refine KW.as 24 (.bool (decide (¬ (1 ≤ c ∧ c ≤ 4096 ∧ s.length % 512 = 0 ∧ ((s.length / 512 : Nat) : Int) ≤ c)))) rfl (congrArg Value.bool (decide_eq_decide.2 (by omega))) ?_
          refine KW.meet1 (()) ⟨rfl, rfl, rfl, trivial⟩ rfl ?_
          trivial
  · rintro _ _
    refine KW.condD rfl (fun hm => ?_) (fun hm => ?_)
    · refine KW.seq (KW.region ?_)
      refine OW.val rfl rfl (EX.assign rfl) ?_
      refine OW.val rfl rfl (EX.assign rfl) ?_
      refine OW.nil ?_
      refine KW.ret (ret2 rfl rfl rfl ?_)
      exact ⟨_, 2, rfl, Ext.refl _, .inl ⟨hm, rfl, rfl⟩⟩
    · have hmay : may c s := Classical.not_not.1 hm
      obtain ⟨m1, m2, m3, m4⟩ := id hmay
      obtain ⟨j, rfl⟩ := Int.eq_ofNat_of_zero_le (show 0 ≤ c by omega)
      refine KW.skip (KW.seq (KW.region ?_))
      refine OW.val rfl rfl (EX.move rfl) ?_
      refine OW.val rfl rfl (EX.move rfl) ?_
      refine OW.bytesOf rfl rfl Try.underlying9 Try.underlying80 Try.underlying5 rfl (by omega) ?_
      rintro cp rs w1 hb1 hc1 hm1 hl1 hx1
      refine OW.val rfl rfl (EX.move rfl) ?_
      refine OW.bytesOf rfl rfl Try.underlying9 Try.underlying80 Try.underlying5 rfl (by omega) ?_
      rintro cp2 rs2 w2 hb2 hc2 hm2 hl2 hx2
      refine OW.val rfl rfl (EX.buildS (pl := [(0, 1), (1, 1), (2, 1), (3, 1), (4, 2), (6, 1), (7, 1)]) (ks := [0, 1, 2]) (is := [0, 1, 2]) (zs := [.int .i64 0, .slice none 0 0, .slice none 0 0, .slice none 0 0, .int .i64 0, .slice none 0 0, .bool false, .int .i64 0]) Try.underlying85 ti85 (by kernel_rfl) rfl rfl rfl (by first | rfl | (simp only [List.all_cons, List.all_nil, Bool.and_true, Bool.true_and, Bool.and_eq_true, Value.oneCell']; repeat (first | assumption | exact Own.one (by assumption) | constructor))) (by simp only [setAll, List.set_cons_zero, List.set_cons_succ]; rfl)) ?_
      refine OW.boxS rfl rfl rfl ?_
      rintro b w3 hge hb3 hx3
      refine OW.val rfl rfl (EX.assign rfl) ?_
      refine OW.val rfl rfl (EX.assign rfl) ?_
      refine OW.nil ?_
      refine KW.ret (ret2 rfl rfl rfl ?_)
      have e1 := Own.ofBytes hb1 (Nat.le_refl _) hc1 hm1 hl1
      have z1 := hx1.size
      have z2 := hx2.size
      have e2 : Own w2 w.heap.size 5 1 _ _ _ := Own.ofBytes hb2 z1 hc2 hm2 hl2
      have l1 := hb1.lt
      refine ⟨_, 0, rfl, (hx1.trans hx2).trans hx3, .inr ⟨hmay, b, rfl, rfl, _, _, _, _, [], ⟨by omega, hb3, (e1.ext hx2).ext hx3, e2.ext hx3, ?_, Own.nil _ _ _ _, trivial, Own.nil _ _ _ _⟩⟩⟩
      intro k hk hk'
      simp [Value.ownBlock] at hk hk'
      omega
theorem new_s (c : Int) (c0 : -9223372036854775808 ≤ c) (c1 : c ≤ 9223372036854775807) (w : World) :
    Ret Try.prog 20 [.int .i64 c] w fun v w' => ∃ (p : Value) (e : Nat), v = .tuple #[p, .int .i64 (e : Int)] ∧ Ext w w' ∧ ((¬ may c [] ∧ p = .pointer none ∧ e = 2) ∨ (may c [] ∧ ∃ b, p = .pointer (some ⟨b, 0, none⟩) ∧ e = 0 ∧ DevAt w' w.heap.size b (fresh c.toNat []))) := by
  refine Ret.enter Try.func20 rfl Try.ntmps20 (by kernel_rfl) rfl ?_
  refine KW.seq (KW.region ?_)
  refine OW.val rfl rfl (EX.assign rfl) ?_
  refine OW.val rfl rfl (EX.assign rfl) ?_
  refine OW.nil ?_
  refine KW.seq (KW.region ?_)
  refine OW.val rfl rfl (EX.move rfl) ?_
  refine OW.call rfl rfl rfl (load_s c c0 c1 [] (by simp) w) ?_
  rintro _ w1 ⟨p, e, rfl, hx, hor⟩
  refine OW.val rfl rfl (EX.extract rfl rfl) ?_
  refine OW.val rfl rfl (EX.extract rfl rfl) ?_
  refine OW.val rfl rfl (EX.assign rfl) ?_
  refine OW.val rfl rfl (EX.assign rfl) ?_
  refine OW.nil ?_
  refine KW.ret (ret2 rfl rfl rfl ?_)
  exact ⟨p, e, rfl, hx, hor⟩
theorem rep_set (i n b : Nat) (h : i < n) : (List.replicate i (Value.int .u8 (b : Int)) ++ List.replicate (n - i) (Value.int .u8 0)).set i (.int .u8 (b : Int)) = List.replicate (i + 1) (Value.int .u8 (b : Int)) ++ List.replicate (n - (i + 1)) (Value.int .u8 0) := by
  rw [List.set_append_right _ _ (by simp), List.length_replicate, Nat.sub_self, show n - i = (n - (i + 1)) + 1 by omega, List.replicate_succ, List.set_cons_zero, List.replicate_succ']
  simp
/-! ### Every method leaves a device whole -/
section
variable {D : Dv}
theorem write_ok (h : D.Ok) (i : Int) (s : List UInt8) : (D.write i s).1.Ok := by
  unfold Dv.write
  split
  · exact h
  · split
    · exact h
    · split
      · exact h
      · rename_i h1 h2
        refine does_ok h fun d hd => ?_
        cases hd
        exact ⟨by omega, by simpa using h2⟩
theorem cut_ok (h : D.Ok) (i : Int) : (D.cut i).1.Ok := by
  have hn := h.now
  unfold Dv.cut
  split
  · exact h
  · split
    · exact h
    · rename_i h1
      refine does_ok h fun d hd => ?_
      cases hd
      show i.toNat ≤ D.cap
      omega
theorem sync_ok (h : D.Ok) : D.sync.1.Ok := by
  unfold Dv.sync
  split
  · exact h
  · exact does_ok h fun d hd => by cases hd
theorem plan_ok (h : D.Ok) (a : Int) (k : List Bool) : (D.plan a k).1.Ok := by
  unfold Dv.plan
  split
  · exact h
  · split
    · exact h
    · exact ⟨h.cap, h.kept, h.now, h.keptM, h.nowM, h.pend⟩
theorem up_ok (h : D.Ok) : ({ D with dead := false } : Dv).Ok := ⟨h.cap, h.kept, h.now, h.keptM, h.nowM, h.pend⟩
end
/-! ### What the document fixes -/
def A0 : Dv := fresh 4 []
def A1 : Dv := (A0.write 2 (sector 120 false)).1
def A2 : Dv := A1.sync.1
def A3 : Dv := (A2.write 4 (sector 120 false)).1
def A4 : Dv := (A3.plan 2 [false, true]).1
def A5 : Dv := (A4.write 2 (sector 121 false)).1
def A6 : Dv := (A5.write 0 (sector 121 false)).1
def A7 : Dv := { A6 with dead := false }
theorem sector_length (q : Nat) : (sector q false).length = 512 := by unfold sector; rw [List.length_replicate]; rfl
theorem e1 : (A0.write 2 (sector 120 false)).1 = A1 := rfl
theorem e2 : A1.sync.1 = A2 := rfl
theorem e3 : (A2.write 4 (sector 120 false)).1 = A3 := rfl
theorem e4 : (A3.plan 2 [false, true]).1 = A4 := rfl
theorem e5 : (A4.write 2 (sector 121 false)).1 = A5 := rfl
theorem e6 : (A5.write 0 (sector 121 false)).1 = A6 := rfl
theorem e7 : ({ A6 with dead := false } : Dv) = A7 := rfl
theorem a_res : (A0.write 2 (sector 120 false)).2 = 0 ∧ A1.sync.2 = 0 ∧ (A2.write 4 (sector 120 false)).2 = 191 ∧ (A3.plan 2 [false, true]).2 = 0 ∧ (A4.write 2 (sector 121 false)).2 = 0 ∧ (A5.write 0 (sector 121 false)).2 = 190 ∧ A6.dead = true ∧ (A5.write 0 (sector 121 false)).1.dead = true := by decide +kernel
theorem a_end : A7.now = sector 121 false ++ sector 0 false ++ sector 120 false := by decide +kernel
theorem a_len : A7.now.length / 512 = 3 := by decide +kernel
theorem a_small : (A0.calls ≤ 1000000 ∧ A0.pend.length ≤ 1000000 ∧ A0.at_ ≤ 9223372036854775807 ∧ A0.keep.length ≤ 140737488355328) ∧ (A1.calls ≤ 1000000 ∧ A1.pend.length ≤ 1000000 ∧ A1.at_ ≤ 9223372036854775807 ∧ A1.keep.length ≤ 140737488355328) ∧ (A2.calls ≤ 1000000 ∧ A2.pend.length ≤ 1000000 ∧ A2.at_ ≤ 9223372036854775807 ∧ A2.keep.length ≤ 140737488355328) ∧ (A4.calls ≤ 1000000 ∧ A4.pend.length ≤ 1000000 ∧ A4.at_ ≤ 9223372036854775807 ∧ A4.keep.length ≤ 140737488355328) ∧ (A5.calls ≤ 1000000 ∧ A5.pend.length ≤ 1000000 ∧ A5.at_ ≤ 9223372036854775807 ∧ A5.keep.length ≤ 140737488355328) := by decide +kernel
theorem may4 : may 4 [] := by refine ⟨?_, ?_, ?_, ?_⟩ <;> decide
theorem a_ok : A0.Ok ∧ A1.Ok ∧ A2.Ok ∧ A3.Ok ∧ A4.Ok ∧ A5.Ok ∧ A6.Ok ∧ A7.Ok := by
  have h0 : A0.Ok := fresh_ok (by decide) (by decide) (by decide)
  have h1 : A1.Ok := write_ok h0 _ _
  have h2 : A2.Ok := sync_ok h1
  have h3 : A3.Ok := write_ok h2 _ _
  have h4 : A4.Ok := plan_ok h3 _ _
  have h5 : A5.Ok := write_ok h4 _ _
  have h6 : A6.Ok := write_ok h5 _ _
  exact ⟨h0, h1, h2, h3, h4, h5, h6, up_ok h6⟩
theorem smallOf {D : Dv} (h : D.calls ≤ 1000000 ∧ D.pend.length ≤ 1000000 ∧ D.at_ ≤ 9223372036854775807 ∧ D.keep.length ≤ 140737488355328) : Small D := ⟨h.1, h.2.1, h.2.2.1, h.2.2.2⟩
theorem a6_write : (A6.write 0 (sector 121 false)) = (A6, 190) := by unfold Dv.write; rw [if_pos a_res.2.2.2.2.2.2.1]
end Go.Proofs.Ytlpnoogcdnfllaa
/- The engine's laws for arrays of two within structs: they are built, and compared. No program is spoken of. -/
namespace Go.Proofs.Ytlpnoogcdnfllaa
set_option linter.unnecessarySimpa false
open Go.RowKit
set_option linter.unusedSimpArgs false
set_option linter.unusedVariables false
section
variable {P : Program} {n : Nat} {σ : Sig} {w : World} {x y : Operand} {t e ty T T' : TypeId} {b o : Nat} {z v : Value} {s bs : Nat} {l : List Value}
theorem EX.buildA {m : Nat} {parts : Array (Nat × Operand)} {ks : List Nat} {vs zs : List Value} {s' bs' : Nat} {z' : Value} (hu : P.underlying t = some (.array m e)) (hi : TI P t (.agg zs.toArray) s bs) (he : TI P e z' s' bs')
    (hk : parts.toList.map (·.1) = ks) (hv : evs σ (parts.toList.map (·.2)) = some vs) (hf : Instr.fill (fun i => some (i * s', s')) zs.toArray (ks.zip vs) = some l.toArray) :
    EX P n σ (.build t parts) ty w (.agg l.toArray) w := fun A ha dst pos after g => by
  have hev := ha.evs hv
  have hpv : (parts.map fun (p : Nat × Operand) => (p.1, A.eval p.2)).toList = ks.zip vs := by
    rw [← hk, ← hev]
    simp only [Array.toList_map, List.map_map, List.zip_map']
    rfl
  simp only [execOp, Instr.build, Sem.run_bind, run_zeroValue hi, Result.andThen_ok, run_underlying hu, run_sizeOf he]
  rw [show (parts.map fun (x : Nat × Operand) => match x with | (i, x) => (i, A.eval x)).toList = ks.zip vs from hpv]
  rw [show ((Value.agg zs.toArray).cells) = zs.toArray from rfl, hf]
  rfl
theorem EX.buildA2 {zs : List Value} {bs' : Nat} {z' u0 u1 : Value} (hu : P.underlying t = some (.array 2 e)) (hi : TI P t (.agg zs.toArray) 2 bs) (he : TI P e z' 1 bs') (hz : zs.length = 2) (hx : ev σ x = some u0) (hy : ev σ y = some u1) (h0 : u0.oneCell' = true) (h1 : u1.oneCell' = true) :
    EX P n σ (.build t #[(0, x), (1, y)]) ty w (.agg [u0, u1].toArray) w := by
  match zs, hz with
  | [a, b], _ =>
    refine EX.buildA (ks := [0, 1]) (vs := [u0, u1]) hu hi he rfl (by simp [evs, hx, hy]) ?_
    simp [Instr.fill, oneCell_cells h0, oneCell_cells h1]
/-- a struct's cells where some parts are given -/
def fillL (pl : List (Nat × Nat)) : List Value → List (Nat × List Value) → List Value
  | zs, [] => zs
  | zs, (i, cs) :: r => fillL pl (zs.take (pl.getD i (0, 0)).1 ++ (cs ++ zs.drop ((pl.getD i (0, 0)).1 + cs.length))) r
def fitL (pl : List (Nat × Nat)) (n : Nat) : List (Nat × Nat) → Bool
  | [] => true
  | (i, c) :: r => Nat.blt i pl.length && (pl.getD i (0, 0)).2 == c && Nat.ble ((pl.getD i (0, 0)).1 + c) n && fitL pl n r
theorem fold_in (off : Nat) : ∀ (vs : List Value) (k : Nat) (zs : List Value), off + k + vs.length ≤ zs.length →
    (vs.zipIdx k).foldl (fun (cs : Array Value) (x : Value × Nat) => cs.setIfInBounds (off + x.2) x.1) zs.toArray = (zs.take (off + k) ++ (vs ++ zs.drop (off + k + vs.length))).toArray
  | [], k, zs, _ => by simp
  | v :: vs, k, zs, h => by
    have hlt : off + k < zs.length := by simp at h; omega
    have hset : zs.toArray.setIfInBounds (off + k) v = (zs.set (off + k) v).toArray := by simp
    simp only [List.zipIdx_cons, List.foldl_cons, hset]
    rw [fold_in off vs (k + 1) (zs.set (off + k) v) (by simp at h ⊢; omega)]
    congr 1
    have e1 : (zs.set (off + k) v).take (off + (k + 1)) = zs.take (off + k) ++ [v] := by
      rw [show off + (k + 1) = off + k + 1 by omega, List.take_add_one, List.getElem?_set_self hlt, List.take_set_of_le (by omega)]
      rfl
    have e2 : (zs.set (off + k) v).drop (off + (k + 1) + vs.length) = zs.drop (off + k + (v :: vs).length) := by
      rw [List.drop_set_of_lt (by omega)]
      congr 1
      simp; omega
    rw [e1, e2]
    simp
theorem fill_L {pl : List (Nat × Nat)} : ∀ (ks : List Nat) (vs : List Value) (css : List (List Value)) (zs : List Value), vs.map (fun v => v.cells.toList) = css → fitL pl zs.length (ks.zip (css.map List.length)) = true → ks.length = vs.length →
    Instr.fill (pl.toArray[·]?) zs.toArray (ks.zip vs) = some (fillL pl zs (ks.zip css)).toArray
  | [], [], css, zs, hc, _, _ => by subst hc; simp [Instr.fill, fillL]
  | k :: ks, v :: vs, css, zs, hc, hf, hl => by
    subst hc
    simp only [List.map_cons, List.zip_cons_cons, fitL, Bool.and_eq_true, beq_iff_eq, Nat.blt_eq, Nat.ble_eq] at hf
    obtain ⟨⟨⟨f1, f2⟩, f3⟩, f4⟩ := hf
    have hg : pl.toArray[k]? = some (pl.getD k (0, 0)) := by simp [List.getD_eq_getElem?_getD, f1]
    simp only [List.zip_cons_cons, List.map_cons, Instr.fill, hg, fillL]
    generalize pl.getD k (0, 0) = q at f2 f3
    obtain ⟨off, size⟩ := q
    simp only at f2 f3
    have hcl : v.cells.toList.length = v.cells.size := by simp
    have hn : ¬ (v.cells.size ≠ size ∨ off + v.cells.size > zs.toArray.size) := by simp only [List.size_toArray]; omega
    simp only [ne_eq, Bool.or_eq_true, decide_eq_true_eq]
    rw [if_neg (by simpa using hn)]
    have hz : v.cells.zipIdx.foldl (fun cs (x : Value × Nat) => cs.setIfInBounds (off + x.2) x.1) zs.toArray = (zs.take off ++ (v.cells.toList ++ zs.drop (off + v.cells.toList.length))).toArray := by
      rw [← Array.foldl_toList, Array.toList_zipIdx]
      exact fold_in off v.cells.toList 0 zs (by omega)
    rw [hz]
    refine fill_L ks vs _ _ rfl ?_ (by simpa using hl)
    rw [← f4]
    congr 1
    simp
    omega
  | [], _ :: _, _, _, _, _, h => by simp at h
  | _ :: _, [], _, _, _, _, h => by simp at h
/-- a struct some of whose parts are structs or arrays: what it holds as a list -/
theorem EX.buildH {fs : Array Field} {parts : Array (Nat × Operand)} {pl : List (Nat × Nat)} {ks : List Nat} {vs zs : List Value} {css : List (List Value)} (hu : P.underlying t = some (.struct fs)) (hi : TI P t (.agg zs.toArray) s bs) (hp : places P fs.toList = some pl)
    (hk : parts.toList.map (·.1) = ks) (hv : evs σ (parts.toList.map (·.2)) = some vs) (hc : vs.map (fun v => v.cells.toList) = css) (hf : fitL pl zs.length (ks.zip (css.map List.length)) = true) (hn : ks.length = vs.length) (hl : fillL pl zs (ks.zip css) = l) :
    EX P n σ (.build t parts) ty w (.agg l.toArray) w :=
  EX.buildG hu hi hp hk hv (by rw [fill_L ks vs css zs hc hf hn, hl])
theorem run_eq_arr2 {a0 a1 b0 b1 : Value} {q0 q1 : Bool} {d : TypeDesc} (ht : P.underlying t = some (.array 2 e)) (he : P.underlying e = some d) (hf : flat d = true) (hi : TI P e z 1 bs)
    (h0 : ∀ k, (Op.equalIn (k + 1) e a0 b0).run P w = .ok q0 w) (h1 : ∀ k, (Op.equalIn (k + 1) e a1 b1).run P w = .ok q1 w) (k : Nat) : (Op.equalIn (k + 1 + 1) t (.agg #[a0, a1]) (.agg #[b0, b1])).run P w = .ok (q0 && q1) w := by
  have hr : List.range' 0 2 = [0, 1] := rfl
  rw [Op.equalIn]
  simp only [Sem.run_bind, run_underlying ht, Result.andThen_ok, run_sizeOf hi]
  cases q0 <;> cases q1 <;> simp [Std.Legacy.Range.forIn_eq_forIn_range', Std.Legacy.Range.size, hr, part, run_isAgg he, hf, h0 k, h1 k, Sem.run_bind]
/-- fields that are alike or not, whatever they hold -/
inductive FE (P : Program) (w : World) (xs ys : List Value) : List Field → List Bool → Prop
  | nil : FE P w xs ys [] []
  | cons {f : Field} {fs : List Field} {q : Bool} {qs : List Bool} {u v : Value} (hn : f.name ≠ "_") (hx : (part f.type xs.toArray f.offset).run P w = .ok u w) (hy : (part f.type ys.toArray f.offset).run P w = .ok v w)
      (he : ∀ k, (Op.equalIn (k + 1 + 1 + 1) f.type u v).run P w = .ok q w) (hr : FE P w xs ys fs qs) : FE P w xs ys (f :: fs) (q :: qs)
theorem FE.run {xs ys : List Value} (k : Nat) : ∀ {fs : List Field} {qs : List Bool}, FE P w xs ys fs qs → (Op.eqFields (k + 1 + 1 + 1) xs.toArray ys.toArray fs).run P w = .ok (qs.all id) w
  | _, _, .nil => by simp [Op.eqFields]
  | f :: fs, q :: qs, .cons (u := u) (v := v) hn h1 h2 he hr => by
    have ih := FE.run k hr
    simp only [Op.eqFields]
    rw [if_pos hn]
    simp only [Sem.run_bind, h1, h2, he k, Result.andThen_ok]
    cases q
    · simp
    · simpa using ih
theorem FE.one {f : Field} {fs : List Field} {q : Bool} {qs : List Bool} {xs ys : List Value} {u v : Value} {d : TypeDesc} (hn : f.name ≠ "_") (hd : P.underlying f.type = some d) (hfl : flat d = true) (hx : xs[f.offset]? = some u) (hy : ys[f.offset]? = some v)
    (he : ∀ k, (Op.equalIn (k + 1) f.type u v).run P w = .ok q w) (hr : FE P w xs ys fs qs) : FE P w xs ys (f :: fs) (q :: qs) :=
  .cons hn (by simp [part, Sem.run_bind, run_isAgg hd, hfl, hx]) (by simp [part, Sem.run_bind, run_isAgg hd, hfl, hy]) (fun k => he (k + 1 + 1)) hr
theorem FE.two {f : Field} {fs : List Field} {q0 q1 : Bool} {qs : List Bool} {xs ys : List Value} {a0 a1 b0 b1 : Value} {d : TypeDesc} {bs' : Nat} {z' : Value} (hn : f.name ≠ "_") (hd : P.underlying f.type = some (.array 2 e)) (ht : TI P f.type z' 2 bs') (he : P.underlying e = some d) (hf : flat d = true) (hi : TI P e z 1 bs)
    (hx : (xs.drop f.offset).take 2 = [a0, a1]) (hy : (ys.drop f.offset).take 2 = [b0, b1])
    (h0 : ∀ k, (Op.equalIn (k + 1) e a0 b0).run P w = .ok q0 w) (h1 : ∀ k, (Op.equalIn (k + 1) e a1 b1).run P w = .ok q1 w) (hr : FE P w xs ys fs qs) : FE P w xs ys (f :: fs) ((q0 && q1) :: qs) :=
  .cons hn (by simp [part, Sem.run_bind, run_isAgg hd, flat, run_sizeOf ht, hx]) (by simp [part, Sem.run_bind, run_isAgg hd, flat, run_sizeOf ht, hy]) (fun k => run_eq_arr2 hd he hf hi h0 h1 (k + 1)) hr
theorem FE.str {f : Field} {fs : List Field} {fs' : Array Field} {qs qs' : List Bool} {xs ys us vs : List Value} {m bs' : Nat} {z' : Value} (hn : f.name ≠ "_") (hd : P.underlying f.type = some (.struct fs')) (hp : P.stoodInHeld f.type = false) (ht : TI P f.type z' m bs')
    (hx : (xs.drop f.offset).take m = us) (hy : (ys.drop f.offset).take m = vs) (h : FEqs P w us vs fs'.toList qs') (hr : FE P w xs ys fs qs) : FE P w xs ys (f :: fs) ((qs'.all id) :: qs) := by
  have hf : P.fieldsOf f.type = fs' := by unfold Program.fieldsOf; rw [hd]
  refine .cons (u := .agg us.toArray) (v := .agg vs.toArray) hn (by simp [part, Sem.run_bind, run_isAgg hd, flat, run_sizeOf ht, hx]) (by simp [part, Sem.run_bind, run_isAgg hd, flat, run_sizeOf ht, hy]) (fun k => ?_) hr
  rw [run_equalIn_agg w _ f.type _ _ (by rw [hf]; exact hd) hp, hf, h.run]
theorem EX.eqlV {fs : Array Field} {xs ys : List Value} {qs : List Bool} {r : Bool} (hu : P.underlying t = some (.struct fs)) (hp : P.stoodInHeld t = false) (hm : P.eqGuardType P.depth t = false) (hx : ev σ x = some (.agg xs.toArray)) (hy : ev σ y = some (.agg ys.toArray))
    (h : FE P w xs ys fs.toList qs) (hr : qs.all id = r) : EX P n σ (.binOp .eql t x y T) ty w (.bool r) w := by
  subst hr
  have hf : P.fieldsOf t = fs := by unfold Program.fieldsOf; rw [hu]
  refine EX.bin hx hy (run_eqGuard_agg w _ t x y _ _ hm) ?_
  rw [run_eql_struct, show (10000 : Nat) = 9996 + 1 + 1 + 1 + 1 from rfl, run_equalIn_agg w _ t _ _ (by rw [hf]; exact hu) hp, hf, h.run]
  rfl
theorem EX.neqV {fs : Array Field} {xs ys : List Value} {qs : List Bool} {r : Bool} (hu : P.underlying t = some (.struct fs)) (hp : P.stoodInHeld t = false) (hm : P.eqGuardType P.depth t = false) (hx : ev σ x = some (.agg xs.toArray)) (hy : ev σ y = some (.agg ys.toArray))
    (h : FE P w xs ys fs.toList qs) (hr : (!qs.all id) = r) : EX P n σ (.binOp .neq t x y T) ty w (.bool r) w := by
  subst hr
  have hf : P.fieldsOf t = fs := by unfold Program.fieldsOf; rw [hu]
  refine EX.bin hx hy (run_eqGuard_agg w _ t x y _ _ hm) ?_
  rw [run_neq_struct, show (10000 : Nat) = 9996 + 1 + 1 + 1 + 1 from rfl, run_equalIn_agg w _ t _ _ (by rw [hf]; exact hu) hp, hf, h.run]
  rfl
end
section
variable {P : Program} {R : Act → World → Prop} {k : List KI} {n : Nat} {σ : Sig} {w : World}
theorem pst_goto {l : Nat} : ∀ (k : List KI) (a : Act) (w : World), pst P R k (.goto l) a w → False
  | [], _, _, h => h
  | .code _ :: k, a, w, h => pst_goto k a w h
  | .blk _ :: k, a, w, h => pst_goto k a w h
  | .asr _ :: k, a, w, h => pst_goto k a w h
/-- a scope through which no jump goes -/
theorem KW.scope {c : Code} (h : KW P R (.code c :: k) n σ w) : KW P R (.code (.scope c) :: k) n σ w := fun a ha => by
  refine wp_scope_straight ?_
  intro b k' cs
  obtain ⟨e, a₁, w₁, hq, harr⟩ := h a ha b k' cs
  refine ⟨e, a₁, w₁, ?_, harr⟩
  cases e with
  | goto l => exact pst_goto k _ _ hq
  | normal => exact hq
  | exit id => exact hq
  | ret => exact hq
  | panic ch => exact hq
  | outgrown => exact hq
end
end Go.Proofs.Ytlpnoogcdnfllaa
/- The engine's laws for slices of structs that are written out. No program is spoken of. -/
namespace Go.Proofs.Ytlpnoogcdnfllaa
set_option linter.unnecessarySimpa false
open Go.RowKit
set_option linter.unusedSimpArgs false
set_option linter.unusedVariables false
theorem flat_get {α : Type} {cells : α → List Value} {c : Nat} (hc : ∀ a, (cells a).length = c) : ∀ (l : List α) (i j : Nat) (hi : i < l.length) (u : Value), (cells l[i])[j]? = some u → (l.flatMap cells)[i * c + j]? = some u
  | a :: l, 0, j, hi, u, hu => by
    have hj : j < (cells a).length := (List.getElem?_eq_some_iff.1 hu).1
    rw [Nat.zero_mul, Nat.zero_add, List.flatMap_cons, List.getElem?_append_left hj]
    exact hu
  | a :: l, i + 1, j, hi, u, hu => by
    rw [List.flatMap_cons, List.getElem?_append_right (by rw [hc, Nat.succ_mul]; omega), hc, show (i + 1) * c + j - c = i * c + j by rw [Nat.succ_mul]; omega]
    exact flat_get hc l i j (by simpa using hi) u hu
/-- a slice's element of some cells -/
theorem Sl.flat {α : Type} {cells : α → List Value} {c : Nat} {w : World} {B : Nat} {A : Option Addr} {l : List α} (h : Sl w B A (l.flatMap cells)) (hc : ∀ a, (cells a).length = c) (h0 : 0 < c) {i : Nat} (hi : i < l.length) :
    ∃ b o, A = some ⟨b, o, none⟩ ∧ b < B ∧ ∀ j u, (cells l[i])[j]? = some u → w.cell? ⟨b, o + i * c + j, none⟩ = some u := by
  have hlt : 0 < (cells l[i]).length := by rw [hc]; exact h0
  have hp : 0 < (l.flatMap cells).length := by
    have := (List.getElem?_eq_some_iff.1 (flat_get hc l i 0 hi _ (List.getElem?_eq_getElem hlt))).1
    omega
  obtain ⟨b, o, e, hb, hcell⟩ := h.at_ hp
  exact ⟨b, o, e, hb, fun j u hu => by rw [Nat.add_assoc]; exact hcell _ _ (flat_get hc l i j hi u hu)⟩
theorem fold_at (off : Nat) : ∀ (vs : List Value) (k : Nat) (pre post : List Value), pre.length = off + k → vs.length ≤ post.length →
    (vs.zipIdx k).foldl (fun (cs : Array Value) (x : Value × Nat) => cs.setIfInBounds (off + x.2) x.1) (pre ++ post).toArray = (pre ++ vs ++ post.drop vs.length).toArray
  | [], k, pre, post, _, _ => by simp
  | v :: vs, k, pre, p :: post, hp, h => by
    have ih := fold_at off vs (k + 1) (pre ++ [v]) post (by simp [hp]; omega) (by simpa using h)
    have hset : (pre ++ p :: post).toArray.setIfInBounds (off + k) v = ((pre ++ [v]) ++ post).toArray := by simp [← hp]
    simp only [List.zipIdx_cons, List.foldl_cons]
    rw [hset, ih]
    simp
  | v :: vs, k, pre, [], hp, h => by simp at h
theorem fill_agg (s : Nat) : ∀ (vss : List (List Value)) (i : Nat) (pre post : List Value), pre.length = i * s → (∀ v ∈ vss, v.length = s) → post.length = vss.length * s →
    Instr.fill (fun i => some (i * s, s)) (pre ++ post).toArray ((vss.zipIdx i).map fun (v, j) => (j, Value.agg v.toArray)) = some (pre ++ vss.flatten).toArray
  | [], i, pre, post, hp, _, hl => by
    have : post = [] := List.eq_nil_of_length_eq_zero (by simpa using hl)
    subst this
    simp [Instr.fill]
  | v :: vss, i, pre, post, hp, h1, hl => by
    have hv := h1 v (by simp)
    have hl' : post.length = vss.length * s + s := by rw [hl, List.length_cons, Nat.succ_mul]
    have ih := fill_agg s vss (i + 1) (pre ++ v) (post.drop s) (by rw [List.length_append, hp, hv, Nat.succ_mul]) (fun u hu => h1 u (by simp [hu])) (by rw [List.length_drop]; omega)
    have hf := fold_at (i * s) v 0 pre post (by omega) (by omega)
    simp only [List.zipIdx_cons, List.map_cons, Instr.fill, Value.cells, List.size_toArray]
    have hn : ¬ (v.length ≠ s ∨ i * s + v.length > (pre ++ post).length) := by rw [List.length_append]; omega
    simp only [ne_eq, Bool.or_eq_true, decide_eq_true_eq]
    rw [if_neg (by simpa using hn)]
    have hz : v.toArray.zipIdx.foldl (fun cs (x : Value × Nat) => cs.setIfInBounds (i * s + x.2) x.1) (pre ++ post).toArray = ((pre ++ v) ++ post.drop s).toArray := by
      rw [← Array.foldl_toList, Array.toList_zipIdx]
      rw [hv] at hf
      exact hf
    rw [hz]
    simpa using ih
section
variable {P : Program} {n : Nat} {σ : Sig} {w w0 : World} {x y : Operand} {t e ty T : TypeId} {s bs : Nat} {R : Act → World → Prop} {ops : Array Oper} {rest : List Oper} {k : List KI} {pos : String} {after : Array Edge} {g : Option (Nat × Bool)} {d fuel : Nat} {S : World → Prop} {listed : Array Bool}
theorem EX.buildSliceG {z : Value} {parts : Array (Nat × Operand)} (len : Nat) (vss : List (List Value)) (ht : P.underlying t = some (.slice e)) (hi : TI P e z s bs) (hzs : z.cells.size = s) (hs0 : 0 < s)
    (hv : evs σ (parts.toList.map (·.2)) = some (vss.map fun v => Value.agg v.toArray)) (hp : parts.toList.map (·.1) = List.range' 0 parts.toList.length) (hl : vss.length = len) (h1 : ∀ v ∈ vss, v.length = s) (hlen : len * s ≤ 16777216) :
    EX P n σ (.buildSlice t len parts) ty w (.slice (some ⟨w.heap.size, 0, none⟩) len len) (w.alloc (.cells vss.flatten.toArray e)) := fun A ha dst pos after g => by
  have hpv : (parts.map fun (p : Nat × Operand) => (p.1, A.eval p.2)).toList = vss.zipIdx.map fun (v, j) => (j, Value.agg v.toArray) := by
    have h2 := ha.evs hv
    apply List.ext_getElem?
    intro j
    have e1 := congrArg (·[j]?) h2
    have e2 := congrArg (·[j]?) hp
    simp only [List.getElem?_map] at e1 e2
    simp only [Array.toList_map, List.getElem?_map, List.getElem?_zipIdx]
    have hlp : parts.toList.length = vss.length := by
      have := congrArg List.length h2
      simpa using this
    by_cases hj : j < vss.length
    · rw [List.getElem?_eq_getElem (by omega : j < parts.toList.length)] at e1 e2 ⊢
      rw [List.getElem?_eq_getElem hj] at e1 ⊢
      simp only [Option.map_some, Option.some.injEq] at e1 e2 ⊢
      rw [List.getElem?_range' (by omega)] at e2
      simp only [Option.some.injEq] at e2
      rw [e1, e2]
      simp
    · rw [List.getElem?_eq_none (by omega : parts.toList.length ≤ j), List.getElem?_eq_none (by omega : vss.length ≤ j)]
      rfl
  have hn : ¬ (len * s > 2 ^ 24) := by omega
  generalize hzz : ((Array.range (len * s)).map fun j => z.cells[j % z.cells.size]!) = zz
  have hzl : zz.size = len * s := by rw [← hzz]; simp
  obtain ⟨zl⟩ := zz
  have hf := fill_agg s vss 0 [] zl (by simp) h1 (by rw [hl]; simpa using hzl)
  simp only [List.nil_append] at hf
  simp only [execOp, Sem.run_bind]
  have hb : (Instr.buildSlice t len (parts.map fun (p : Nat × Operand) => (p.1, A.eval p.2))).run P w = .ok (.slice (some ⟨w.heap.size, 0, none⟩) len len) (w.alloc (.cells vss.flatten.toArray e)) := by
    simp only [Instr.buildSlice, Sem.run_bind, run_underlying ht, run_sizeOf hi, Result.andThen_ok, if_neg hn, hpv, Sem.run_pure]
    by_cases h0 : len * s = 0
    · have hlen0 : len = 0 := by
        rcases Nat.mul_eq_zero.1 h0 with h | h
        · exact h
        · omega
      subst hlen0
      have hv0 : vss = [] := List.eq_nil_of_length_eq_zero hl
      subst hv0
      simp [Instr.fill, newRow, newObj, Sem.run_bind, Sem.run, Array.range_zero']
    · rw [if_neg h0]
      simp only [Sem.run_bind, run_zeroValue hi, Result.andThen_ok, Sem.run_pure, hzz, hf]
      simp [newRow, newObj, Sem.run_bind, Sem.run]
  rw [show (parts.map fun (x : Nat × Operand) => match x with | (i, x) => (i, A.eval x)) = (parts.map fun (x : Nat × Operand) => (x.1, A.eval x.2)) from rfl, hb]
  rfl
theorem OW.buildG {z : Value} {parts : Array (Nat × Operand)} (len : Nat) (vss : List (List Value)) (hg : wantS ops σ g = some true) (hd : Nat.blt d n = true) (ht : P.underlying T = some (.slice e)) (hi : TI P e z s bs) (hzs : z.cells.size = s) (hs0 : 0 < s)
    (hv : evs σ (parts.toList.map (·.2)) = some (vss.map fun v => Value.agg v.toArray)) (hp : parts.toList.map (·.1) = List.range' 0 parts.toList.length) (hl : vss.length = len) (h1 : ∀ v ∈ vss, v.length = s) (hlen : len * s ≤ 16777216)
    (h : ∀ b w', w.heap.size ≤ b → Bk w' b e vss.flatten → Ext w w' → OW P R ops rest k n ((d, .slice (some ⟨b, 0, none⟩) len len) :: σ) w') : OW P R ops (⟨some d, .buildSlice T len parts, ty, pos, after, g⟩ :: rest) k n σ w :=
  OW.val hg hd (EX.buildSliceG len vss ht hi hzs hs0 hv hp hl h1 hlen) (h _ _ (Nat.le_refl _) (Bk.new w e _) (Ext.alloc w _))
theorem GW.buildG (i : Nat) {z : Value} {parts : Array (Nat × Operand)} (len : Nat) (vss : List (List Value)) (hi' : ops[i]? = some ⟨some d, .buildSlice T len parts, ty, pos, after, g⟩) (hr : Region.ready .any ops listed = [i]) (hg : wantS ops σ g = some true) (hd : Nat.blt d n = true) (ht : P.underlying T = some (.slice e)) (hi : TI P e z s bs) (hzs : z.cells.size = s) (hs0 : 0 < s)
    (hv : evs σ (parts.toList.map (·.2)) = some (vss.map fun v => Value.agg v.toArray)) (hp : parts.toList.map (·.1) = List.range' 0 parts.toList.length) (hl : vss.length = len) (h1 : ∀ v ∈ vss, v.length = s) (hlen : len * s ≤ 16777216)
    (h : ∀ b w', w.heap.size ≤ b → Bk w' b e vss.flatten → Ext w w' → S w' ∧ (S w' → GW P R ops S fuel (listed.setIfInBounds i true) k n ((d, .slice (some ⟨b, 0, none⟩) len len) :: σ) w')) : GW P R ops S (fuel + 1) listed k n σ w :=
  GW.new i hi' hr hg hd (EX.buildSliceG len vss ht hi hzs hs0 hv hp hl h1 hlen) (h _ _ (Nat.le_refl _) (Bk.new w e _) (Ext.alloc w _))
theorem GO.buildG (i : Nat) {z : Value} {parts : Array (Nat × Operand)} (len : Nat) (vss : List (List Value)) (hi' : ops[i]? = some ⟨some d, .buildSlice T len parts, ty, pos, after, g⟩) (hg : wantS ops σ g = some true) (hd : Nat.blt d n = true) (ht : P.underlying T = some (.slice e)) (hi : TI P e z s bs) (hzs : z.cells.size = s) (hs0 : 0 < s)
    (hv : evs σ (parts.toList.map (·.2)) = some (vss.map fun v => Value.agg v.toArray)) (hp : parts.toList.map (·.1) = List.range' 0 parts.toList.length) (hl : vss.length = len) (h1 : ∀ v ∈ vss, v.length = s) (hlen : len * s ≤ 16777216)
    (h : ∀ b w', w.heap.size ≤ b → Bk w' b e vss.flatten → Ext w w' → S w' ∧ (S w' → GW P R ops S fuel (listed.setIfInBounds i true) k n ((d, .slice (some ⟨b, 0, none⟩) len len) :: σ) w')) : GO P R ops S fuel listed k n σ w i :=
  GO.new i hi' hg hd (EX.buildSliceG len vss ht hi hzs hs0 hv hp hl h1 hlen) (h _ _ (Nat.le_refl _) (Bk.new w e _) (Ext.alloc w _))
end
section
variable {P : Program} {fn : Func} {Q : Value → World → Prop} {n : Nat} {σ : Sig} {w : World}
theorem retC1 {t : Nat} {T T' : TypeId} {b s bs : Nat} {z : Value} {d : TypeDesc} {l : List Value} (hs : fn.results = #[.cell t T]) (hu : P.underlying T = some d) (hd : flat d = false) (hi : TI P T z s bs) (hv : lk σ t = some (.pointer (some ⟨b, 0, none⟩)))
    (hb : Bk w b T' l) (hl : l.length = s) (hq : Q (.agg l.toArray) w) : ∀ a, Fr n σ a → bodyPost P fn (fun e w' => ∃ v, e = .returned v ∧ Q v w') .ret a w :=
  ret_of (fun a ha => by
    have h := EX.loadBk (P := P) (n := n) (σ := σ) (x := .tmp t) (ty := 0) hu hd hi hv hb hl a ha none "" #[] none
    have h1 : (loadVar T ⟨b, 0, none⟩).run P w = .ok (.agg l.toArray) w := by
      have et : a.eval (.tmp t) = .pointer (some ⟨b, 0, none⟩) := ha.ev (x := .tmp t) hv
      simp only [execOp, et, Instr.loadAt, Instr.sureAddr, Sem.run_bind, Sem.run_pure, Result.andThen_ok] at h
      cases hr : (loadVar T ⟨b, 0, none⟩).run P w with
      | ok v w' => rw [hr] at h; simpa using h
      | halt q w' => rw [hr] at h; simp at h
    have e1 := ha.val t _ hv
    simp only [results, hs]
    simp [Sem.run_bind, e1, asAddr, h1]) hq
end
end Go.Proofs.Ytlpnoogcdnfllaa
/- wal: notes, by the program and by the document. -/
namespace Go.Proofs.Ytlpnoogcdnfllaa
set_option linter.unnecessarySimpa false
open Go.RowKit Rec Pth Dsk Wal
set_option linter.unusedVariables false
set_option linter.unusedSimpArgs false

def _root_.Go.Proofs.Ytlpnoogcdnfllaa.Wal.Nt.cells (n : Nt) : List Value := .int .i64 n.kind :: n.mem.cells
abbrev ntsV (l : List Nt) : List Value := l.flatMap Nt.cells
theorem ntsV_length (l : List Nt) : (ntsV l).length = l.length * 6 := by
  induction l with
  | nil => rfl
  | cons p l ih => simp only [ntsV, List.flatMap_cons, List.length_append] at ih ⊢; rw [ih]; simp [Nt.cells, M.cells]; omega
theorem ntsV_one (l : List Nt) : ∀ u ∈ ntsV l, u.oneCell' = true := by
  intro u hu
  obtain ⟨p, _, h⟩ := List.mem_flatMap.1 hu
  simp only [Nt.cells, M.cells, List.mem_cons, List.not_mem_nil, or_false] at h
  rcases h with rfl | rfl | rfl | rfl | rfl | rfl <;> rfl
/-- a part of a block -/
theorem Bk.part {w : World} {b : Nat} {T : TypeId} {l l2 : List Value} {o : Nat} (h : Bk w b T l) (e : (l.drop o).take l2.length = l2) : ∀ j u, l2[j]? = some u → w.cell? ⟨b, o + j, none⟩ = some u := by
  intro j u hj
  apply h.cell_of
  have hlt : j < l2.length := (List.getElem?_eq_some_iff.1 hj).1
  rw [← e, List.getElem?_take, if_pos hlt, List.getElem?_drop] at hj
  exact hj
theorem mem_eq (a b : M) : ([decide (a.path = b.path), decide (a.start = b.start), decide (a.sectors = b.sectors), decide (a.size = b.size), decide ((a.sum : Int) = (b.sum : Int))].all id) = decide (a = b) := by
  obtain ⟨a1, a2, a3, a4, a5⟩ := a
  obtain ⟨b1, b2, b3, b4, b5⟩ := b
  have e : ((a5 : Int) = (b5 : Int)) ↔ a5 = b5 := by omega
  rw [Bool.eq_iff_iff]
  simp only [e, List.all_cons, List.all_nil, id, Bool.and_true, Bool.and_eq_true, decide_eq_true_eq, M.mk.injEq]
theorem nt_ne (a b : Nt) : (!([decide (a.kind = b.kind), ([decide (a.mem.path = b.mem.path), decide (a.mem.start = b.mem.start), decide (a.mem.sectors = b.mem.sectors), decide (a.mem.size = b.mem.size), decide ((a.mem.sum : Int) = (b.mem.sum : Int))].all id)].all id)) = decide (a ≠ b) := by
  rw [mem_eq]
  obtain ⟨a1, a2⟩ := a
  obtain ⟨b1, b2⟩ := b
  rw [Bool.eq_iff_iff]
  by_cases c1 : a1 = b1 <;> by_cases c2 : a2 = b2 <;> simp [c1, c2]
theorem data1 {m : M} : noteD ⟨1, m⟩ = if mayM m then some (memberT m) else none := by unfold noteD; rw [if_pos rfl]
theorem data2 {m : M} : noteD ⟨2, m⟩ = if checkP m.path = 0 ∧ m = bare m.path then some m.path else none := by unfold noteD; rw [if_neg (show ¬ (2 : Int) = 1 by decide), if_pos rfl]
theorem data3 {k : Int} {m : M} (h1 : k ≠ 1) (h2 : k ≠ 2) : noteD ⟨k, m⟩ = none := by unfold noteD; rw [if_neg h1, if_neg h2]
theorem may_of {n : Nt} {s : List UInt8} (h : noteD n = some s) : mayN n ∧ noteB n = s := by
  refine ⟨?_, ?_⟩
  · unfold mayN; rw [h]; simp
  · unfold noteB; rw [h]; rfl
theorem may_no {n : Nt} (h : noteD n = none) : ¬ mayN n := by unfold mayN; rw [h]; simp
/-- what is told of a note -/
def Told (n : Nt) (v : Value) : Prop := ∃ s, v = .tuple #[str s, .bool (decide (mayN n))] ∧ (mayN n → s = noteB n)
theorem told_yes {n : Nt} {s : List UInt8} (h : noteD n = some s) : Told n (.tuple #[str s, .bool true]) := ⟨s, by rw [decide_eq_true (may_of h).1], fun _ => (may_of h).2.symm⟩
theorem told_no {n : Nt} (s : List UInt8) (h : noteD n = none) : Told n (.tuple #[str s, .bool false]) := ⟨s, by rw [decide_eq_false (may_no h)], fun q => absurd q (may_no h)⟩
set_option maxRecDepth 20000 in
theorem data_s (n : Nt) (hn : n.mem.Ok) (w : World) : Ret Try.prog 41 [.agg n.cells.toArray] w fun v w' => Told n v ∧ Ext w w' := by
  obtain ⟨kd, m⟩ := n
  have hn' : m.Ok := hn
  refine Ret.enter Try.func41 rfl Try.ntmps41 (by kernel_rfl) rfl ?_
  refine KW.seq (KW.region ?_)
  refine OW.boxS rfl rfl rfl ?_
  rintro nb w1 hge1 hb1 hx1
  refine OW.val rfl rfl (EX.assign rfl) ?_
  refine OW.val rfl rfl (EX.assign rfl) ?_
  refine OW.nil ?_
  refine KW.seq (KW.seq (KW.region ?_))
  refine OW.val rfl rfl (EX.fieldAddr (off := 0) Try.underlying69 rfl rfl ti3 rfl rfl) ?_
  replace hb1 : Bk w1 nb 69 (Nt.cells ⟨kd, m⟩) := hb1
  have hsub := hb1.part (o := 1) (l2 := m.cells) rfl
  refine OW.val rfl rfl (EX.load Try.underlying3 rfl rfl (hb1.cell_of rfl)) ?_
  refine OW.nil ?_
  refine KW.block (KW.seq (KW.region ?_))
  refine OW.val rfl rfl (by first | exact EX.eqlN (b := 1) rfl rfl | exact EX.eqlZ rfl rfl) ?_
  refine OW.val rfl rfl (EX.assign rfl) ?_
  refine OW.nil ?_
  refine KW.condD rfl (fun h1 => ?_) (fun h1 => ?_)
  · have h1' : kd = 1 := h1
    subst h1'
    refine KW.seq (KW.region ?_)
    refine OW.val rfl rfl (EX.fieldAddr (off := 1) Try.underlying69 rfl rfl ti67 rfl rfl) ?_
    refine OW.val rfl rfl (EX.loadA (l := m.cells) Try.underlying67 rfl ti67 rfl rfl hsub) ?_
    refine OW.call rfl rfl rfl (member_s m hn' w1) ?_
    rintro _ w2 ⟨rfl, hx2⟩
    refine OW.val rfl rfl (EX.move rfl) ?_
    refine OW.val rfl rfl (EX.extract rfl rfl) ?_
    refine OW.val rfl rfl (EX.extract rfl rfl) ?_
    refine OW.val rfl rfl (EX.assign rfl) ?_
    refine OW.val rfl rfl (EX.assign rfl) ?_
    refine OW.nil ?_
    refine KW.seq (KW.region ?_)
    refine OW.val rfl rfl (EX.move rfl) ?_
    refine OW.val rfl rfl (EX.move rfl) ?_
    refine OW.val rfl rfl (by first | exact EX.eqlN (b := 0) rfl rfl | exact EX.eqlZ rfl rfl) ?_
    refine OW.val rfl rfl (EX.assign rfl) ?_
    refine OW.val rfl rfl (EX.assign rfl) ?_
    refine OW.nil ?_
    refine KW.ret (ret2 rfl rfl rfl ?_)
    refine ⟨?_, hx1.trans hx2⟩
    by_cases h : mayM m
    · rw [memberM_some h]
      exact told_yes (by rw [data1, if_pos h])
    · rw [memberM_none h]
      exact told_no _ (by rw [data1, if_neg h])
  · have h1' : ¬ kd = 1 := h1
    refine KW.seq (KW.region ?_)
    refine OW.val rfl rfl (by first | exact EX.eqlN (b := 2) rfl rfl | exact EX.eqlZ rfl rfl) ?_
    refine OW.val rfl rfl (EX.assign rfl) ?_
    refine OW.nil ?_
    refine KW.condD rfl (fun h2 => ?_) (fun h2 => ?_)
    · have h2' : kd = 2 := h2
      subst h2'
      refine KW.seq (KW.region ?_)
      refine OW.val rfl rfl (EX.fieldAddr (off := 1) Try.underlying69 rfl rfl ti67 rfl rfl) ?_
      refine OW.val rfl rfl (EX.fieldAddr (off := 0) Try.underlying67 rfl rfl ti9 rfl rfl) ?_
      refine OW.val rfl rfl (EX.load Try.underlying9 rfl rfl (hb1.cell_of rfl)) ?_
      refine OW.val rfl rfl (EX.assign rfl) ?_
      refine OW.nil ?_
      refine KW.seq ?_
      by_cases hc : checkP m.path = 0
      · have cp := check_s m.path hn'.path
        rw [hc] at cp
        refine KW.regionG (N := 13) (fun w' => Ext w w' ∧ Bk w' nb 69 (Nt.cells ⟨2, m⟩)) (by kernel_rfl) rfl ?_
        have hS := (⟨hx1.trans (Ext.drew _), hb1.drew⟩ : Ext w w1.drew ∧ Bk w1.drew nb 69 (Nt.cells ⟨2, m⟩))
        refine GW.val 0 rfl (by kernel_rfl) (by kernel_rfl) (by kernel_rfl) rfl rfl hS (fun w' hS' => EX.move rfl) ?_
        refine GW.val 1 rfl (by kernel_rfl) (by kernel_rfl) (by kernel_rfl) rfl rfl hS (fun w' hS' => EX.move rfl) ?_
        refine GW.call 2 rfl (by kernel_rfl) rfl rfl rfl (cp w1.drew) ?_
        rintro _ w2 ⟨rfl, hx2⟩
        refine ⟨⟨hS.1.trans hx2, hS.2.ext hx2⟩, fun hS => ?_⟩
        refine GW.val 3 rfl (by kernel_rfl) (by kernel_rfl) (by kernel_rfl) rfl rfl hS (fun w' hS' => by first | exact EX.eqlN (b := 0) rfl rfl | exact EX.eqlZ rfl rfl) ?_
        refine GW.val 4 rfl (by kernel_rfl) (by kernel_rfl) (by kernel_rfl) rfl rfl hS (fun w' hS' => EX.move rfl) ?_
        refine GW.as 29 (.bool true) rfl (congrArg Value.bool (decide_eq_true (rfl))) ?_
        refine GW.val 5 rfl (by kernel_rfl) (by kernel_rfl) (by kernel_rfl) rfl rfl hS (fun w' hS' => EX.fieldAddr (off := 1) Try.underlying69 rfl rfl ti67 rfl rfl) ?_
        refine GW.val 6 rfl (by kernel_rfl) (by kernel_rfl) (by kernel_rfl) rfl rfl hS (fun w' hS' => EX.loadA (l := m.cells) Try.underlying67 rfl ti67 rfl rfl (hS'.2.part (o := 1) (l2 := m.cells) rfl)) ?_
        refine GW.val 7 rfl (by kernel_rfl) (by kernel_rfl) (by kernel_rfl) rfl rfl hS (fun w' hS' => EX.move rfl) ?_
        refine GW.val 8 rfl (by kernel_rfl) (by kernel_rfl) (by kernel_rfl) rfl rfl hS (fun w' hS' => EX.buildS (pl := [(0, 1), (1, 1), (2, 1), (3, 1), (4, 1)]) (ks := [0]) (is := [0]) (zs := [str [], .int .i64 0, .int .i64 0, .int .i64 0, .int .u32 0]) Try.underlying67 ti67 (by kernel_rfl) rfl rfl rfl (by first | rfl | (simp only [List.all_cons, List.all_nil, Bool.and_true, Bool.true_and, Bool.and_eq_true, Value.oneCell']; repeat (first | assumption | exact Own.one (by assumption) | constructor))) (by simp only [setAll, List.set_cons_zero, List.set_cons_succ]; rfl)) ?_
        refine GW.val 9 rfl (by kernel_rfl) (by kernel_rfl) (by kernel_rfl) rfl rfl hS (fun w' hS' => EX.eqlG Try.underlying67 (by kernel_rfl) (by kernel_rfl) rfl rfl (.cons (by decide) Try.underlying9 rfl rfl rfl (eq_str Try.underlying9) (.cons (by decide) Try.underlying3 rfl rfl rfl (eq_int Try.underlying3) (.cons (by decide) Try.underlying3 rfl rfl rfl (eq_int Try.underlying3) (.cons (by decide) Try.underlying3 rfl rfl rfl (eq_int Try.underlying3) (.cons (by decide) Try.underlying65 rfl rfl rfl (eq_int Try.underlying65) .nil))))) rfl) ?_
        refine GW.val 10 rfl (by kernel_rfl) (by kernel_rfl) (by kernel_rfl) rfl rfl hS (fun w' hS' => EX.pickT rfl rfl) ?_
        refine GW.val 11 rfl (by kernel_rfl) (by kernel_rfl) (by kernel_rfl) rfl rfl hS (fun w' hS' => EX.assign rfl) ?_
        refine GW.val 12 rfl (by kernel_rfl) (by kernel_rfl) (by kernel_rfl) rfl rfl hS (fun w' hS' => EX.assign rfl) ?_
        refine GW.done (by kernel_rfl) ?_
        refine KW.ret (ret2 rfl rfl rfl ?_)
        refine ⟨?_, hS.1⟩
        have e := mem_eq m (bare m.path)
        by_cases h : m = bare m.path
        · rw [decide_eq_true h] at e
          refine (congrArg (Told ⟨2, m⟩) ?_).mpr (told_yes (s := m.path) (by rw [data2, if_pos ⟨hc, h⟩]))
          exact congrArg (fun q => Value.tuple #[str m.path, .bool q]) e
        · rw [decide_eq_false h] at e
          refine (congrArg (Told ⟨2, m⟩) ?_).mpr (told_no m.path (by rw [data2, if_neg (fun q => h q.2)]))
          exact congrArg (fun q => Value.tuple #[str m.path, .bool q]) e
      · have hc2 : checkP m.path = 140 := (checkP_or _).resolve_left hc
        have cp := check_s m.path hn'.path
        rw [hc2] at cp
        refine KW.regionG (N := 13) (fun w' => Ext w w' ∧ Bk w' nb 69 (Nt.cells ⟨2, m⟩)) (by kernel_rfl) rfl ?_
        have hS := (⟨hx1.trans (Ext.drew _), hb1.drew⟩ : Ext w w1.drew ∧ Bk w1.drew nb 69 (Nt.cells ⟨2, m⟩))
        refine GW.val 0 rfl (by kernel_rfl) (by kernel_rfl) (by kernel_rfl) rfl rfl hS (fun w' hS' => EX.move rfl) ?_
        refine GW.val 1 rfl (by kernel_rfl) (by kernel_rfl) (by kernel_rfl) rfl rfl hS (fun w' hS' => EX.move rfl) ?_
        refine GW.call 2 rfl (by kernel_rfl) rfl rfl rfl (cp w1.drew) ?_
        rintro _ w2 ⟨rfl, hx2⟩
        refine ⟨⟨hS.1.trans hx2, hS.2.ext hx2⟩, fun hS => ?_⟩
        refine GW.val 3 rfl (by kernel_rfl) (by kernel_rfl) (by kernel_rfl) rfl rfl hS (fun w' hS' => by first | exact EX.eqlN (b := 0) rfl rfl | exact EX.eqlZ rfl rfl) ?_
        refine GW.val 4 rfl (by kernel_rfl) (by kernel_rfl) (by kernel_rfl) rfl rfl hS (fun w' hS' => EX.move rfl) ?_
        refine GW.as 29 (.bool false) rfl (congrArg Value.bool (decide_eq_false (by decide))) ?_
        refine GW.pass 5 rfl (by kernel_rfl) (by kernel_rfl) (by kernel_rfl) rfl rfl hS ?_
        refine GW.pass 6 rfl (by kernel_rfl) (by kernel_rfl) (by kernel_rfl) rfl rfl hS ?_
        refine GW.pass 7 rfl (by kernel_rfl) (by kernel_rfl) (by kernel_rfl) rfl rfl hS ?_
        refine GW.pass 8 rfl (by kernel_rfl) (by kernel_rfl) (by kernel_rfl) rfl rfl hS ?_
        refine GW.pass 9 rfl (by kernel_rfl) (by kernel_rfl) (by kernel_rfl) rfl rfl hS ?_
        refine GW.val 10 rfl (by kernel_rfl) (by kernel_rfl) (by kernel_rfl) rfl rfl hS (fun w' hS' => EX.pickF rfl rfl) ?_
        refine GW.val 11 rfl (by kernel_rfl) (by kernel_rfl) (by kernel_rfl) rfl rfl hS (fun w' hS' => EX.assign rfl) ?_
        refine GW.val 12 rfl (by kernel_rfl) (by kernel_rfl) (by kernel_rfl) rfl rfl hS (fun w' hS' => EX.assign rfl) ?_
        refine GW.done (by kernel_rfl) ?_
        refine KW.ret (ret2 rfl rfl rfl ?_)
        exact ⟨told_no m.path (by rw [data2, if_neg (fun q => hc q.1)]), hS.1⟩
    · have h2' : ¬ kd = 2 := h2
      refine KW.skip (KW.leave (KW.seq (KW.region ?_)))
      refine OW.val rfl rfl (EX.assign rfl) ?_
      refine OW.val rfl rfl (EX.assign rfl) ?_
      refine OW.nil ?_
      refine KW.ret (ret2 rfl rfl rfl ?_)
      exact ⟨told_no [] (data3 h1' h2'), hx1⟩
end Go.Proofs.Ytlpnoogcdnfllaa
/- wal: notes, by the document; records are read as notes. -/
namespace Go.Proofs.Ytlpnoogcdnfllaa
set_option linter.unnecessarySimpa false
open Go.RowKit Rec Pth Dsk Wal
set_option linter.unusedVariables false
set_option linter.unusedSimpArgs false

theorem bare_iff (m : M) : m = bare m.path ↔ m.start = 0 ∧ m.sectors = 0 ∧ m.size = 0 ∧ m.sum = 0 := by
  obtain ⟨p, a, b, c, d⟩ := m
  simp [bare]
set_option maxRecDepth 20000 in
theorem rmay_s (n : Nt) (hn : n.mem.Ok) (w : World) : Ret Try.prog 39 [.agg n.cells.toArray] w fun v w' => Told n v ∧ Ext w w' := by
  obtain ⟨kd, m⟩ := n
  have hn' : m.Ok := hn
  refine Ret.enter Try.func39 rfl Try.ntmps39 (by kernel_rfl) rfl ?_
  refine KW.seq (KW.region ?_)
  refine OW.boxS rfl rfl rfl ?_
  rintro nb w1 hge1 hb1 hx1
  refine OW.val rfl rfl (EX.assign rfl) ?_
  refine OW.val rfl rfl (EX.assign rfl) ?_
  refine OW.nil ?_
  refine KW.seq (KW.seq (KW.region ?_))
  refine OW.val rfl rfl (EX.fieldAddr (off := 0) Try.underlying69 rfl rfl ti3 rfl rfl) ?_
  replace hb1 : Bk w1 nb 69 (Nt.cells ⟨kd, m⟩) := hb1
  have hsub := hb1.part (o := 1) (l2 := m.cells) rfl
  refine OW.val rfl rfl (EX.load Try.underlying3 rfl rfl (hb1.cell_of rfl)) ?_
  refine OW.val rfl rfl (by first | exact EX.eqlN (b := 1) rfl rfl | exact EX.eqlZ rfl rfl) ?_
  refine OW.nil ?_
  refine KW.condD rfl (fun h1 => ?_) (fun h1 => ?_)
  · have h1' : kd = 1 := h1
    subst h1'
    refine KW.seq (KW.region ?_)
    refine OW.val rfl rfl (EX.fieldAddr (off := 1) Try.underlying69 rfl rfl ti67 rfl rfl) ?_
    refine OW.val rfl rfl (EX.loadA (l := m.cells) Try.underlying67 rfl ti67 rfl rfl hsub) ?_
    refine OW.call rfl rfl rfl (rmember_s m hn' w1) ?_
    rintro _ w2 ⟨rfl, hx2⟩
    refine OW.val rfl rfl (EX.move rfl) ?_
    refine OW.val rfl rfl (EX.extract rfl rfl) ?_
    refine OW.val rfl rfl (EX.extract rfl rfl) ?_
    refine OW.val rfl rfl (EX.assign rfl) ?_
    refine OW.val rfl rfl (EX.assign rfl) ?_
    refine OW.nil ?_
    refine KW.seq (KW.region ?_)
    refine OW.val rfl rfl (EX.move rfl) ?_
    refine OW.val rfl rfl (EX.move rfl) ?_
    refine OW.val rfl rfl (by first | exact EX.eqlN (b := 0) rfl rfl | exact EX.eqlZ rfl rfl) ?_
    refine OW.val rfl rfl (EX.assign rfl) ?_
    refine OW.val rfl rfl (EX.assign rfl) ?_
    refine OW.nil ?_
    refine KW.ret (ret2 rfl rfl rfl ?_)
    refine ⟨?_, hx1.trans hx2⟩
    by_cases h : mayM m
    · rw [memberM_some h]
      exact told_yes (by rw [data1, if_pos h])
    · rw [memberM_none h]
      exact told_no _ (by rw [data1, if_neg h])
  · have h1' : ¬ kd = 1 := h1
    refine KW.skip (KW.seq ?_)
    refine KW.cut1 (fun (wr : World) => Ext w1 wr) (fun (wr : World) => [(1, .pointer (some ⟨nb, 0, none⟩)), (6, .bool (decide ((kd = 2 ∧ checkP m.path = 0))))]) (fun (wr : World) => wr) ?_ ?_
    · refine KW.region ?_
      refine OW.val rfl rfl (EX.fieldAddr (off := 0) Try.underlying69 rfl rfl ti3 rfl rfl) ?_
      refine OW.val rfl rfl (EX.load Try.underlying3 rfl rfl (hb1.cell_of rfl)) ?_
      refine OW.val rfl rfl (by first | exact EX.eqlN (b := 2) rfl rfl | exact EX.eqlZ rfl rfl) ?_
      refine OW.val rfl rfl (EX.move rfl) ?_
      refine OW.splitD 23 rfl (fun h2 => ?_) (fun h2 => ?_)
      · have h2' : kd = 2 := by simpa using h2
        refine OW.val rfl rfl (EX.fieldAddr (off := 1) Try.underlying69 rfl rfl ti67 rfl rfl) ?_
        refine OW.val rfl rfl (EX.fieldAddr (off := 0) Try.underlying67 rfl rfl ti9 rfl rfl) ?_
        refine OW.val rfl rfl (EX.load Try.underlying9 rfl rfl (hb1.cell_of rfl)) ?_
        refine OW.call rfl rfl rfl (rcheck_s m.path hn'.path w1) ?_
        rintro _ w2 ⟨rfl, hx2⟩
        refine OW.val rfl rfl (by first | exact EX.eqlN (b := 0) rfl rfl | exact EX.eqlZ rfl rfl) ?_
        refine OW.val rfl rfl (EX.pickT rfl rfl) ?_
        refine OW.val rfl rfl (EX.assign rfl) ?_
        refine OW.nil ?_
        refine KW.as 6 (.bool (decide ((kd = 2 ∧ checkP m.path = 0)))) rfl (congrArg Value.bool (decide_eq_decide.2 ⟨fun q => ⟨h2', by omega⟩, fun q => by have := q.2; omega⟩)) ?_
        refine KW.meet1 (w2) ⟨rfl, rfl, trivial⟩ rfl ?_
        exact hx2
      · have h2' : ¬ kd = 2 := by simpa using h2
        refine OW.pass rfl rfl ?_
        refine OW.pass rfl rfl ?_
        refine OW.pass rfl rfl ?_
        refine OW.pass rfl rfl ?_
        refine OW.pass rfl rfl ?_
        refine OW.val rfl rfl (EX.pickF rfl rfl) ?_
        refine OW.val rfl rfl (EX.assign rfl) ?_
        refine OW.nil ?_
        refine KW.as 6 (.bool (decide ((kd = 2 ∧ checkP m.path = 0)))) rfl (congrArg Value.bool (decide_eq_false (fun q => h2' q.1)).symm) ?_
        refine KW.meet1 (w1) ⟨rfl, rfl, trivial⟩ rfl ?_
        exact Ext.refl _
    · rintro wr hxr
      have hb2 := hb1.ext hxr
      have hsub2 := hb2.part (o := 1) (l2 := m.cells) rfl
      refine KW.seq (KW.region ?_)
      refine OW.val rfl rfl (EX.fieldAddr (off := 1) Try.underlying69 rfl rfl ti67 rfl rfl) ?_
      refine OW.val rfl rfl (EX.loadA (l := m.cells) Try.underlying67 rfl ti67 rfl rfl hsub2) ?_
      refine OW.allocB (l := [str [], .int .i64 0, .int .i64 0, .int .i64 0, .int .u32 0]) rfl rfl ti67 rfl ?_
      rintro mb w3 hge3 hm3 hx3
      refine OW.storeS rfl ti67 rfl rfl rfl (by first | rfl | (simp only [List.all_cons, List.all_nil, Bool.and_true, Bool.true_and, Bool.and_eq_true, Value.oneCell']; repeat (first | assumption | exact Own.one (by assumption) | constructor))) (hm3) (Nat.le_refl _) ?_
      rintro w4 hm4 hmo4
      refine OW.nil ?_
      refine KW.seq ?_
      replace hm4 : Bk w4 mb 67 m.cells := hm4
      have x3 := (hx1.trans hxr).trans hx3
      have x4 : Ext w w4 := below_mo x3 hmo4 x3.size (fun k hk => by simp at hk; have := (hx1.trans hxr).size; omega)
      have no : ¬ (kd = 2 ∧ checkP m.path = 0 ∧ m = bare m.path) → noteD ⟨kd, m⟩ = none := fun h => by
        by_cases h2 : kd = 2
        · subst h2
          rw [data2, if_neg (fun q => h ⟨rfl, q⟩)]
        · exact data3 h1' h2
      have bi := bare_iff m
      by_cases hok : kd = 2 ∧ checkP m.path = 0
      · rw [decide_eq_true hok]
        refine KW.regionQ (by kernel_rfl) (by kernel_rfl) ?_
        refine QW.val rfl rfl (fun _ => EX.fieldAddr (off := 0) Try.underlying67 rfl rfl ti9 rfl rfl) ?_
        refine QW.val rfl rfl (fun _ => EX.load Try.underlying9 rfl rfl (hm4.cell_of rfl)) ?_
        refine QW.val rfl rfl (fun _ => EX.move rfl) ?_
        refine QW.val rfl rfl (fun _ => EX.move rfl) ?_
        refine QW.val rfl rfl (fun _ => EX.fieldAddr (off := 1) Try.underlying67 rfl rfl ti3 rfl rfl) ?_
        refine QW.val rfl rfl (fun _ => EX.load Try.underlying3 rfl rfl (hm4.cell_of rfl)) ?_
        refine QW.val rfl rfl (fun _ => by first | exact EX.eqlN (b := 0) rfl rfl | exact EX.eqlZ rfl rfl) ?_
        refine QW.val rfl rfl (fun _ => EX.pickT rfl rfl) ?_
        refine QW.val rfl rfl (fun _ => EX.move rfl) ?_
        refine QW.splitD 40 rfl (fun a1 => ?_) (fun a1 => ?_)
        · refine QW.val rfl rfl (fun _ => EX.fieldAddr (off := 2) Try.underlying67 rfl rfl ti3 rfl rfl) ?_
          refine QW.val rfl rfl (fun _ => EX.load Try.underlying3 rfl rfl (hm4.cell_of rfl)) ?_
          refine QW.val rfl rfl (fun _ => by first | exact EX.eqlN (b := 0) rfl rfl | exact EX.eqlZ rfl rfl) ?_
          refine QW.val rfl rfl (fun _ => EX.pickT rfl rfl) ?_
          refine QW.val rfl rfl (fun _ => EX.move rfl) ?_
          refine QW.splitD 45 rfl (fun a2 => ?_) (fun a2 => ?_)
          · refine QW.val rfl rfl (fun _ => EX.fieldAddr (off := 3) Try.underlying67 rfl rfl ti3 rfl rfl) ?_
            refine QW.val rfl rfl (fun _ => EX.load Try.underlying3 rfl rfl (hm4.cell_of rfl)) ?_
            refine QW.val rfl rfl (fun _ => by first | exact EX.eqlN (b := 0) rfl rfl | exact EX.eqlZ rfl rfl) ?_
            refine QW.val rfl rfl (fun _ => EX.pickT rfl rfl) ?_
            refine QW.val rfl rfl (fun _ => EX.move rfl) ?_
            refine QW.splitD 50 rfl (fun a3 => ?_) (fun a3 => ?_)
            · refine QW.val rfl rfl (fun _ => EX.fieldAddr (off := 4) Try.underlying67 rfl rfl ti65 rfl rfl) ?_
              refine QW.val rfl rfl (fun _ => EX.load Try.underlying65 rfl rfl (hm4.cell_of rfl)) ?_
              refine QW.val rfl rfl (fun _ => by first | exact EX.eqlN (b := 0) rfl rfl | exact EX.eqlZ rfl rfl) ?_
              refine QW.val rfl rfl (fun _ => EX.pickT rfl rfl) ?_
              refine QW.val rfl rfl (fun _ => EX.assign rfl) ?_
              refine QW.val rfl rfl (fun _ => EX.assign rfl) ?_
              refine QW.nil (fun nq => ?_)
              refine KW.ret (ret2 rfl rfl rfl ?_)
              refine ⟨?_, x4.trans (Ext.drewN w4 nq)⟩
              by_cases a4 : m.sum = 0
              · rw [decide_eq_true (by omega)]
                refine told_yes ?_
                obtain ⟨rfl, hc⟩ := hok
                rw [data2, if_pos ⟨hc, bi.2 ⟨a1, a2, a3, a4⟩⟩]
              · rw [decide_eq_false (by omega)]
                exact told_no _ (no fun q => a4 (bi.1 q.2.2).2.2.2)
            · refine QW.pass rfl rfl ?_
              refine QW.pass rfl rfl ?_
              refine QW.pass rfl rfl ?_
              refine QW.val rfl rfl (fun _ => EX.pickF rfl rfl) ?_
              refine QW.val rfl rfl (fun _ => EX.assign rfl) ?_
              refine QW.val rfl rfl (fun _ => EX.assign rfl) ?_
              refine QW.nil (fun nq => ?_)
              refine KW.ret (ret2 rfl rfl rfl ?_)
              exact ⟨told_no _ (no fun q => a3 (bi.1 q.2.2).2.2.1), x4.trans (Ext.drewN w4 nq)⟩
          · refine QW.pass rfl rfl ?_
            refine QW.pass rfl rfl ?_
            refine QW.pass rfl rfl ?_
            refine QW.val rfl rfl (fun _ => EX.pickF rfl rfl) ?_
            refine QW.val rfl rfl (fun _ => EX.move rfl) ?_
            refine QW.pass rfl rfl ?_
            refine QW.pass rfl rfl ?_
            refine QW.pass rfl rfl ?_
            refine QW.val rfl rfl (fun _ => EX.pickF rfl rfl) ?_
            refine QW.val rfl rfl (fun _ => EX.assign rfl) ?_
            refine QW.val rfl rfl (fun _ => EX.assign rfl) ?_
            refine QW.nil (fun nq => ?_)
            refine KW.ret (ret2 rfl rfl rfl ?_)
            exact ⟨told_no _ (no fun q => a2 (bi.1 q.2.2).2.1), x4.trans (Ext.drewN w4 nq)⟩
        · refine QW.pass rfl rfl ?_
          refine QW.pass rfl rfl ?_
          refine QW.pass rfl rfl ?_
          refine QW.val rfl rfl (fun _ => EX.pickF rfl rfl) ?_
          refine QW.val rfl rfl (fun _ => EX.move rfl) ?_
          refine QW.pass rfl rfl ?_
          refine QW.pass rfl rfl ?_
          refine QW.pass rfl rfl ?_
          refine QW.val rfl rfl (fun _ => EX.pickF rfl rfl) ?_
          refine QW.val rfl rfl (fun _ => EX.move rfl) ?_
          refine QW.pass rfl rfl ?_
          refine QW.pass rfl rfl ?_
          refine QW.pass rfl rfl ?_
          refine QW.val rfl rfl (fun _ => EX.pickF rfl rfl) ?_
          refine QW.val rfl rfl (fun _ => EX.assign rfl) ?_
          refine QW.val rfl rfl (fun _ => EX.assign rfl) ?_
          refine QW.nil (fun nq => ?_)
          refine KW.ret (ret2 rfl rfl rfl ?_)
          exact ⟨told_no _ (no fun q => a1 (bi.1 q.2.2).1), x4.trans (Ext.drewN w4 nq)⟩
      · rw [decide_eq_false hok]
        refine KW.regionQ (by kernel_rfl) (by kernel_rfl) ?_
        refine QW.val rfl rfl (fun _ => EX.fieldAddr (off := 0) Try.underlying67 rfl rfl ti9 rfl rfl) ?_
        refine QW.val rfl rfl (fun _ => EX.load Try.underlying9 rfl rfl (hm4.cell_of rfl)) ?_
        refine QW.val rfl rfl (fun _ => EX.move rfl) ?_
        refine QW.val rfl rfl (fun _ => EX.move rfl) ?_
        refine QW.pass rfl rfl ?_
        refine QW.pass rfl rfl ?_
        refine QW.pass rfl rfl ?_
        refine QW.val rfl rfl (fun _ => EX.pickF rfl rfl) ?_
        refine QW.val rfl rfl (fun _ => EX.move rfl) ?_
        refine QW.pass rfl rfl ?_
        refine QW.pass rfl rfl ?_
        refine QW.pass rfl rfl ?_
        refine QW.val rfl rfl (fun _ => EX.pickF rfl rfl) ?_
        refine QW.val rfl rfl (fun _ => EX.move rfl) ?_
        refine QW.pass rfl rfl ?_
        refine QW.pass rfl rfl ?_
        refine QW.pass rfl rfl ?_
        refine QW.val rfl rfl (fun _ => EX.pickF rfl rfl) ?_
        refine QW.val rfl rfl (fun _ => EX.move rfl) ?_
        refine QW.pass rfl rfl ?_
        refine QW.pass rfl rfl ?_
        refine QW.pass rfl rfl ?_
        refine QW.val rfl rfl (fun _ => EX.pickF rfl rfl) ?_
        refine QW.val rfl rfl (fun _ => EX.assign rfl) ?_
        refine QW.val rfl rfl (fun _ => EX.assign rfl) ?_
        refine QW.nil (fun nq => ?_)
        refine KW.ret (ret2 rfl rfl rfl ?_)
        exact ⟨told_no _ (no fun q => hok ⟨q.1, q.2.1⟩), x4.trans (Ext.drewN w4 nq)⟩
end Go.Proofs.Ytlpnoogcdnfllaa
/- wal: records are read as notes. -/
namespace Go.Proofs.Ytlpnoogcdnfllaa
set_option linter.unnecessarySimpa false
open Go.RowKit Rec Pth Dsk Wal
set_option linter.unusedVariables false
set_option linter.unusedSimpArgs false

theorem noteOf1 {g i : Int} {d : List UInt8} : noteOf ⟨1, g, i, d⟩ = if (memL (d.length + 1) d []).2 = 0 ∧ (memL (d.length + 1) d []).1.length = 1 then some ⟨1, (memL (d.length + 1) d []).1.getD 0 (bare [])⟩ else none := by
  unfold noteOf
  rw [if_pos (show (1 : Nat) = 1 from rfl)]
theorem noteOf2 {g i : Int} {d : List UInt8} : noteOf ⟨2, g, i, d⟩ = if checkP d = 0 then some ⟨2, bare d⟩ else none := by
  unfold noteOf
  rw [if_neg (show ¬ (2 : Nat) = 1 by decide), if_pos (show (2 : Nat) = 2 from rfl)]
theorem noteOf3 {k : Nat} {g i : Int} {d : List UInt8} (h1 : k ≠ 1) (h2 : k ≠ 2) : noteOf ⟨k, g, i, d⟩ = none := by
  unfold noteOf
  rw [if_neg (show ¬ k = 1 from h1), if_neg (show ¬ k = 2 from h2)]
set_option maxRecDepth 20000 in
theorem note_s (x : R) (hk : x.kind ≤ 255) (hd : x.data.length ≤ 1000) (w : World) : Ret Try.prog 34 [.agg x.cells.toArray] w fun v w' => (∃ n : Nt, v = .tuple #[.agg n.cells.toArray, .bool (noteOf x).isSome] ∧ ∀ n', noteOf x = some n' → n' = n) ∧ Ext w w' := by
  obtain ⟨kd, g, ix, d⟩ := x
  have hk' : kd ≤ 255 := hk
  have hd' : d.length ≤ 1000 := hd
  have yes : ∀ n : Nt, noteOf ⟨kd, g, ix, d⟩ = some n → ∃ n0 : Nt, Value.tuple #[.agg n.cells.toArray, .bool true] = .tuple #[.agg n0.cells.toArray, .bool (noteOf ⟨kd, g, ix, d⟩).isSome] ∧ ∀ n', noteOf ⟨kd, g, ix, d⟩ = some n' → n' = n0 := fun n h => ⟨n, by rw [h]; rfl, fun n' h' => by rw [h] at h'; exact (Option.some.inj h').symm⟩
  have no : noteOf ⟨kd, g, ix, d⟩ = none → ∃ n0 : Nt, Value.tuple #[.agg (List.toArray (Nt.cells ⟨0, bare []⟩)), .bool false] = .tuple #[.agg n0.cells.toArray, .bool (noteOf ⟨kd, g, ix, d⟩).isSome] ∧ ∀ n', noteOf ⟨kd, g, ix, d⟩ = some n' → n' = n0 := fun h => ⟨⟨0, bare []⟩, by rw [h]; rfl, fun n' h' => by rw [h] at h'; cases h'⟩
  refine Ret.enter Try.func34 rfl Try.ntmps34 (by kernel_rfl) rfl ?_
  refine KW.seq (KW.region ?_)
  refine OW.boxS rfl rfl rfl ?_
  rintro xb w1 hge1 hb1 hx1
  replace hb1 : Bk w1 xb 77 (R.cells ⟨kd, g, ix, d⟩) := hb1
  refine OW.allocB (l := [.int .i64 0, str [], .int .i64 0, .int .i64 0, .int .i64 0, .int .u32 0]) rfl rfl ti69 rfl ?_
  rintro rb w2 hge2 hr2 hx2
  refine OW.val rfl rfl (EX.assign rfl) ?_
  refine OW.nil ?_
  refine KW.seq (KW.region ?_)
  refine OW.val rfl rfl (EX.fieldAddr (off := 0) Try.underlying77 rfl rfl ti5 rfl rfl) ?_
  have hb2 := hb1.ext hx2
  refine OW.val rfl rfl (EX.load Try.underlying5 rfl rfl (hb2.cell_of rfl)) ?_
  refine OW.val rfl rfl (by first | exact EX.convN (m := 9223372036854775807) Try.underlying5 Try.underlying3 rfl rfl (by omega) | exact EX.convZ Try.underlying5 Try.underlying3 rfl) ?_
  refine OW.val rfl rfl (EX.buildS (pl := [(0, 1), (1, 5)]) (ks := [0]) (is := [0]) (zs := [.int .i64 0, str [], .int .i64 0, .int .i64 0, .int .i64 0, .int .u32 0]) Try.underlying69 ti69 (by kernel_rfl) rfl rfl rfl (by first | rfl | (simp only [List.all_cons, List.all_nil, Bool.and_true, Bool.true_and, Bool.and_eq_true, Value.oneCell']; repeat (first | assumption | exact Own.one (by assumption) | constructor))) (by simp only [setAll, List.set_cons_zero, List.set_cons_succ]; rfl)) ?_
  refine OW.allocB (l := [.int .i64 0, str [], .int .i64 0, .int .i64 0, .int .i64 0, .int .u32 0]) rfl rfl ti69 rfl ?_
  rintro nb w3 hge3 hn3 hx3
  refine OW.storeS rfl ti69 rfl rfl rfl (by first | rfl | (simp only [List.all_cons, List.all_nil, Bool.and_true, Bool.true_and, Bool.and_eq_true, Value.oneCell']; repeat (first | assumption | exact Own.one (by assumption) | constructor))) (hn3) (Nat.le_refl _) ?_
  rintro w4 hn4 hm4
  refine OW.nil ?_
  refine KW.seq (KW.seq (KW.region ?_))
  refine OW.val rfl rfl (EX.fieldAddr (off := 0) Try.underlying69 rfl rfl ti3 rfl rfl) ?_
  have x2 := hx1.trans hx2
  have x3 := x2.trans hx3
  have x4 : Ext w w4 := below_mo x3 hm4 x3.size (fun k hk => by simp at hk; have := x2.size; omega)
  have hb4 := (hb2.ext hx3).mo hm4 (by simp; have := hb2.lt; omega)
  have hr4 := (hr2.ext hx3).mo hm4 (by simp; have := hr2.lt; omega)
  have hnr : nb ≠ rb := by have := hr2.lt; omega
  have z1 := hx1.size
  have z2 := x2.size
  refine OW.val rfl rfl (EX.load Try.underlying3 rfl rfl (hn4.cell_of rfl)) ?_
  refine OW.nil ?_
  refine KW.block (KW.seq (KW.region ?_))
  refine OW.val rfl rfl (by first | exact EX.eqlN (b := 1) rfl rfl | exact EX.eqlZ rfl rfl) ?_
  refine OW.val rfl rfl (EX.assign rfl) ?_
  refine OW.nil ?_
  refine KW.condD rfl (fun h1 => ?_) (fun h1 => ?_)
  · have h1' : kd = 1 := by omega
    subst h1'
    refine KW.seq (KW.region ?_)
    refine OW.val rfl rfl (EX.fieldAddr (off := 3) Try.underlying77 rfl rfl ti9 rfl rfl) ?_
    refine OW.val rfl rfl (EX.load Try.underlying9 rfl rfl (hb4.cell_of rfl)) ?_
    refine OW.call rfl rfl rfl (members_s d (by omega) w4) ?_
    rintro _ w5 ⟨vs, rfl, hown, hx5⟩
    refine OW.val rfl rfl (EX.move rfl) ?_
    refine OW.val rfl rfl (EX.extract rfl rfl) ?_
    refine OW.val rfl rfl (EX.extract rfl rfl) ?_
    refine OW.val rfl rfl (EX.assign rfl) ?_
    refine OW.val rfl rfl (EX.assign rfl) ?_
    refine OW.nil ?_
    refine KW.seq (KW.seq ?_)
    have e1 := noteOf1 (g := g) (i := ix) (d := d)
    have hr5 := hr4.ext hx5
    have hn5 := hn4.ext hx5
    have x5 := x4.trans hx5
    generalize (memL (d.length + 1) d []).2 = er at e1
    generalize (memL (d.length + 1) d []).1 = l at hown e1
    obtain ⟨A, c, rfl, _, hsl⟩ := hown.slice
    refine KW.region ?_
    refine OW.val rfl rfl (EX.move rfl) ?_
    refine OW.val rfl rfl (by first | exact EX.neqN (b := 0) rfl rfl | exact EX.neqZ rfl rfl) ?_
    refine OW.val rfl rfl (EX.move rfl) ?_
    refine OW.splitD 24 rfl (fun q1 => ?_) (fun q1 => ?_)
    · refine OW.pass rfl rfl ?_
      refine OW.pass rfl rfl ?_
      refine OW.pass rfl rfl ?_
      refine OW.val rfl rfl (EX.pickT rfl rfl) ?_
      refine OW.nil ?_
      refine KW.condT rfl (KW.seq (KW.region ?_))
      refine OW.val rfl rfl (EX.buildS (pl := [(0, 1), (1, 5)]) (ks := []) (is := []) (zs := [.int .i64 0, str [], .int .i64 0, .int .i64 0, .int .i64 0, .int .u32 0]) Try.underlying69 ti69 (by kernel_rfl) rfl rfl rfl (by first | rfl | (simp only [List.all_cons, List.all_nil, Bool.and_true, Bool.true_and, Bool.and_eq_true, Value.oneCell']; repeat (first | assumption | exact Own.one (by assumption) | constructor))) (by simp only [setAll, List.set_cons_zero, List.set_cons_succ]; rfl)) ?_
      refine OW.storeS rfl ti69 rfl rfl rfl (by first | rfl | (simp only [List.all_cons, List.all_nil, Bool.and_true, Bool.true_and, Bool.and_eq_true, Value.oneCell']; repeat (first | assumption | exact Own.one (by assumption) | constructor))) (hr5) (Nat.le_refl _) ?_
      rintro w6 hr6 hm6
      refine OW.val rfl rfl (EX.assign rfl) ?_
      refine OW.nil ?_
      refine KW.ret (retC2 rfl Try.underlying69 rfl ti69 rfl rfl (hr6) rfl ?_)
      exact ⟨no (by rw [e1, if_neg (fun q => q1 (by omega))]), below_mo x5 hm6 x5.size (fun k hk => by simp at hk; omega)⟩
    · refine OW.val rfl rfl (EX.move rfl) ?_
      refine OW.val rfl rfl (EX.lenA Try.underlying92 rfl) ?_
      refine OW.val rfl rfl (by first | exact EX.neqN (b := 1) rfl rfl | exact EX.neqZ rfl rfl) ?_
      refine OW.val rfl rfl (EX.pickF rfl rfl) ?_
      refine OW.nil ?_
      refine KW.condD rfl (fun q2 => ?_) (fun q2 => ?_)
      · refine KW.seq (KW.region ?_)
        refine OW.val rfl rfl (EX.buildS (pl := [(0, 1), (1, 5)]) (ks := []) (is := []) (zs := [.int .i64 0, str [], .int .i64 0, .int .i64 0, .int .i64 0, .int .u32 0]) Try.underlying69 ti69 (by kernel_rfl) rfl rfl rfl (by first | rfl | (simp only [List.all_cons, List.all_nil, Bool.and_true, Bool.true_and, Bool.and_eq_true, Value.oneCell']; repeat (first | assumption | exact Own.one (by assumption) | constructor))) (by simp only [setAll, List.set_cons_zero, List.set_cons_succ]; rfl)) ?_
        refine OW.storeS rfl ti69 rfl rfl rfl (by first | rfl | (simp only [List.all_cons, List.all_nil, Bool.and_true, Bool.true_and, Bool.and_eq_true, Value.oneCell']; repeat (first | assumption | exact Own.one (by assumption) | constructor))) (hr5) (Nat.le_refl _) ?_
        rintro w6 hr6 hm6
        refine OW.val rfl rfl (EX.assign rfl) ?_
        refine OW.nil ?_
        refine KW.ret (retC2 rfl Try.underlying69 rfl ti69 rfl rfl (hr6) rfl ?_)
        exact ⟨no (by rw [e1, if_neg (fun q => q2 (by omega))]), below_mo x5 hm6 x5.size (fun k hk => by simp at hk; omega)⟩
      · have hl1 : l.length = 1 := by omega
        obtain ⟨m, rfl⟩ := List.length_eq_one_iff.1 hl1
        obtain ⟨b, o, rfl, _, hcell⟩ := Sl.flat (cells := M.cells) hsl (c := 5) (fun _ => rfl) (by decide) (Nat.zero_lt_succ _ : 0 < [m].length)
        refine KW.skip (KW.region ?_)
        refine OW.val rfl rfl (EX.move rfl) ?_
        refine OW.val rfl rfl (EX.indexAddrS (i := 0) Try.underlying92 ti67 rfl rfl (by omega)) ?_
        refine OW.val rfl rfl (EX.loadA (l := m.cells) Try.underlying67 rfl ti67 rfl rfl hcell) ?_
        refine OW.val rfl rfl (EX.fieldAddr (off := 1) Try.underlying69 rfl rfl ti67 rfl rfl) ?_
        refine OW.storeS rfl ti67 rfl rfl rfl (by first | rfl | (simp only [List.all_cons, List.all_nil, Bool.and_true, Bool.true_and, Bool.and_eq_true, Value.oneCell']; repeat (first | assumption | exact Own.one (by assumption) | constructor))) (hn5) (Nat.le_refl _) ?_
        rintro w6 hn6 hm6
        refine OW.nil ?_
        refine KW.leave (KW.seq (KW.region ?_))
        replace hn6 : Bk w6 nb 69 (Nt.cells ⟨1, m⟩) := hn6
        have hr6 := hr5.mo hm6 (by simp; exact hnr.symm)
        have x6 : Ext w w6 := below_mo x5 hm6 x5.size (fun k hk => by simp at hk; omega)
        refine OW.val rfl rfl (EX.loadBk Try.underlying69 rfl ti69 rfl (hn6) (rfl)) ?_
        refine OW.storeS rfl ti69 rfl rfl rfl (by first | rfl | (simp only [List.all_cons, List.all_nil, Bool.and_true, Bool.true_and, Bool.and_eq_true, Value.oneCell']; repeat (first | assumption | exact Own.one (by assumption) | constructor))) (hr6) (Nat.le_refl _) ?_
        rintro w7 hr7 hm7
        refine OW.val rfl rfl (EX.assign rfl) ?_
        refine OW.nil ?_
        replace hr7 : Bk w7 rb 69 (Nt.cells ⟨1, m⟩) := hr7
        refine KW.ret (retC2 rfl Try.underlying69 rfl ti69 rfl rfl (hr7) rfl ?_)
        exact ⟨yes _ (by rw [e1, if_pos ⟨by omega, rfl⟩]; rfl), below_mo x6 hm7 x6.size (fun k hk => by simp at hk; omega)⟩
  · have h1' : ¬ kd = 1 := by omega
    refine KW.seq (KW.region ?_)
    refine OW.val rfl rfl (by first | exact EX.eqlN (b := 2) rfl rfl | exact EX.eqlZ rfl rfl) ?_
    refine OW.val rfl rfl (EX.assign rfl) ?_
    refine OW.nil ?_
    refine KW.condD rfl (fun h2 => ?_) (fun h2 => ?_)
    · have h2' : kd = 2 := by omega
      subst h2'
      have e2 := noteOf2 (g := g) (i := ix) (d := d)
      have hcc := checkP_or d
      refine KW.seq (KW.seq (KW.region ?_))
      refine OW.val rfl rfl (EX.fieldAddr (off := 3) Try.underlying77 rfl rfl ti9 rfl rfl) ?_
      refine OW.val rfl rfl (EX.load Try.underlying9 rfl rfl (hb4.cell_of rfl)) ?_
      refine OW.call rfl rfl rfl (check_s d (by omega) w4) ?_
      rintro _ w5 ⟨rfl, hx5⟩
      refine OW.val rfl rfl (by first | exact EX.neqN (b := 0) rfl rfl | exact EX.neqZ rfl rfl) ?_
      refine OW.nil ?_
      have hr5 := hr4.ext hx5
      have hn5 := hn4.ext hx5
      have hb5 := hb4.ext hx5
      have x5 := x4.trans hx5
      refine KW.condD rfl (fun q1 => ?_) (fun q1 => ?_)
      · refine KW.seq (KW.region ?_)
        refine OW.val rfl rfl (EX.buildS (pl := [(0, 1), (1, 5)]) (ks := []) (is := []) (zs := [.int .i64 0, str [], .int .i64 0, .int .i64 0, .int .i64 0, .int .u32 0]) Try.underlying69 ti69 (by kernel_rfl) rfl rfl rfl (by first | rfl | (simp only [List.all_cons, List.all_nil, Bool.and_true, Bool.true_and, Bool.and_eq_true, Value.oneCell']; repeat (first | assumption | exact Own.one (by assumption) | constructor))) (by simp only [setAll, List.set_cons_zero, List.set_cons_succ]; rfl)) ?_
        refine OW.storeS rfl ti69 rfl rfl rfl (by first | rfl | (simp only [List.all_cons, List.all_nil, Bool.and_true, Bool.true_and, Bool.and_eq_true, Value.oneCell']; repeat (first | assumption | exact Own.one (by assumption) | constructor))) (hr5) (Nat.le_refl _) ?_
        rintro w6 hr6 hm6
        refine OW.val rfl rfl (EX.assign rfl) ?_
        refine OW.nil ?_
        refine KW.ret (retC2 rfl Try.underlying69 rfl ti69 rfl rfl (hr6) rfl ?_)
        exact ⟨no (by rw [e2, if_neg (by omega)]), below_mo x5 hm6 x5.size (fun k hk => by simp at hk; omega)⟩
      · refine KW.skip (KW.region ?_)
        refine OW.val rfl rfl (EX.fieldAddr (off := 3) Try.underlying77 rfl rfl ti9 rfl rfl) ?_
        refine OW.val rfl rfl (EX.load Try.underlying9 rfl rfl (hb5.cell_of rfl)) ?_
        refine OW.val rfl rfl (EX.fieldAddr (off := 1) Try.underlying69 rfl rfl ti67 rfl rfl) ?_
        refine OW.val rfl rfl (EX.fieldAddr (off := 0) Try.underlying67 rfl rfl ti9 rfl rfl) ?_
        refine OW.storeB rfl ti9 rfl rfl (by first | rfl | assumption | exact Own.one (by assumption)) (hn5) (by simp) ?_
        rintro w6 hn6 hm6
        refine OW.nil ?_
        refine KW.leave (KW.seq (KW.region ?_))
        replace hn6 : Bk w6 nb 69 (Nt.cells ⟨2, bare d⟩) := hn6
        have hr6 := hr5.mo hm6 (by simp; exact hnr.symm)
        have x6 : Ext w w6 := below_mo x5 hm6 x5.size (fun k hk => by simp at hk; omega)
        refine OW.val rfl rfl (EX.loadBk Try.underlying69 rfl ti69 rfl (hn6) (rfl)) ?_
        refine OW.storeS rfl ti69 rfl rfl rfl (by first | rfl | (simp only [List.all_cons, List.all_nil, Bool.and_true, Bool.true_and, Bool.and_eq_true, Value.oneCell']; repeat (first | assumption | exact Own.one (by assumption) | constructor))) (hr6) (Nat.le_refl _) ?_
        rintro w7 hr7 hm7
        refine OW.val rfl rfl (EX.assign rfl) ?_
        refine OW.nil ?_
        replace hr7 : Bk w7 rb 69 (Nt.cells ⟨2, bare d⟩) := hr7
        refine KW.ret (retC2 rfl Try.underlying69 rfl ti69 rfl rfl (hr7) rfl ?_)
        exact ⟨yes _ (by rw [e2, if_pos (by omega)]), below_mo x6 hm7 x6.size (fun k hk => by simp at hk; omega)⟩
    · have h2' : ¬ kd = 2 := by omega
      refine KW.seq (KW.region ?_)
      refine OW.val rfl rfl (EX.buildS (pl := [(0, 1), (1, 5)]) (ks := []) (is := []) (zs := [.int .i64 0, str [], .int .i64 0, .int .i64 0, .int .i64 0, .int .u32 0]) Try.underlying69 ti69 (by kernel_rfl) rfl rfl rfl (by first | rfl | (simp only [List.all_cons, List.all_nil, Bool.and_true, Bool.true_and, Bool.and_eq_true, Value.oneCell']; repeat (first | assumption | exact Own.one (by assumption) | constructor))) (by simp only [setAll, List.set_cons_zero, List.set_cons_succ]; rfl)) ?_
      refine OW.storeS rfl ti69 rfl rfl rfl (by first | rfl | (simp only [List.all_cons, List.all_nil, Bool.and_true, Bool.true_and, Bool.and_eq_true, Value.oneCell']; repeat (first | assumption | exact Own.one (by assumption) | constructor))) (hr4) (Nat.le_refl _) ?_
      rintro w6 hr6 hm6
      refine OW.val rfl rfl (EX.assign rfl) ?_
      refine OW.nil ?_
      refine KW.ret (retC2 rfl Try.underlying69 rfl ti69 rfl rfl (hr6) rfl ?_)
      exact ⟨no (noteOf3 h1' h2'), below_mo x4 hm6 x4.size (fun k hk => by simp at hk; omega)⟩
end Go.Proofs.Ytlpnoogcdnfllaa
/- wal, in plain words: devices stay whole and small behind appended transactions. No program is spoken of. -/
namespace Go.Proofs.Ytlpnoogcdnfllaa.Wal
set_option linter.unnecessarySimpa false
open Go.RowKit Rec Pth Dsk
set_option linter.unusedVariables false
set_option linter.unusedSimpArgs false
/-- few calls -/
structure Sm (D : Dv) (k : Nat) : Prop where
  calls : D.calls ≤ k
  pend : D.pend.length ≤ k
  at_ : D.at_ ≤ 9223372036854775807
  keep : D.keep.length ≤ 140737488355328
theorem Sm.small {D : Dv} {k : Nat} (h : Sm D k) (hk : k ≤ 1000000) : Small D := ⟨by have := h.calls; omega, by have := h.pend; omega, h.at_, h.keep⟩
theorem Sm.more {D : Dv} {k k' : Nat} (h : Sm D k) (hk : k ≤ k') : Sm D k' := ⟨by have := h.calls; omega, by have := h.pend; omega, h.at_, h.keep⟩
theorem does_sm {D : Dv} {k : Nat} (h : Sm D k) (c : Option Ch) : Sm (D.does c).1 (k + 1) := by
  obtain ⟨h1, h2, h3, h4⟩ := h
  by_cases h5 : (D.pushed c).at_ = 1
  · rw [does_fall h5]
    refine ⟨?_, by simp, by simp, by simp⟩
    cases c <;> simp only [Dv.pushed] <;> omega
  · rw [does_go h5]
    cases c with
    | none => exact ⟨by simp only [Dv.done, Dv.pushed]; omega, by simp [Dv.done], by simp only [Dv.done, Dv.pushed]; omega, h4⟩
    | some c => exact ⟨by simp only [Dv.done, Dv.pushed]; omega, by simp only [Dv.done, Dv.pushed, List.length_append, List.length_singleton]; omega, by simp only [Dv.done, Dv.pushed]; omega, h4⟩
theorem write_sm {D : Dv} {k : Nat} (h : Sm D k) (i : Int) (s : List UInt8) : Sm (D.write i s).1 (k + 1) := by
  unfold Dv.write
  split
  · exact h.more (by omega)
  · split
    · exact h.more (by omega)
    · split
      · exact h.more (by omega)
      · exact does_sm h _
theorem sync_sm {D : Dv} {k : Nat} (h : Sm D k) : Sm D.sync.1 (k + 1) := by
  unfold Dv.sync
  split
  · exact h.more (by omega)
  · exact does_sm h _
theorem writes_cons (D : Dv) (i : Nat) (s : By) (l : List By) : writes D i (s :: l) = if (D.write i s).2 = 0 then writes (D.write i s).1 (i + 1) l else D.write i s := rfl
theorem writes_ok : ∀ (l : List By) (D : Dv) (i : Nat), D.Ok → (writes D i l).1.Ok
  | [], D, i, h => h
  | s :: l, D, i, h => by
    rw [writes_cons]
    split
    · exact writes_ok l _ _ (write_ok h _ _)
    · exact write_ok h _ _
theorem writes_sm : ∀ (l : List By) (D : Dv) (i k : Nat), Sm D k → Sm (writes D i l).1 (k + l.length)
  | [], D, i, k, h => h
  | s :: l, D, i, k, h => by
    rw [writes_cons]
    split
    · have := writes_sm l _ (i + 1) (k + 1) (write_sm h i s)
      rw [List.length_cons]
      exact this.more (by omega)
    · exact (write_sm h i s).more (by rw [List.length_cons]; omega)
theorem append_ok {D : Dv} (h : D.Ok) (gen at_ : Int) (l : List Nt) : (appendW D gen at_ l).1.Ok := by
  unfold appendW
  split
  · exact h
  · simp only
    split
    · split
      · exact sync_ok (writes_ok _ _ _ h)
      · exact sync_ok (writes_ok _ _ _ h)
    · exact writes_ok _ _ _ h
theorem append_sm {D : Dv} {k : Nat} (h : Sm D k) (gen at_ : Int) (l : List Nt) : Sm (appendW D gen at_ l).1 (k + 21) := by
  unfold appendW
  split
  · exact h.more (by omega)
  · rename_i hb
    have hl : l.length ≤ 19 := by
      have : ¬ badW gen at_ l.length := fun q => hb (.inl q)
      unfold badW at this
      omega
    have h1 := writes_sm (txs gen.toNat at_.toNat l) D (10 + at_.toNat) k h
    rw [txs_length] at h1
    simp only
    split
    · split
      · exact (sync_sm h1).more (by omega)
      · exact (sync_sm h1).more (by omega)
    · exact h1.more (by omega)
theorem recs_len (g : Nat) : ∀ (l : List Nt) (i : Nat), (∀ n ∈ l, mayN n) → ∀ s ∈ recs g i l, s.length = 512
  | [], _, _, s, hs => by simp [recs] at hs
  | n :: l, i, h, s, hs => by
    rw [recs] at hs
    rcases List.mem_cons.1 hs with q | q
    · rw [q]
      exact text_length _ _ _ _ (by have := (noteB_len (h n (by simp))).1; omega)
    · exact recs_len g l (i + 1) (fun x hx => h x (by simp [hx])) s q
theorem txs_len {g i : Nat} {l : List Nt} (h : ∀ n ∈ l, mayN n) : ∀ s ∈ txs g i l, s.length = 512 := by
  intro s hs
  unfold txs at hs
  rcases List.mem_append.1 hs with q | q
  · exact recs_len g l i h s q
  · rw [List.mem_singleton.1 q]
    exact text_length _ _ _ _ (by simp)
theorem app_bad {D : Dv} {gen at_ : Int} {l : List Nt} (h : badW gen at_ l.length ∨ ∃ n ∈ l, ¬ mayN n) : appendW D gen at_ l = (D, 0, 210) := by unfold appendW; rw [if_pos h]
theorem app_go {D : Dv} {gen at_ : Int} {l : List Nt} (h1 : ¬ badW gen at_ l.length) (h2 : ∀ n ∈ l, mayN n) : appendW D gen at_ l = (let r := writes D (10 + at_.toNat) (txs gen.toNat at_.toNat l); if r.2 = 0 then (if r.1.sync.2 = 0 then (r.1.sync.1, at_ + l.length + 1, 0) else (r.1.sync.1, 0, r.1.sync.2)) else (r.1, 0, r.2)) := by
  unfold appendW
  rw [if_neg]
  rintro (h | ⟨n, hn, h⟩)
  · exact h1 h
  · exact h (h2 n hn)
end Go.Proofs.Ytlpnoogcdnfllaa.Wal
/- wal: transactions are appended. -/
namespace Go.Proofs.Ytlpnoogcdnfllaa
set_option linter.unnecessarySimpa false
open Go.RowKit Rec Pth Dsk Wal
set_option linter.unusedVariables false
set_option linter.unusedSimpArgs false

theorem right_s (gen : Int) (w : World) : Ret Try.prog 31 [.int .i64 gen] w fun v w' => v = .bool (decide (¬ badG gen)) ∧ w = w' := by
  refine Ret.enter Try.func31 rfl Try.ntmps31 (by kernel_rfl) rfl ?_
  refine KW.seq (KW.region ?_)
  refine OW.val rfl rfl (EX.assign rfl) ?_
  refine OW.nil ?_
  refine KW.seq ?_
  refine KW.region ?_
  refine OW.val rfl rfl (EX.move rfl) ?_
  refine OW.val rfl rfl (by first | exact EX.geqN (b := 0) rfl rfl | exact EX.geqZ rfl rfl) ?_
  refine OW.val rfl rfl (EX.move rfl) ?_
  refine OW.splitD 5 rfl (fun h1 => ?_) (fun h1 => ?_)
  · refine OW.val rfl rfl (EX.move rfl) ?_
    refine OW.val rfl rfl (by first | exact EX.leqN (b := 4611686018427387904) rfl rfl | exact EX.leqZ rfl rfl) ?_
    refine OW.val rfl rfl (EX.pickT rfl rfl) ?_
    refine OW.val rfl rfl (EX.assign rfl) ?_
    refine OW.nil ?_
    refine KW.ret (ret1 rfl rfl ?_)
    refine ⟨congrArg Value.bool (decide_eq_decide.2 ?_), rfl⟩
    unfold badG; omega
  · refine OW.pass rfl rfl ?_
    refine OW.pass rfl rfl ?_
    refine OW.val rfl rfl (EX.pickF rfl rfl) ?_
    refine OW.val rfl rfl (EX.assign rfl) ?_
    refine OW.nil ?_
    refine KW.ret (ret1 rfl rfl ?_)
    refine ⟨congrArg Value.bool (decide_eq_false ?_).symm, rfl⟩
    unfold badG; omega
theorem noteGood {n : Nt} (h : mayN n) : n.kind = 1 ∨ n.kind = 2 := (noteB_len h).2
set_option maxRecDepth 20000 in
theorem append_s {D : Dv} (hD : D.Ok) {k : Nat} (hsm : Sm D k) (hk : k ≤ 900000) (B b : Nat) (gen at_ : Int) (g0 : -9223372036854775808 ≤ gen) (g1 : gen ≤ 9223372036854775807) (a0 : -9223372036854775808 ≤ at_) (a1 : at_ ≤ 9223372036854775807) (l : List Nt) (hl : l.length ≤ 140737488355328) (hok : ∀ n ∈ l, n.mem.Ok) (A : Option Addr) (c C : Nat) (w : World) (h : DevAt w B b D) (hs : Sl w C A (ntsV l)) :
    Ret Try.prog 16 [.pointer (some ⟨b, 0, none⟩), .int .i64 gen, .int .i64 at_, .slice A l.length c] w fun v w' => v = .tuple #[.int .i64 (appendW D gen at_ l).2.1, .int .i64 (((appendW D gen at_ l).2.2 : Nat) : Int)] ∧ DevAt w' B b (appendW D gen at_ l).1 ∧ Tm w w' B dty := by
  have hcap := hD.cap
  have bye : ∀ w', Ext w w' → (badW gen at_ l.length ∨ ∃ n ∈ l, ¬ mayN n) → (Value.tuple #[.int .i64 0, .int .i64 210] = .tuple #[.int .i64 (appendW D gen at_ l).2.1, .int .i64 (((appendW D gen at_ l).2.2 : Nat) : Int)] ∧ DevAt w' B b (appendW D gen at_ l).1 ∧ Tm w w' B dty) := fun w' hx q => by
    rw [app_bad q]
    exact ⟨rfl, h.ext hx, Tm.of_ext hx _ _⟩
  refine Ret.enter Try.func16 rfl Try.ntmps16 (by kernel_rfl) rfl ?_
  refine KW.seq (KW.region ?_)
  refine OW.val rfl rfl (EX.assign rfl) ?_
  refine OW.val rfl rfl (EX.assign rfl) ?_
  refine OW.nil ?_
  refine KW.seq (KW.seq (KW.region ?_))
  refine OW.val rfl rfl (EX.move rfl) ?_
  refine OW.call rfl rfl rfl (capacity_d h hD) ?_
  rintro _ _ ⟨rfl, rfl⟩
  refine OW.val rfl rfl (by first | exact EX.eqlN (b := 0) rfl rfl | exact EX.eqlZ rfl rfl) ?_
  refine OW.nil ?_
  refine KW.condD rfl (fun h0 => ?_) (fun h0 => ?_)
  · omega
  · refine KW.skip (KW.seq (KW.seq ?_))
    refine KW.region ?_
    refine OW.val rfl rfl (EX.move rfl) ?_
    refine OW.call rfl rfl rfl (right_s gen w) ?_
    rintro _ _ ⟨rfl, rfl⟩
    refine OW.val rfl rfl (by first | exact EX.notD rfl | exact EX.notB rfl) ?_
    refine OW.val rfl rfl (EX.move rfl) ?_
    refine OW.splitD 29 rfl (fun b0 => ?_) (fun b0 => ?_)
    · refine OW.pass rfl rfl ?_
      refine OW.pass rfl rfl ?_
      refine OW.val rfl rfl (EX.pickT rfl rfl) ?_
      refine OW.val rfl rfl (EX.move rfl) ?_
      refine OW.pass rfl rfl ?_
      refine OW.pass rfl rfl ?_
      refine OW.val rfl rfl (EX.pickT rfl rfl) ?_
      refine OW.val rfl rfl (EX.move rfl) ?_
      refine OW.pass rfl rfl ?_
      refine OW.pass rfl rfl ?_
      refine OW.pass rfl rfl ?_
      refine OW.val rfl rfl (EX.pickT rfl rfl) ?_
      refine OW.val rfl rfl (EX.move rfl) ?_
      refine OW.pass rfl rfl ?_
      refine OW.pass rfl rfl ?_
      refine OW.pass rfl rfl ?_
      refine OW.pass rfl rfl ?_
      refine OW.pass rfl rfl ?_
      refine OW.val rfl rfl (EX.pickT rfl rfl) ?_
      refine OW.nil ?_
      refine KW.condT rfl (KW.seq (KW.region ?_))
      refine OW.val rfl rfl (EX.assign rfl) ?_
      refine OW.val rfl rfl (EX.assign rfl) ?_
      refine OW.nil ?_
      refine KW.ret (ret2 rfl rfl rfl ?_)
      exact bye _ (Ext.refl _) (.inl (by unfold badG at b0; unfold badW; omega))
    · unfold badG at b0
      refine OW.val rfl rfl (EX.move rfl) ?_
      refine OW.val rfl rfl (by first | exact EX.lssN (b := 0) rfl rfl | exact EX.lssZ rfl rfl) ?_
      refine OW.val rfl rfl (EX.pickF rfl rfl) ?_
      refine OW.val rfl rfl (EX.move rfl) ?_
      refine OW.splitD 33 rfl (fun b1 => ?_) (fun b1 => ?_)
      · refine OW.pass rfl rfl ?_
        refine OW.pass rfl rfl ?_
        refine OW.val rfl rfl (EX.pickT rfl rfl) ?_
        refine OW.val rfl rfl (EX.move rfl) ?_
        refine OW.pass rfl rfl ?_
        refine OW.pass rfl rfl ?_
        refine OW.pass rfl rfl ?_
        refine OW.val rfl rfl (EX.pickT rfl rfl) ?_
        refine OW.val rfl rfl (EX.move rfl) ?_
        refine OW.pass rfl rfl ?_
        refine OW.pass rfl rfl ?_
        refine OW.pass rfl rfl ?_
        refine OW.pass rfl rfl ?_
        refine OW.pass rfl rfl ?_
        refine OW.val rfl rfl (EX.pickT rfl rfl) ?_
        refine OW.nil ?_
        refine KW.condT rfl (KW.seq (KW.region ?_))
        refine OW.val rfl rfl (EX.assign rfl) ?_
        refine OW.val rfl rfl (EX.assign rfl) ?_
        refine OW.nil ?_
        refine KW.ret (ret2 rfl rfl rfl ?_)
        exact bye _ (Ext.refl _) (.inl (by unfold badW; omega))
      · refine OW.val rfl rfl (EX.move rfl) ?_
        refine OW.val rfl rfl (by first | exact EX.gtrN (b := 20) rfl rfl | exact EX.gtrZ rfl rfl) ?_
        refine OW.val rfl rfl (EX.pickF rfl rfl) ?_
        refine OW.val rfl rfl (EX.move rfl) ?_
        refine OW.splitD 37 rfl (fun b2 => ?_) (fun b2 => ?_)
        · refine OW.pass rfl rfl ?_
          refine OW.pass rfl rfl ?_
          refine OW.pass rfl rfl ?_
          refine OW.val rfl rfl (EX.pickT rfl rfl) ?_
          refine OW.val rfl rfl (EX.move rfl) ?_
          refine OW.pass rfl rfl ?_
          refine OW.pass rfl rfl ?_
          refine OW.pass rfl rfl ?_
          refine OW.pass rfl rfl ?_
          refine OW.pass rfl rfl ?_
          refine OW.val rfl rfl (EX.pickT rfl rfl) ?_
          refine OW.nil ?_
          refine KW.condT rfl (KW.seq (KW.region ?_))
          refine OW.val rfl rfl (EX.assign rfl) ?_
          refine OW.val rfl rfl (EX.assign rfl) ?_
          refine OW.nil ?_
          refine KW.ret (ret2 rfl rfl rfl ?_)
          exact bye _ (Ext.refl _) (.inl (by unfold badW; omega))
        · refine OW.val rfl rfl (EX.move rfl) ?_
          refine OW.val rfl rfl (EX.lenA Try.underlying48 rfl) ?_
          refine OW.val rfl rfl (by first | exact EX.eqlN (b := 0) rfl rfl | exact EX.eqlZ rfl rfl) ?_
          refine OW.val rfl rfl (EX.pickF rfl rfl) ?_
          refine OW.val rfl rfl (EX.move rfl) ?_
          refine OW.splitD 42 rfl (fun b3 => ?_) (fun b3 => ?_)
          · refine OW.pass rfl rfl ?_
            refine OW.pass rfl rfl ?_
            refine OW.pass rfl rfl ?_
            refine OW.pass rfl rfl ?_
            refine OW.pass rfl rfl ?_
            refine OW.val rfl rfl (EX.pickT rfl rfl) ?_
            refine OW.nil ?_
            refine KW.condT rfl (KW.seq (KW.region ?_))
            refine OW.val rfl rfl (EX.assign rfl) ?_
            refine OW.val rfl rfl (EX.assign rfl) ?_
            refine OW.nil ?_
            refine KW.ret (ret2 rfl rfl rfl ?_)
            exact bye _ (Ext.refl _) (.inl (by unfold badW; omega))
          · refine OW.val rfl rfl (EX.move rfl) ?_
            refine OW.val rfl rfl (EX.lenA Try.underlying48 rfl) ?_
            refine OW.val rfl rfl (EX.move rfl) ?_
            refine OW.val rfl rfl (by first | exact EX.subN (a := 20) (m := 9223372036854775807) rfl rfl rfl (by omega) | exact EX.subZ (m := 9223372036854775807) rfl rfl rfl rfl (by omega)) ?_
            refine OW.val rfl rfl (by first | exact EX.geqN rfl rfl | exact EX.geqZ rfl rfl) ?_
            refine OW.val rfl rfl (EX.pickF rfl rfl) ?_
            refine OW.nil ?_
            refine KW.condD rfl (fun b4 => ?_) (fun b4 => ?_)
            · refine KW.seq (KW.region ?_)
              refine OW.val rfl rfl (EX.assign rfl) ?_
              refine OW.val rfl rfl (EX.assign rfl) ?_
              refine OW.nil ?_
              refine KW.ret (ret2 rfl rfl rfl ?_)
              exact bye _ (Ext.refl _) (.inl (by unfold badW; omega))
            · obtain ⟨a, rfl⟩ := Int.eq_ofNat_of_zero_le (show 0 ≤ at_ by omega)
              obtain ⟨g, rfl⟩ := Int.eq_ofNat_of_zero_le (show 0 ≤ gen by omega)
              have nb : ¬ badW (g : Int) (a : Int) l.length := by unfold badW; omega
              refine KW.skip (KW.seq (KW.region ?_))
              refine OW.val rfl rfl (EX.assign rfl) ?_
              refine OW.nil ?_
              refine KW.seq (KW.seq (KW.region ?_))
              refine OW.val rfl rfl (EX.move rfl) ?_
              refine OW.val rfl rfl (EX.lenA Try.underlying48 rfl) ?_
              refine OW.val rfl rfl (EX.move rfl) ?_
              refine OW.nil ?_
              refine KW.cut2 (fun (v : Value) (wr : World) => (∀ n ∈ l, mayN n) ∧ Own wr w.heap.size 9 1 v l.length ((recs g a l).map str) ∧ Ext w wr) (fun (v : Value) (wr : World) => [(0, .pointer (some ⟨b, 0, none⟩)), (1, .int .i64 ((g : Nat) : Int)), (2, .int .i64 ((a : Nat) : Int)), (3, .slice A l.length c), (10, v)]) (fun (v : Value) (wr : World) => wr) ?_ ?_
              · refine KW.block ?_
                refine KW.loop3 (fun (i : Nat) (v : Value) (wr : World) => i ≤ l.length ∧ (∀ n ∈ l.take i, mayN n) ∧ Own wr w.heap.size 9 1 v i ((recs g a (l.take i)).map str) ∧ Ext w wr) (fun (i : Nat) (v : Value) (wr : World) => [(0, .pointer (some ⟨b, 0, none⟩)), (1, .int .i64 ((g : Nat) : Int)), (2, .int .i64 ((a : Nat) : Int)), (3, .slice A l.length c), (10, v), (49, .slice A l.length c), (50, .int .i64 ((l.length : Nat) : Int)), (51, .int .i64 ((i : Nat) : Int))]) (fun (i : Nat) (v : Value) (wr : World) => wr) (fun (i : Nat) (v : Value) (wr : World) => l.length - i) (0) (.slice none 0 0) (w) ⟨rfl, rfl, rfl, rfl, rfl, rfl, rfl, rfl, trivial⟩ rfl ?_ ?_
                · exact ⟨by omega, by simp, Own.nil _ _ _ _, Ext.refl _⟩
                · rintro i v wr ⟨hi, hall, hown, hx⟩
                  refine KW.seq (KW.region ?_)
                  refine OW.val rfl rfl (by first | exact EX.lssN rfl rfl | exact EX.lssZ rfl rfl) ?_
                  refine OW.nil ?_
                  refine KW.seq ?_
                  refine KW.condD rfl (fun hlt => ?_) (fun hlt => ?_)
                  · obtain ⟨bb, o, rfl, _, hcell⟩ := (hs.ext hx).flat (c := 6) (fun _ => rfl) (by decide) hlt
                    have hsn : l.take (i + 1) = l.take i ++ [l[i]] := (List.take_append_getElem hlt).symm
                    have hni := hok l[i] (List.getElem_mem hlt)
                    have hin : l[i] ∈ l := List.getElem_mem hlt
                    have hlt' : (l.take i).length = i := by rw [List.length_take]; omega
                    have hrec : recs g a (l.take (i + 1)) = recs g a (l.take i) ++ [text (l[i]).kind.toNat g (a + i) (noteB l[i])] := by rw [hsn, recs_snoc, hlt']
                    generalize l[i] = n at hni hin hcell hsn hrec
                    refine KW.skip (KW.seq (KW.block (KW.seq (KW.region ?_))))
                    refine OW.val rfl rfl (EX.move rfl) ?_
                    refine OW.val rfl rfl (EX.indexAddrS Try.underlying48 ti69 rfl rfl (by omega)) ?_
                    refine OW.val rfl rfl (EX.loadA (l := n.cells) Try.underlying69 rfl ti69 rfl rfl hcell) ?_
                    refine OW.allocB (l := [.int .i64 0, str [], .int .i64 0, .int .i64 0, .int .i64 0, .int .u32 0]) rfl rfl ti69 rfl ?_
                    rintro pb w1 hge1 hp1 hx1
                    refine OW.val rfl rfl (EX.assign rfl) ?_
                    refine OW.storeS rfl ti69 rfl rfl rfl (by first | rfl | (simp only [List.all_cons, List.all_nil, Bool.and_true, Bool.true_and, Bool.and_eq_true, Value.oneCell']; repeat (first | assumption | exact Own.one (by assumption) | constructor))) (hp1) (Nat.le_refl _) ?_
                    rintro w2 hp2 hm2
                    refine OW.nil ?_
                    refine KW.seq (KW.region ?_)
                    replace hp2 : Bk w2 pb 69 n.cells := hp2
                    have x2 : Ext w w2 := below_mo (hx.trans hx1) hm2 (hx.trans hx1).size (fun k hk => by simp at hk; have := hx.size; omega)
                    refine OW.val rfl rfl (EX.loadBk Try.underlying69 rfl ti69 rfl (hp2) (rfl)) ?_
                    refine OW.call rfl rfl rfl (data_s n hni w2) ?_
                    rintro _ w3 ⟨⟨s, rfl, hsb⟩, hx3⟩
                    refine OW.val rfl rfl (EX.move rfl) ?_
                    refine OW.val rfl rfl (EX.extract rfl rfl) ?_
                    refine OW.val rfl rfl (EX.extract rfl rfl) ?_
                    refine OW.val rfl rfl (EX.assign rfl) ?_
                    refine OW.val rfl rfl (EX.assign rfl) ?_
                    refine OW.nil ?_
                    refine KW.seq (KW.seq (KW.region ?_))
                    refine OW.val rfl rfl (EX.move rfl) ?_
                    refine OW.val rfl rfl (by first | exact EX.notD rfl | exact EX.notB rfl) ?_
                    refine OW.nil ?_
                    refine KW.condD rfl (fun hmay => ?_) (fun hmay => ?_)
                    · refine KW.seq (KW.region ?_)
                      refine OW.val rfl rfl (EX.assign rfl) ?_
                      refine OW.val rfl rfl (EX.assign rfl) ?_
                      refine OW.nil ?_
                      refine KW.ret (ret2 rfl rfl rfl ?_)
                      exact bye _ (x2.trans hx3) (.inr ⟨n, hin, hmay⟩)
                    · have hmay : mayN n := Classical.not_not.1 hmay
                      obtain rfl := hsb hmay
                      have hkd := noteGood hmay
                      have hsl := (noteB_len hmay).1
                      have hp3 := hp2.ext hx3
                      have x3 := x2.trans hx3
                      have hown3 := ((hown.ext hx1).mo hm2 (fun k hk => by simp; have := hown.lt k hk; omega)).ext hx3
                      obtain ⟨kd, hkd1⟩ := Int.eq_ofNat_of_zero_le (show 0 ≤ n.kind by omega)
                      have hkb : 1 ≤ kd ∧ kd ≤ 255 := by omega
                      have hp3' : Bk w3 pb 69 (.int .i64 (kd : Int) :: n.mem.cells) := by rw [← hkd1]; exact hp3
                      have e1 : encodeR kd (g : Int) ((a + i : Nat) : Int) (noteB n) = (text n.kind.toNat g (a + i) (noteB n), 0) := by
                        unfold encodeR
                        rw [if_neg (by unfold bad; omega), hkd1]
                        rfl
                      have ce := encode_s kd (by omega) (g : Int) ((a + i : Nat) : Int) (noteB n) (by omega) w3
                      rw [e1] at ce
                      refine KW.skip (KW.seq (KW.region ?_))
                      refine OW.val rfl rfl (EX.fieldAddr (off := 0) Try.underlying69 rfl rfl ti3 rfl rfl) ?_
                      refine OW.val rfl rfl (EX.load Try.underlying3 rfl rfl (hp3'.cell_of rfl)) ?_
                      refine OW.val rfl rfl (by first | exact EX.convN (m := 255) Try.underlying3 Try.underlying5 rfl rfl (by omega) | exact EX.convW (m := 256) Try.underlying3 Try.underlying5 rfl rfl (by decide) | exact EX.convZ Try.underlying3 Try.underlying5 rfl) ?_
                      refine OW.val rfl rfl (EX.move rfl) ?_
                      refine OW.val rfl rfl (EX.move rfl) ?_
                      refine OW.val rfl rfl (EX.move rfl) ?_
                      refine OW.val rfl rfl (by first | exact EX.addN (m := 9223372036854775807) rfl rfl rfl (by omega) | exact EX.addZ (m := 9223372036854775807) rfl rfl rfl rfl (by omega)) ?_
                      refine OW.val rfl rfl (EX.move rfl) ?_
                      refine OW.call rfl rfl rfl (ce) ?_
                      rintro _ w4 ⟨rfl, hx4⟩
                      refine OW.val rfl rfl (EX.move rfl) ?_
                      refine OW.val rfl rfl (EX.extract rfl rfl) ?_
                      refine OW.val rfl rfl (EX.extract rfl rfl) ?_
                      refine OW.val rfl rfl (EX.assign rfl) ?_
                      refine OW.val rfl rfl (EX.assign rfl) ?_
                      refine OW.nil ?_
                      refine KW.region ?_
                      refine OW.val rfl rfl (EX.move rfl) ?_
                      refine OW.val rfl rfl (EX.move rfl) ?_
                      refine OW.push rfl rfl (fun _ => rfl) rfl Try.underlying61 ti9 rfl rfl (fun _ => rfl) rfl ((x3.trans hx4)) ((hown3.ext hx4)) (by simp only [maxLen]; omega) (by omega) ?_
                      rintro _ v5 w5 hown5 hx5 _ _
                      refine OW.val rfl rfl (EX.assign rfl) ?_
                      refine OW.nil ?_
                      refine KW.leave (KW.region ?_)
                      refine OW.val rfl rfl (by first | exact EX.addN (b := 1) (m := 9223372036854775807) rfl rfl rfl (by omega) | exact EX.addZ (m := 9223372036854775807) rfl rfl rfl rfl (by omega)) ?_
                      refine OW.val rfl rfl (EX.move rfl) ?_
                      refine OW.nil ?_
                      refine KW.back3 (i + 1) (v5) (w5) ⟨rfl, rfl, rfl, rfl, rfl, rfl, rfl, rfl, trivial⟩ rfl ?_ (by omega)
                      refine ⟨by omega, ?_, by rw [hrec, List.map_append]; exact hown5, hx5⟩
                      rw [hsn]
                      intro n' hn'
                      rcases List.mem_append.1 hn' with q | q
                      · exact hall n' q
                      · rw [List.mem_singleton.1 q]; exact hmay
                  · obtain rfl : i = l.length := by omega
                    rw [List.take_length] at hall hown
                    refine KW.exit rfl ?_
                    refine KW.meet2 (v) (wr) ⟨rfl, rfl, rfl, rfl, rfl, trivial⟩ rfl ?_
                    exact ⟨hall, hown, hx⟩
              · rintro v wr ⟨hall, hown, hx⟩
                have hl19 : l.length ≤ 19 := by omega
                have hgb : g ≤ 4611686018427387904 := by omega
                have ec : encodeR 3 (g : Int) ((a + l.length : Nat) : Int) [UInt8.ofNat l.length] = (text 3 g (a + l.length) [UInt8.ofNat l.length], 0) := by
                  unfold encodeR
                  rw [if_neg (by unfold bad; simp; omega)]
                  rfl
                have el : appendW D (g : Int) (a : Int) l = (let r := writes D (10 + a) (txs g a l); if r.2 = 0 then (if r.1.sync.2 = 0 then (r.1.sync.1, (a : Int) + l.length + 1, 0) else (r.1.sync.1, 0, r.1.sync.2)) else (r.1, 0, r.2)) := app_go nb hall
                have hlen := txs_len (g := g) (i := a) hall
                have hnt := txs_length g a l
                have het : recs g a l ++ [text 3 g (a + l.length) [UInt8.ofNat l.length]] = txs g a l := rfl
                generalize txs g a l = T at el hlen hnt het
                refine KW.seq (KW.region ?_)
                refine OW.val rfl rfl (EX.move rfl) ?_
                refine OW.val rfl rfl (EX.move rfl) ?_
                refine OW.val rfl rfl (EX.move rfl) ?_
                refine OW.val rfl rfl (EX.lenA Try.underlying48 rfl) ?_
                refine OW.val rfl rfl (by first | exact EX.addN (m := 9223372036854775807) rfl rfl rfl (by omega) | exact EX.addZ (m := 9223372036854775807) rfl rfl rfl rfl (by omega)) ?_
                refine OW.val rfl rfl (EX.move rfl) ?_
                refine OW.val rfl rfl (EX.lenA Try.underlying48 rfl) ?_
                refine OW.val rfl rfl (by first | exact EX.convN (m := 255) Try.underlying3 Try.underlying5 rfl rfl (by omega) | exact EX.convW (m := 256) Try.underlying3 Try.underlying5 rfl rfl (by decide) | exact EX.convZ Try.underlying3 Try.underlying5 rfl) ?_
                refine OW.buildB 1 rfl rfl Try.underlying80 ti5 rfl rfl rfl rfl (by first | rfl | (simp only [List.all_cons, List.all_nil, Bool.and_true, Bool.and_eq_true]; assumption)) (by decide) ?_
                rintro sb w1 hge1 hb1 hx1
                refine OW.val rfl rfl (EX.strOf Try.underlying80 Try.underlying5 Try.underlying9 rfl (oneB hb1 (by omega)) (rfl)) ?_
                have ce := encode_s 3 (by omega) (g : Int) ((a + l.length : Nat) : Int) [UInt8.ofNat l.length] (by simp) w1
                rw [ec] at ce
                refine OW.call rfl rfl rfl (ce) ?_
                rintro _ w2 ⟨rfl, hx2⟩
                refine OW.val rfl rfl (EX.move rfl) ?_
                refine OW.val rfl rfl (EX.extract rfl rfl) ?_
                refine OW.val rfl rfl (EX.extract rfl rfl) ?_
                refine OW.val rfl rfl (EX.assign rfl) ?_
                refine OW.val rfl rfl (EX.assign rfl) ?_
                refine OW.nil ?_
                refine KW.seq (KW.seq (KW.region ?_))
                refine OW.val rfl rfl (EX.move rfl) ?_
                refine OW.val rfl rfl (EX.move rfl) ?_
                have x2 := (hx.trans hx1).trans hx2
                have es : (recs g a l).map str ++ [str (text 3 g (a + l.length) [UInt8.ofNat l.length])] = T.map str := by rw [← het, List.map_append]; rfl
                refine OW.push rfl rfl (fun _ => rfl) rfl Try.underlying61 ti9 rfl rfl (fun _ => rfl) rfl (x2) (((hown.ext hx1).ext hx2)) (by simp only [maxLen]; omega) (by omega) ?_
                rintro _ v3 w3 hown3 hx3 _ _
                replace hown3 : Own w3 w.heap.size 9 1 v3 (l.length + 1) ((recs g a l).map str ++ [str (text 3 g (a + l.length) [UInt8.ofNat l.length])]) := hown3
                rw [es] at hown3
                obtain ⟨A3, c3, rfl, hc3, _⟩ := hown3.slice
                refine OW.val rfl rfl (EX.lenA Try.underlying61 rfl) ?_
                refine OW.val rfl rfl (EX.move rfl) ?_
                refine OW.nil ?_
                refine KW.block ?_
                refine KW.loop3 (fun (i : Nat) (E : Dv) (wr : World) => i ≤ l.length + 1 ∧ E.Ok ∧ Sm E (k + i) ∧ writes E (10 + a + i) (T.drop i) = writes D (10 + a) T ∧ DevAt wr B b E ∧ Tm w wr B dty ∧ Own wr w.heap.size 9 1 (.slice A3 (l.length + 1) c3) (l.length + 1) (T.map str)) (fun (i : Nat) (E : Dv) (wr : World) => [(0, .pointer (some ⟨b, 0, none⟩)), (2, .int .i64 ((a : Nat) : Int)), (3, .slice A l.length c), (97, .slice A3 (l.length + 1) c3), (98, .int .i64 (((l.length + 1) : Nat) : Int)), (99, .int .i64 ((i : Nat) : Int))]) (fun (i : Nat) (E : Dv) (wr : World) => wr) (fun (i : Nat) (E : Dv) (wr : World) => l.length + 1 - i) (0) (D) (w3) ⟨rfl, rfl, rfl, rfl, rfl, rfl, trivial⟩ rfl ?_ ?_
                · exact ⟨by omega, hD, hsm, rfl, h.ext hx3, Tm.of_ext hx3 _ _, hown3⟩
                · rintro i E wr ⟨hi, hE, hsE, hw, hdev, htm, hownr⟩
                  refine KW.seq (KW.region ?_)
                  refine OW.val rfl rfl (by first | exact EX.lssN rfl rfl | exact EX.lssZ rfl rfl) ?_
                  refine OW.nil ?_
                  refine KW.seq ?_
                  refine KW.condD rfl (fun hlt => ?_) (fun hlt => ?_)
                  · have hltT : i < T.length := by omega
                    have hdr : T.drop i = T[i] :: T.drop (i + 1) := List.drop_eq_getElem_cons hltT
                    have hT5 := hlen T[i] (List.getElem_mem hltT)
                    have hTi : (T.map str)[i]? = some (str T[i]) := by rw [List.getElem?_map, List.getElem?_eq_getElem hltT]; rfl
                    rw [hdr, writes_cons] at hw
                    generalize T[i] = s at hw hT5 hTi
                    obtain ⟨A4, c4, e4, _, hsl4⟩ := hownr.slice
                    cases e4
                    obtain ⟨bb, o, rfl, _, hcell⟩ := hsl4.at_ (by rw [List.length_map]; omega)
                    refine KW.skip (KW.seq (KW.block (KW.seq (KW.region ?_))))
                    refine OW.val rfl rfl (EX.move rfl) ?_
                    refine OW.val rfl rfl (by first | exact EX.indexAddrS0 Try.underlying61 ti9 rfl rfl (by omega) | exact EX.indexAddrS1 Try.underlying61 ti9 rfl rfl (by omega)) ?_
                    refine OW.val rfl rfl (EX.load Try.underlying9 rfl rfl (hcell i _ hTi)) ?_
                    refine OW.val rfl rfl (EX.assign rfl) ?_
                    refine OW.val rfl rfl (EX.assign rfl) ?_
                    refine OW.nil ?_
                    refine KW.seq (KW.region ?_)
                    refine OW.val rfl rfl (EX.move rfl) ?_
                    refine OW.val rfl rfl (EX.move rfl) ?_
                    refine OW.val rfl rfl (by first | exact EX.addN (a := 10) (m := 9223372036854775807) rfl rfl rfl (by omega) | exact EX.addZ (m := 9223372036854775807) rfl rfl rfl rfl (by omega)) ?_
                    refine OW.val rfl rfl (EX.move rfl) ?_
                    refine OW.val rfl rfl (by first | exact EX.addN (m := 9223372036854775807) rfl rfl rfl (by omega) | exact EX.addZ (m := 9223372036854775807) rfl rfl rfl rfl (by omega)) ?_
                    refine OW.val rfl rfl (EX.move rfl) ?_
                    have cw := write_d hdev hE (hsE.small (by omega)) ((10 + a + i : Nat) : Int) (by omega) (by omega) s (by omega)
                    refine OW.call rfl rfl rfl (cw) ?_
                    rintro _ w5 ⟨rfl, hdev5, htm5⟩
                    refine OW.val rfl rfl (EX.assign rfl) ?_
                    refine OW.nil ?_
                    refine KW.seq (KW.region ?_)
                    refine OW.val rfl rfl (EX.move rfl) ?_
                    refine OW.val rfl rfl (by first | exact EX.neqN (b := 0) rfl rfl | exact EX.neqZ rfl rfl) ?_
                    refine OW.nil ?_
                    refine KW.condD rfl (fun he => ?_) (fun he => ?_)
                    · rw [if_neg (by omega)] at hw
                      refine KW.seq (KW.region ?_)
                      refine OW.val rfl rfl (EX.move rfl) ?_
                      refine OW.val rfl rfl (EX.assign rfl) ?_
                      refine OW.val rfl rfl (EX.assign rfl) ?_
                      refine OW.nil ?_
                      refine KW.ret (ret2 rfl rfl rfl ?_)
                      rw [el, ← hw]
                      simp only
                      rw [if_neg (by omega)]
                      exact ⟨rfl, hdev5, htm.trans htm5⟩
                    · rw [if_pos (by omega)] at hw
                      refine KW.skip (KW.leave (KW.region ?_))
                      refine OW.val rfl rfl (by first | exact EX.addN (b := 1) (m := 9223372036854775807) rfl rfl rfl (by omega) | exact EX.addZ (m := 9223372036854775807) rfl rfl rfl rfl (by omega)) ?_
                      refine OW.val rfl rfl (EX.move rfl) ?_
                      refine OW.nil ?_
                      refine KW.back3 (i + 1) ((E.write ((10 + a + i : Nat) : Int) s).1) (w5) ⟨rfl, rfl, rfl, rfl, rfl, rfl, trivial⟩ rfl ?_ (by omega)
                      exact ⟨by omega, write_ok hE _ _, write_sm hsE _ _, hw, hdev5, htm.trans htm5, htm5.own hownr (by decide)⟩
                  · obtain rfl : i = l.length + 1 := by omega
                    rw [List.drop_eq_nil_of_le (by omega)] at hw
                    have hw' : writes D (10 + a) T = (E, 0) := hw.symm
                    rw [hw'] at el
                    simp only [if_true] at el
                    refine KW.exit rfl (KW.seq (KW.seq (KW.region ?_)))
                    refine OW.val rfl rfl (EX.move rfl) ?_
                    refine OW.call rfl rfl rfl (sync_d hdev hE (hsE.small (by omega))) ?_
                    rintro _ w5 ⟨rfl, hdev5, htm5⟩
                    refine OW.val rfl rfl (EX.assign rfl) ?_
                    refine OW.nil ?_
                    refine KW.seq (KW.region ?_)
                    refine OW.val rfl rfl (EX.move rfl) ?_
                    refine OW.val rfl rfl (by first | exact EX.neqN (b := 0) rfl rfl | exact EX.neqZ rfl rfl) ?_
                    refine OW.nil ?_
                    refine KW.condD rfl (fun he => ?_) (fun he => ?_)
                    · rw [if_neg (by omega)] at el
                      refine KW.seq (KW.region ?_)
                      refine OW.val rfl rfl (EX.move rfl) ?_
                      refine OW.val rfl rfl (EX.assign rfl) ?_
                      refine OW.val rfl rfl (EX.assign rfl) ?_
                      refine OW.nil ?_
                      refine KW.ret (ret2 rfl rfl rfl ?_)
                      rw [el]
                      exact ⟨rfl, hdev5, htm.trans htm5⟩
                    · rw [if_pos (by omega)] at el
                      refine KW.skip (KW.seq (KW.region ?_))
                      refine OW.val rfl rfl (EX.move rfl) ?_
                      refine OW.val rfl rfl (EX.move rfl) ?_
                      refine OW.val rfl rfl (EX.lenA Try.underlying48 rfl) ?_
                      refine OW.val rfl rfl (by first | exact EX.addN (m := 9223372036854775807) rfl rfl rfl (by omega) | exact EX.addZ (m := 9223372036854775807) rfl rfl rfl rfl (by omega)) ?_
                      refine OW.val rfl rfl (by first | exact EX.addN (b := 1) (m := 9223372036854775807) rfl rfl rfl (by omega) | exact EX.addZ (m := 9223372036854775807) rfl rfl rfl rfl (by omega)) ?_
                      refine OW.val rfl rfl (EX.assign rfl) ?_
                      refine OW.val rfl rfl (EX.assign rfl) ?_
                      refine OW.nil ?_
                      refine KW.ret (ret2 rfl rfl rfl ?_)
                      rw [el]
                      exact ⟨rfl, hdev5, htm.trans htm5⟩
end Go.Proofs.Ytlpnoogcdnfllaa
/- disk: sectors are read; acts. -/
namespace Go.Proofs.Ytlpnoogcdnfllaa
set_option linter.unnecessarySimpa false
set_option linter.unusedSimpArgs false
open Go.RowKit Dsk
set_option linter.unusedVariables false

def _root_.Go.Proofs.Ytlpnoogcdnfllaa.Dsk.Dv.read (D : Dv) (i : Int) : Dv × List UInt8 × Nat :=
  if D.dead then (D, [], 190) else if i < 0 ∨ ((D.now.length / 512 : Nat) : Int) ≤ i then (D, [], 191) else ({ D with calls := D.calls + 1 }, (D.now.drop (i.toNat * 512)).take 512, 0)
theorem bytesV_drop_take (l : List UInt8) (i j : Nat) : ((bytesV l).drop i).take j = bytesV ((l.drop i).take j) := by simp [bytesV, List.map_take, List.map_drop]
section
variable {w : World} {B b : Nat} {D : Dv}
set_option maxRecDepth 20000 in
theorem read_d (h : DevAt w B b D) (hD : D.Ok) (hs : Small D) (i : Int) (i0 : -9223372036854775808 ≤ i) (i1 : i ≤ 9223372036854775807) :
    Ret Try.prog 32 [.pointer (some ⟨b, 0, none⟩), .int .i64 i] w fun v w' => v = .tuple #[str (D.read i).2.1, .int .i64 (((D.read i).2.2 : Nat) : Int)] ∧ DevAt w' B b (D.read i).1 ∧ Tm w w' B dty := by
  have q1 := hD.now
  have q2 := hD.cap
  have q3 := hs.calls
  refine Ret.enter Try.func32 rfl Try.ntmps32 (by kernel_rfl) rfl ?_
  refine KW.seq (KW.region ?_)
  refine OW.val rfl rfl (EX.assign rfl) ?_
  refine OW.val rfl rfl (EX.assign rfl) ?_
  refine OW.nil ?_
  refine KW.seq (KW.seq (KW.region ?_))
  refine OW.val rfl rfl (EX.move rfl) ?_
  refine OW.call rfl rfl rfl (alive_d h hD) ?_
  rintro _ _ ⟨rfl, rfl⟩
  refine OW.val rfl rfl (EX.assign rfl) ?_
  refine OW.nil ?_
  refine KW.seq (KW.region ?_)
  refine OW.val rfl rfl (EX.move rfl) ?_
  refine OW.val rfl rfl (by first | exact EX.neqN (b := 0) rfl rfl | exact EX.neqZ rfl rfl) ?_
  refine OW.nil ?_
  rcases hd : D.dead with _ | _
  · rw [if_neg (by simp)]
    refine KW.as 10 (.bool false) rfl (congrArg Value.bool (decide_eq_false (by decide))) ?_
    refine KW.condF rfl (KW.skip (KW.seq (KW.seq ?_)))
    refine KW.region ?_
    refine OW.val rfl rfl (EX.move rfl) ?_
    refine OW.val rfl rfl (by first | exact EX.lssN (b := 0) rfl rfl | exact EX.lssZ rfl rfl) ?_
    refine OW.val rfl rfl (EX.move rfl) ?_
    refine OW.splitD 14 rfl (fun a1 => ?_) (fun a1 => ?_)
    · have e : D.read i = (D, [], 191) := by unfold Dv.read; rw [hd, if_neg (by simp), if_pos (.inl a1)]
      refine OW.pass rfl rfl ?_
      refine OW.pass rfl rfl ?_
      refine OW.pass rfl rfl ?_
      refine OW.pass rfl rfl ?_
      refine OW.val rfl rfl (EX.pickT rfl rfl) ?_
      refine OW.nil ?_
      refine KW.condT rfl (KW.seq (KW.region ?_))
      refine OW.val rfl rfl (EX.assign rfl) ?_
      refine OW.val rfl rfl (EX.assign rfl) ?_
      refine OW.nil ?_
      refine KW.ret (ret2 rfl rfl rfl ?_)
      rw [e]
      exact ⟨rfl, h, Tm.refl _ _ _⟩
    · refine OW.val rfl rfl (EX.move rfl) ?_
      refine OW.val rfl rfl (EX.move rfl) ?_
      refine OW.call rfl rfl rfl (len_d h hD) ?_
      rintro _ _ ⟨rfl, rfl⟩
      refine OW.val rfl rfl (by first | exact EX.geqN rfl rfl | exact EX.geqZ rfl rfl) ?_
      refine OW.val rfl rfl (EX.pickF rfl rfl) ?_
      refine OW.nil ?_
      refine KW.condD rfl (fun a2 => ?_) (fun a2 => ?_)
      · have e : D.read i = (D, [], 191) := by unfold Dv.read; rw [hd, if_neg (by simp), if_pos (.inr a2)]
        refine KW.seq (KW.region ?_)
        refine OW.val rfl rfl (EX.assign rfl) ?_
        refine OW.val rfl rfl (EX.assign rfl) ?_
        refine OW.nil ?_
        refine KW.ret (ret2 rfl rfl rfl ?_)
        rw [e]
        exact ⟨rfl, h, Tm.refl _ _ _⟩
      · obtain ⟨j, rfl⟩ := Int.eq_ofNat_of_zero_le (show 0 ≤ i by omega)
        have hj : (j + 1) * 512 ≤ D.now.length := by omega
        have e : D.read (j : Int) = ({ D with calls := D.calls + 1 }, (D.now.drop (j * 512)).take 512, 0) := by unfold Dv.read; rw [hd, if_neg (by simp), if_neg (by omega)]; rfl
        obtain ⟨vk, vn, vp, vq, vs, hv⟩ := id h
        obtain ⟨An, cn, rfl, hcn, hsln⟩ := hv.now.slice
        refine KW.skip (KW.seq (KW.region ?_))
        refine OW.val rfl rfl (EX.move rfl) ?_
        refine OW.val rfl rfl (EX.nilCheck rfl) ?_
        refine OW.val rfl rfl (EX.fieldAddr (off := 7) Try.underlying85 rfl rfl ti3 rfl rfl) ?_
        refine OW.val rfl rfl (EX.load Try.underlying3 rfl rfl (hv.cells.cell_of rfl)) ?_
        refine OW.val rfl rfl (by first | exact EX.addN (b := 1) (m := 9223372036854775807) rfl rfl rfl (by omega) | exact EX.addZ (m := 9223372036854775807) rfl rfl rfl rfl (by omega)) ?_
        refine OW.val rfl rfl (EX.nilCheck rfl) ?_
        refine OW.val rfl rfl (EX.fieldAddr (off := 7) Try.underlying85 rfl rfl ti3 rfl rfl) ?_
        refine OW.storeB rfl ti3 rfl rfl (by first | rfl | assumption | exact Own.one (by assumption)) (hv.cells) (by simp) ?_
        rintro w2 hb2 hm2
        refine OW.nil ?_
        refine KW.seq (KW.region ?_)
        refine OW.val rfl rfl (EX.move rfl) ?_
        refine OW.val rfl rfl (EX.nilCheck rfl) ?_
        refine OW.val rfl rfl (EX.fieldAddr (off := 2) Try.underlying85 rfl rfl ti80 rfl rfl) ?_
        have hv2 := Dev.after (D' := { D with calls := D.calls + 1 }) hv.lo hv.cells hm2 hb2 hv.kept hv.now hv.apart hv.pend hv.chs hv.keep
        obtain ⟨A2, c2, e2, hc2, hsl2⟩ := hv2.now.slice
        simp only [Value.slice.injEq, true_and] at e2
        obtain ⟨rfl, rfl⟩ := e2
        dsimp only at hc2 hsl2
        refine OW.val rfl rfl (EX.load Try.underlying80 rfl rfl (hv2.cells.cell_of rfl)) ?_
        refine OW.val rfl rfl (EX.move rfl) ?_
        refine OW.val rfl rfl (by first | exact EX.mulN (b := 512) (m := 9223372036854775807) rfl rfl rfl (by omega) | exact EX.mulZ (m := 9223372036854775807) rfl rfl rfl rfl (by omega)) ?_
        refine OW.val rfl rfl (EX.move rfl) ?_
        refine OW.val rfl rfl (by first | exact EX.addN (b := 1) (m := 9223372036854775807) rfl rfl rfl (by omega) | exact EX.addZ (m := 9223372036854775807) rfl rfl rfl rfl (by omega)) ?_
        refine OW.val rfl rfl (by first | exact EX.mulN (b := 512) (m := 9223372036854775807) rfl rfl rfl (by omega) | exact EX.mulZ (m := 9223372036854775807) rfl rfl rfl rfl (by omega)) ?_
        refine OW.sliceALH rfl rfl Try.underlying80 ti5 rfl rfl rfl (by omega) (hsl2) (bytesV_length _) ?_
        rintro A3 hsl3
        rw [bytesV_drop_take] at hsl3
        have hsub : (j + 1) * 512 - j * 512 = 512 := by omega
        have hlen : ((D.now.drop (j * 512)).take ((j + 1) * 512 - j * 512)).length = (j + 1) * 512 - j * 512 := by rw [List.length_take, List.length_drop]; omega
        refine OW.val rfl rfl (EX.strOf Try.underlying80 Try.underlying5 Try.underlying9 rfl (hsl3) (hlen)) ?_
        refine OW.val rfl rfl (EX.assign rfl) ?_
        refine OW.val rfl rfl (EX.assign rfl) ?_
        refine OW.nil ?_
        refine KW.ret (ret2 rfl rfl rfl ?_)
        rw [e]
        refine ⟨?_, ⟨_, _, _, _, _, hv2⟩, Dev.tmD hv.lo hv.cells hm2⟩
        rw [hsub]
        rfl
  · have e : D.read i = (D, [], 190) := by unfold Dv.read; rw [hd]; rfl
    rw [if_pos rfl]
    refine KW.as 10 (.bool true) rfl (congrArg Value.bool (decide_eq_true (by decide))) ?_
    refine KW.condT rfl (KW.seq (KW.region ?_))
    refine OW.val rfl rfl (EX.move rfl) ?_
    refine OW.val rfl rfl (EX.assign rfl) ?_
    refine OW.val rfl rfl (EX.assign rfl) ?_
    refine OW.nil ?_
    refine KW.ret (ret2 rfl rfl rfl ?_)
    rw [e]
    exact ⟨rfl, h, Tm.refl _ _ _⟩
end
end Go.Proofs.Ytlpnoogcdnfllaa
/- wal, in plain words: how many sectors are read. No program is spoken of. -/
namespace Go.Proofs.Ytlpnoogcdnfllaa.Wal
set_option linter.unnecessarySimpa false
set_option linter.unusedSimpArgs false
open Go.RowKit Rec Pth Dsk
set_option linter.unusedVariables false
/-- how many sectors a replay reads -/
def repN (gen : Int) (rd : Nat → By) (m : Nat) : Nat → Nat → List Nt → Nat
  | 0, _, _ => 0
  | f + 1, i, op =>
    if i < m then
      let x := decodeR (rd i)
      if x.2 ≠ 0 ∨ x.1.gen ≠ gen ∨ x.1.index ≠ i then 1
      else if x.1.kind = 3 then (if op = [] ∨ x.1.data ≠ [UInt8.ofNat op.length] then 1 else repN gen rd m f (i + 1) [] + 1)
      else match noteOf x.1 with
        | some n => repN gen rd m f (i + 1) (op ++ [n]) + 1
        | none => 1
    else 0
def readsD (D : Dv) (gen : Int) : Nat := if badG gen then 0 else if D.dead then 0 else repN gen (fun i => sec D.now (10 + i)) (logN D.now) 21 0 []
def replayed (D : Dv) (gen : Int) : Dv := { D with calls := D.calls + readsD D gen }
theorem repN_le (gen : Int) (rd : Nat → By) (m : Nat) : ∀ (f i : Nat) (op : List Nt), repN gen rd m f i op ≤ f
  | 0, _, _ => Nat.le_refl _
  | f + 1, i, op => by
    have h1 := repN_le gen rd m f (i + 1) []
    rw [repN]
    split
    · simp only
      split
      · omega
      · split
        · split
          · omega
          · omega
        · split
          · rename_i n _
            have h2 := repN_le gen rd m f (i + 1) (op ++ [n])
            omega
          · omega
    · omega
theorem readsD_le (D : Dv) (gen : Int) : readsD D gen ≤ 21 := by
  unfold readsD
  split
  · omega
  · split
    · omega
    · exact repN_le _ _ _ _ _ _
theorem replayed_ok {D : Dv} (h : D.Ok) (gen : Int) : (replayed D gen).Ok := ⟨h.cap, h.kept, h.now, h.keptM, h.nowM, h.pend⟩
theorem replayed_sm {D : Dv} {k : Nat} (h : Sm D k) (gen : Int) : Sm (replayed D gen) (k + 21) :=
  ⟨by have h1 := h.calls; have h2 := readsD_le D gen; show D.calls + readsD D gen ≤ _; omega, by have h1 := h.pend; show D.pend.length ≤ _; omega, h.at_, h.keep⟩
section
variable {gen : Int} {rd : Nat → By} {m f i : Nat} {op : List Nt} {out : List (List Nt)} {b : Nat} {x : R} {e : Nat}
theorem rep_0 (h : ¬ i < m) : rep gen rd m (f + 1) i op out b = (out, b) ∧ repN gen rd m (f + 1) i op = 0 := by
  rw [rep, repN, if_neg h, if_neg h]
  exact ⟨rfl, rfl⟩
theorem rep_1 (h : i < m) (hx : decodeR (rd i) = (x, e)) (h2 : e ≠ 0 ∨ x.gen ≠ gen ∨ x.index ≠ i) : rep gen rd m (f + 1) i op out b = (out, b) ∧ repN gen rd m (f + 1) i op = 1 := by
  rw [rep, repN, if_pos h, if_pos h, hx]
  simp only
  rw [if_pos h2, if_pos h2]
  exact ⟨rfl, rfl⟩
theorem rep_2 (h : i < m) (hx : decodeR (rd i) = (x, e)) (h2 : ¬ (e ≠ 0 ∨ x.gen ≠ gen ∨ x.index ≠ i)) (h3 : x.kind = 3) (h4 : op = [] ∨ x.data ≠ [UInt8.ofNat op.length]) : rep gen rd m (f + 1) i op out b = (out, b) ∧ repN gen rd m (f + 1) i op = 1 := by
  rw [rep, repN, if_pos h, if_pos h, hx]
  simp only
  rw [if_neg h2, if_neg h2, if_pos h3, if_pos h3, if_pos h4, if_pos h4]
  exact ⟨rfl, rfl⟩
theorem rep_3 (h : i < m) (hx : decodeR (rd i) = (x, e)) (h2 : ¬ (e ≠ 0 ∨ x.gen ≠ gen ∨ x.index ≠ i)) (h3 : x.kind = 3) (h4 : ¬ (op = [] ∨ x.data ≠ [UInt8.ofNat op.length])) :
    rep gen rd m (f + 1) i op out b = rep gen rd m f (i + 1) [] (out ++ [op]) (i + 1) ∧ repN gen rd m (f + 1) i op = repN gen rd m f (i + 1) [] + 1 := by
  rw [rep, repN, if_pos h, if_pos h, hx]
  simp only
  rw [if_neg h2, if_neg h2, if_pos h3, if_pos h3, if_neg h4, if_neg h4]
  exact ⟨rfl, rfl⟩
theorem rep_4 (h : i < m) (hx : decodeR (rd i) = (x, e)) (h2 : ¬ (e ≠ 0 ∨ x.gen ≠ gen ∨ x.index ≠ i)) (h3 : ¬ x.kind = 3) (h4 : noteOf x = none) : rep gen rd m (f + 1) i op out b = (out, b) ∧ repN gen rd m (f + 1) i op = 1 := by
  rw [rep, repN, if_pos h, if_pos h, hx]
  simp only
  rw [if_neg h2, if_neg h2, if_neg h3, if_neg h3, h4]
  exact ⟨rfl, rfl⟩
theorem rep_5 {n : Nt} (h : i < m) (hx : decodeR (rd i) = (x, e)) (h2 : ¬ (e ≠ 0 ∨ x.gen ≠ gen ∨ x.index ≠ i)) (h3 : ¬ x.kind = 3) (h4 : noteOf x = some n) :
    rep gen rd m (f + 1) i op out b = rep gen rd m f (i + 1) (op ++ [n]) out b ∧ repN gen rd m (f + 1) i op = repN gen rd m f (i + 1) (op ++ [n]) + 1 := by
  rw [rep, repN, if_pos h, if_pos h, hx]
  simp only
  rw [if_neg h2, if_neg h2, if_neg h3, if_neg h3, h4]
  exact ⟨rfl, rfl⟩
end
end Go.Proofs.Ytlpnoogcdnfllaa.Wal
/- Appends of one element onto a slice, where more than new blocks was changed ahead: what is changed is named. -/
namespace Go.Proofs.Ytlpnoogcdnfllaa
set_option linter.unnecessarySimpa false
open Go.RowKit
set_option linter.unusedVariables false
set_option linter.unusedSimpArgs false
section
variable {P : Program} {R : Act → World → Prop} {ops : Array Oper} {rest : List Oper} {k : List KI} {n : Nat} {σ : Sig} {w : World} {x y : Operand} {t e ty ty1 : TypeId} {pos pos1 : String} {after after1 : Array Edge} {gd gd1 : Option (Nat × Bool)} {d d1 : Nat} {s bs B : Nat}
theorem EX.remZ {k : IntKind} {a b : Int} {t' : TypeId} (hx : ev σ x = some (.int k a)) (hy : ev σ y = some (.int k b)) (h : b ≠ 0) : EX P n σ (.binOp .rem t x y t') ty w (.int k (a.tmod b)) w :=
  EX.binI hx hy (by
    unfold binOp
    simp only [ne_eq, not_true_eq_false, if_false, Op.intDiv, if_neg h]
    rfl)
theorem Mo.append {w w1 w' : World} {row : Option Nat} (hx : Ext w w1) (h : w1.grownBy w' row) : Mo w w' row.toList :=
  (Mo.of_ext hx _).trans (Mo.grown h fun k e => by rw [e]; simp)
/-- changes to blocks that were not there at the beginning need no name -/
theorem Tm.fresh {w w1 w2 : World} {B : Nat} {p : TypeId → Bool} {S : List Nat} (h : Tm w w1 B p) (hm : Mo w1 w2 S) (hS : ∀ k ∈ S, w.heap.size ≤ k) : Tm w w2 B p := by
  obtain ⟨S0, h0, hp⟩ := h
  refine ⟨S0, Mo.fresh (S := S0 ++ S) ((h0.mono (by simp; exact fun k hk => .inl hk)).trans (hm.mono (by simp; exact fun k hk => .inr hk))) ?_, hp⟩
  intro k hk hlt
  rcases List.mem_append.1 hk with q | q
  · exact q
  · have := hS k q
    omega
theorem OW.pushSB (B : Nat) {z : Value} (hg1 : wantS ops σ gd1 = some true) (hd1 : Nat.blt d1 n = true) (hg : ∀ u, wantS ops ((d1, u) :: σ) gd = some true) (hd : Nat.blt d n = true) (ht : P.underlying t = some (.slice e)) (hi : TI P e z s bs) (hzs : z.cells.size = s) (hs0 : 0 < s) (hs : s ≤ 16777216)
    {v : Value} {vs : List Value} {l : Nat} {xs : List Value} (hy : ev σ y = some (.agg vs.toArray)) (hl : vs.length = s) (hx : ∀ q, ev ((d1, q) :: σ) x = some v) (hu : vs.all (·.oneCell') = true) (hB : B ≤ w.heap.size) (hown : Own w B e s v l xs)
    (h63 : l + 1 ≤ maxLen) (hbytes : (l + 1) * bs ≤ 140737488355328)
    (h : ∀ q v' w', Own w' B e s v' (l + 1) (xs ++ vs) → Mo w w' v.ownBlock.toList → (v'.ownBlock = v.ownBlock ∨ ∃ g, v'.ownBlock = some g ∧ w.heap.size ≤ g) → OW P R ops rest k n ((d, v') :: (d1, q) :: σ) w') :
    OW P R ops (⟨some d1, .buildSlice t 1 #[(0, y)], ty1, pos1, after1, gd1⟩ :: ⟨some d, .call { callee := .builtin .append, args := #[x, .tmp d1], argTypes := #[t, t] }, ty, pos, after, gd⟩ :: rest) k n σ w := by
  refine OW.val hg1 hd1 (EX.buildSlice1 ht hi hzs hs0 hs hy hl) ?_
  have hx1 : Ext w (w.alloc (.cells vs.toArray e)) := Ext.alloc w _
  have hb := Bk.new w e vs
  refine OW.append B (hg _) hd ht hi hzs hs0 (hx _) (lk_cons_same _ _ _) (hown.alloc _) (Src.of_sl ht (Sl.of_bk hb hb.lt) (by omega) (fun u hm => List.all_eq_true.1 hu u hm) hs0) h63 hbytes (Nat.le_trans hB hx1.size) ?_
  intro v' w' h1 h2 h3
  exact h _ v' w' h1 (Mo.append hx1 h2) (h3.imp id fun e => ⟨_, e, hx1.size⟩)
theorem OW.pushB (B : Nat) {z : Value} (hg1 : wantS ops σ gd1 = some true) (hd1 : Nat.blt d1 n = true) (hg : ∀ u, wantS ops ((d1, u) :: σ) gd = some true) (hd : Nat.blt d n = true) (ht : P.underlying t = some (.slice e)) (hi : TI P e z 1 bs) (hz1 : z.oneCell' = true)
    {v u : Value} {l : Nat} {xs : List Value} (hy : ev σ y = some u) (hx : ∀ q, ev ((d1, q) :: σ) x = some v) (hu : u.oneCell' = true) (hB : B ≤ w.heap.size) (hown : Own w B e 1 v l xs)
    (h63 : l + 1 ≤ maxLen) (hbytes : (l + 1) * bs ≤ 140737488355328)
    (h : ∀ q v' w', Own w' B e 1 v' (l + 1) (xs ++ [u]) → Mo w w' v.ownBlock.toList → (v'.ownBlock = v.ownBlock ∨ ∃ g, v'.ownBlock = some g ∧ w.heap.size ≤ g) → OW P R ops rest k n ((d, v') :: (d1, q) :: σ) w') :
    OW P R ops (⟨some d1, .buildSlice t 1 #[(0, y)], ty1, pos1, after1, gd1⟩ :: ⟨some d, .call { callee := .builtin .append, args := #[x, .tmp d1], argTypes := #[t, t] }, ty, pos, after, gd⟩ :: rest) k n σ w := by
  refine OW.val hg1 hd1 (EX.buildSlice (vs := [u]) 1 ht hi hz1 (by simp [evs, hy]) rfl rfl (by simp [hu]) (by decide)) ?_
  have hx1 : Ext w (w.alloc (.cells [u].toArray e)) := Ext.alloc w _
  have hb := Bk.new w e [u]
  refine OW.append B (hg _) hd ht hi (by rw [oneCell_cells hz1]; rfl) (by decide) (hx _) (lk_cons_same _ _ _) (hown.alloc _) (Src.of_sl ht (Sl.of_bk hb hb.lt) rfl (by simpa using hu) (by decide)) h63 hbytes (Nat.le_trans hB hx1.size) ?_
  intro v' w' h1 h2 h3
  exact h _ v' w' h1 (Mo.append hx1 h2) (h3.imp id fun e => ⟨_, e, hx1.size⟩)
end
section
variable {P : Program} {R : Act → World → Prop} {ops : Array Oper} {S : World → Prop} {fuel : Nat} {listed : Array Bool} {k : List KI} {n : Nat} {σ : Sig} {w : World} {x y : Operand} {t t' e ty : TypeId} {pos : String} {after : Array Edge} {gd : Option (Nat × Bool)} {d : Nat}
/-- append in a drawn region that holds calls or stores -/
theorem GW.append (i B : Nat) {z : Value} {s bs : Nat} (hi' : ops[i]? = some ⟨some d, .call { callee := .builtin .append, args := #[x, y], argTypes := #[t, t'] }, ty, pos, after, gd⟩) (hr : Region.ready .any ops listed = [i])
    (hg : wantS ops σ gd = some true) (hd : Nat.blt d n = true) (ht : P.underlying t = some (.slice e)) (hi : TI P e z s bs) (hzs : z.cells.size = s) (hs0 : 0 < s)
    {v xv : Value} {m l : Nat} {xs news : List Value} (hx : ev σ x = some v) (hy : ev σ y = some xv) (hown : Own w B e s v l xs) (hsrc : Src P s t' xv m news w)
    (h63 : l + m ≤ maxLen) (hbytes : (l + m) * bs ≤ 140737488355328) (hB : B ≤ w.heap.size)
    (h : ∀ v' w', Own w' B e s v' (l + m) (xs ++ news) → w.grownBy w' v.ownBlock → (v'.ownBlock = v.ownBlock ∨ v'.ownBlock = some w.heap.size) → S w' ∧ (S w' → GW P R ops S fuel (listed.setIfInBounds i true) k n ((d, v') :: σ) w')) : GW P R ops S (fuel + 1) listed k n σ w := by
  obtain ⟨v', w', hrun, h2, h3, h4⟩ := run_append (P := P) B t t' ty e ht hi hzs hs0 hown hsrc h63 hbytes hB
  refine GW.new i hi' hr hg hd (v := v') (w' := w') ?_ (h v' w' h2 h3 h4)
  intro A ha dst pos after g
  simp only [execOp, resolve, invoke, builtin, Sem.run_bind, Sem.run_pure, Result.andThen_ok, List.map_toArray, List.map_cons, List.map_nil, ha.ev hx, ha.ev hy, hrun]
end
end Go.Proofs.Ytlpnoogcdnfllaa
