/-
  What the statements rest on, part 2 of 7: many small texts, one behind the other.
-/
import Derived.Test.YtjgeoeeikfjmdaaGreatDoorMrgA
import Derived.OrdersHeld
import Derived.Laws.StructEq
import Derived.Laws.ResultCell
import Derived.Lib.Builder
import Derived.Lib.UnsafeStr
import Derived.Laws.Externs
import Derived.Test.YtjgeoeeikfjmdaaGreatDoorRows
import Derived.Shelf.Strings.Builder1
import Derived.Shelf.Strings.Builder2
import Derived.Shelf.Strings.OnBuilder
import Derived.Shelf.Small.Bits
import Derived.Shelf.Small.Strs
import Derived.Shelf.Strings.BuilderF
import Derived.Shelf.Utf8.RuneCount
import Derived.Shelf.Strings.Builder2Cap
import Derived.Shelf.Strconv.Itoa0
import Derived.Shelf.Strconv.Itoa1
import Derived.Shelf.LaysM
import Derived.Shelf.Strconv.Itoa2
import Derived.Shelf.Strconv.Itoa3
import Derived.Shelf.Strings.Search1
import Derived.Shelf.Strings.Search2
import Derived.Shelf.Strings.Search3
import Derived.Shelf.Strings.Cut
import Derived.Shelf.Strings.Count
import Derived.Shelf.Strings.Shaped
import Derived.Shelf.Strings.Split
import Derived.Shelf.Strings.SplitShaped
import Derived.Shelf.Unicode.Decode
import Derived.Shelf.Strings.RuneCount
import Derived.Shelf.Strings.Explode
import Derived.Shelf.Unicode.DecodeSlow
import Derived.Shelf.Unicode.DecodeAny
import Derived.Test.YtjgeoeeikfjmdaaGreatDoorProg
/- The engine's laws for slices that a call may write: parts of them, copies, clones. No program is spoken of. -/
namespace Go.Proofs.YtjgeoeeikfjmdaaGreatDoor
set_option linter.unnecessarySimpa false
open Go.RowKit
set_option linter.unusedSimpArgs false
set_option linter.unusedVariables false
section
variable {P : Program} {n : Nat} {σ : Sig} {w : World} {x y lo hi' : Operand} {t t' e ty T : TypeId} {B len cap i j g : Nat} {kk : IntKind} {z v : Value} {bs : Nat} {xs : List Value}
theorem sb0 (y : Nat) (c : BoundsCode) : (Instr.sliceBound (.int kk 0) y c).run P w = .ok 0 w := run_sliceBoundI (kk := kk) (i := 0) y c (Nat.zero_le _)
/-- the first part of an owned slice -/
theorem EX.ownFH (ht : P.underlying t = some (.slice e)) (hi : TI P e z 1 bs) (hx : ev σ x = some v) (hl : ev σ hi' = some (.int kk (j : Int))) (hown : Own w B e 1 v len xs) (h : j ≤ len) :
    ∃ v', EX P n σ (.slice t x none (some hi') none) ty w v' w ∧ Own w B e 1 v' j (xs.take j) ∧ v'.ownBlock = v.ownBlock := by
  have hlen := hown.1
  rcases hown.2 with ⟨rfl, rfl⟩ | ⟨g, cap, rest, rfl, hb, hg, hc, hn, hm⟩
  · obtain rfl : j = 0 := by omega
    have hxs : xs = [] := List.eq_nil_of_length_eq_zero (by simpa using hlen)
    subst hxs
    refine ⟨.slice none 0 0, fun Ac ha dst pos after g => ?_, Own.nil _ _ _ _, rfl⟩
    simp only [execOp, ha.ev hx, ha.ev hl, Option.map_some, Option.map_none]
    simp [Instr.sliceAt, run_underlying ht, Instr.slice, Instr.sliceBounds, Sem.run_bind, sb0, run_sizeOf hi]
  · refine ⟨.slice (some ⟨g, 0, none⟩) j cap, fun Ac ha dst pos after gd => ?_, ⟨by simp; omega, .inr ⟨g, cap, xs.drop j ++ rest, rfl, hb, ?_, ?_, by omega, hm⟩⟩, rfl⟩
    · simp only [execOp, ha.ev hx, ha.ev hl, Option.map_some, Option.map_none]
      have hadd : (⟨g, 0, none⟩ : Addr).add (0 * 1) = ⟨g, 0, none⟩ := by unfold Addr.add; simp
      by_cases hc0 : cap = 0
      · subst hc0
        obtain rfl : j = 0 := by omega
        simp [Instr.sliceAt, run_underlying ht, Instr.slice, Instr.sliceBounds, Sem.run_bind, sb0, run_sizeOf hi]
      · simp [Instr.sliceAt, run_underlying ht, Instr.slice, Instr.sliceBounds, Sem.run_bind, run_sliceBoundI cap _ (Nat.le_trans h hn), run_sizeOf hi, hc0, hadd]
    · rw [← List.append_assoc, List.take_append_drop]; exact hg
    · simp only [List.length_take, List.length_append, List.length_drop]
      omega
/-- the last part of it, to be written -/
theorem EX.ownLE (ht : P.underlying t = some (.slice e)) (hi : TI P e z 1 bs) (hx : ev σ x = some (.slice (some ⟨g, 0, none⟩) len cap)) (hl : ev σ lo = some (.int kk (i : Int))) (h : i ≤ len ∧ len ≤ cap ∧ i < cap) :
    EX P n σ (.slice t x (some lo) none none) ty w (.slice (some ⟨g, i, none⟩) (len - i) (cap - i)) w := fun Ac ha dst pos after gd => by
  simp only [execOp, ha.ev hx, ha.ev hl, Option.map_some, Option.map_none]
  have hadd : (⟨g, 0, none⟩ : Addr).add i = ⟨g, i, none⟩ := by unfold Addr.add; split <;> simp_all
  have hne : ¬ cap = i := by omega
  simp [Instr.sliceAt, run_underlying ht, Instr.slice, Instr.sliceBounds, Sem.run_bind, run_sliceBoundI _ _ h.1, run_sizeOf hi, hne, hadd]
/-- a piece that is read -/
theorem EX.sliceALH {A : Option Addr} {k2 : IntKind} (ht : P.underlying t = some (.slice e)) (hi : TI P e z 1 bs) (hx : ev σ x = some (.slice A len cap)) (hl : ev σ lo = some (.int kk (i : Int))) (hh : ev σ hi' = some (.int k2 (j : Int))) (h : i ≤ j ∧ j ≤ len ∧ len ≤ cap) (hs : Sl w B A xs) (hln : xs.length = len) :
    ∃ A', EX P n σ (.slice t x (some lo) (some hi') none) ty w (.slice A' (j - i) (cap - i)) w ∧ Sl w B A' ((xs.drop i).take (j - i)) :=
  ⟨if cap = i then A else A.map (·.add (i * 1)), fun Ac ha dst pos after gd => by
    simp only [execOp, ha.ev hx, ha.ev hl, ha.ev hh, Option.map_some, Option.map_none]
    simp [Instr.sliceAt, run_underlying ht, Instr.slice, Instr.sliceBounds, Sem.run_bind, run_sliceBoundI j _ h.1, run_sliceBoundI cap _ (Nat.le_trans h.2.1 h.2.2), run_sizeOf hi], (hs.cut (by omega)).pre _⟩
/-- nil or not -/
theorem EX.eqlA0 {l c : Nat} (hu : P.underlying t = some (.slice e)) (hx : ev σ x = some (.slice none l c)) (hy : ev σ y = some (.slice none 0 0)) : EX P n σ (.binOp .eql t x y T) ty w (.bool true) w :=
  EX.bin hx hy (by unfold eqGuard; rfl) (run_eq rfl (fun d => by simp [Op.equalIn, run_underlying hu, Sem.run_bind]))
theorem EX.eqlA1 {a : Addr} {l c : Nat} (hu : P.underlying t = some (.slice e)) (hx : ev σ x = some (.slice (some a) l c)) (hy : ev σ y = some (.slice none 0 0)) : EX P n σ (.binOp .eql t x y T) ty w (.bool false) w :=
  EX.bin hx hy (by unfold eqGuard; rfl) (run_eq rfl (fun d => by simp [Op.equalIn, run_underlying hu, Sem.run_bind]))
end
theorem Own.ne {w : World} {B T T' s n b : Nat} {v : Value} {xs l : List Value} (h : Own w B T s v n xs) (hb : Bk w b T' l) (hne : T ≠ T') : ∀ k, v.ownBlock = some k → b ≠ k := by
  intro k hk
  rcases h.2 with ⟨rfl, _⟩ | ⟨g, cap, rest, rfl, _, hg, _⟩
  · simp [Value.ownBlock] at hk
  · simp [Value.ownBlock] at hk
    subst hk
    exact hb.ne hg (Ne.symm hne)
theorem Own.one {w : World} {B T s n : Nat} {v : Value} {xs : List Value} (h : Own w B T s v n xs) : v.oneCell' = true := by
  rcases h.2 with ⟨rfl, _⟩ | ⟨g, cap, rest, rfl, _⟩ <;> rfl
theorem Own.blkT {w : World} {B T s n : Nat} {v : Value} {xs : List Value} (h : Own w B T s v n xs) : ∀ k, v.ownBlock = some k → B ≤ k ∧ ∃ l, Bk w k T l := by
  intro k hk
  rcases h.2 with ⟨rfl, _⟩ | ⟨g, cap, rest, rfl, hB, hg, _⟩
  · simp [Value.ownBlock] at hk
  · simp [Value.ownBlock] at hk
    subst hk
    exact ⟨hB, _, hg⟩
section
variable {P : Program} {R : Act → World → Prop} {ops : Array Oper} {rest : List Oper} {k : List KI} {n : Nat} {σ : Sig} {w : World} {x y lo hi' : Operand} {t t' e ty T : TypeId} {pos : String} {after : Array Edge} {gd : Option (Nat × Bool)} {d : Nat} {v z : Value} {bs B len cap i j g : Nat} {l xs : List Value} {kk k2 : IntKind} {s : List UInt8}
theorem OW.ownFH (hg : wantS ops σ gd = some true) (hd : Nat.blt d n = true) (ht : P.underlying t = some (.slice e)) (hi : TI P e z 1 bs) (hx : ev σ x = some v) (hl : ev σ hi' = some (.int kk (j : Int))) (hown : Own w B e 1 v len xs) (h : j ≤ len)
    (hn : ∀ v', Own w B e 1 v' j (xs.take j) → v'.ownBlock = v.ownBlock → OW P R ops rest k n ((d, v') :: σ) w) : OW P R ops (⟨some d, .slice t x none (some hi') none, ty, pos, after, gd⟩ :: rest) k n σ w := by
  obtain ⟨v', h1, h2, h3⟩ := EX.ownFH (P := P) (n := n) (ty := ty) ht hi hx hl hown h
  exact OW.val hg hd h1 (hn v' h2 h3)
theorem OW.sliceALH {A : Option Addr} (hg : wantS ops σ gd = some true) (hd : Nat.blt d n = true) (ht : P.underlying t = some (.slice e)) (hi : TI P e z 1 bs) (hx : ev σ x = some (.slice A len cap)) (hl : ev σ lo = some (.int kk (i : Int))) (hh : ev σ hi' = some (.int k2 (j : Int))) (h : i ≤ j ∧ j ≤ len ∧ len ≤ cap) (hs : Sl w B A xs) (hln : xs.length = len)
    (hn : ∀ A', Sl w B A' ((xs.drop i).take (j - i)) → OW P R ops rest k n ((d, .slice A' (j - i) (cap - i)) :: σ) w) : OW P R ops (⟨some d, .slice t x (some lo) (some hi') none, ty, pos, after, gd⟩ :: rest) k n σ w := by
  obtain ⟨A', h1, h2⟩ := EX.sliceALH (P := P) (n := n) (ty := ty) ht hi hx hl hh h hs hln
  exact OW.val hg hd h1 (hn A' h2)
/-- zeros are appended onto a slice whose block may be written -/
theorem OW.appendZB {kx ki : IntKind} {m l' : Nat} (hg : wantS ops σ gd = some true) (hd : Nat.blt d n = true) (ht : P.underlying t = some (.slice e)) (hk : P.underlying t' = some (.int kx)) (hi : TI P e z 1 bs) (hz1 : z.oneCell' = true)
    (hx : ev σ x = some v) (hy : ev σ y = some (.int ki (m : Int))) (hown : Own w 0 e 1 v l' xs) (hm : 0 < m)
    (h63 : l' + m ≤ maxLen) (hbytes : (l' + m) * bs ≤ 140737488355328)
    (h : ∀ v' w', Own w' 0 e 1 v' (l' + m) (xs ++ List.replicate m z) → w.grownBy w' v.ownBlock → (v'.ownBlock = v.ownBlock ∨ v'.ownBlock = some w.heap.size) → OW P R ops rest k n ((d, v') :: σ) w') :
    OW P R ops (⟨some d, .call { callee := .builtin .append, args := #[x, y], argTypes := #[t, t'] }, ty, pos, after, gd⟩ :: rest) k n σ w := by
  obtain ⟨v', w', hr, h2, h3, h4⟩ := run_append_zeros (P := P) (w := w) (ty := ty) (ki := ki) 0 t' hk ht hi hz1 hown h63 hbytes (Nat.zero_le _) hm
  refine OW.val hg hd (v := v') (w' := w') ?_ (h v' w' h2 h3 h4)
  intro A ha dst pos after gd
  simp only [execOp, resolve, invoke, builtin, Sem.run_bind, Sem.run_pure, Result.andThen_ok, List.map_toArray, List.map_cons, List.map_nil, ha.ev hx, ha.ev hy, hr]
/-- a text is copied over bytes -/
theorem OW.copyS (hg : wantS ops σ gd = some true) (hd : Nat.blt d n = true) (ht : P.underlying t = some (.slice e)) (ht' : P.underlying t' = some .string) (hi : TI P e z 1 bs) (hx : ev σ x = some (.slice (some ⟨g, i, none⟩) len cap)) (hy : ev σ y = some (str s)) (hs : s.length ≤ len) (hb : Bk w g T l) (hl : i + s.length ≤ l.length)
    (hn : ∀ w', Bk w' g T (l.take i ++ bytesV s ++ l.drop (i + s.length)) → Mo w w' [g] → OW P R ops rest k n ((d, .int .i64 (s.length : Int)) :: σ) w') :
    OW P R ops (⟨some d, .call { callee := .builtin .copy, args := #[x, y], argTypes := #[t, t'] }, ty, pos, after, gd⟩ :: rest) k n σ w := by
  obtain ⟨w', hr, hb', hg'⟩ := run_storeCells_bk P w g i T (bytesV s) 0 l w hb (by simpa [bytesV] using hl) bytesV_one
  have hsrc := (Src.of_str (w := w) ht' s).cells
  have hlen := (Src.of_str (w := w) ht' s).len
  refine OW.val hg hd (v := .int .i64 (s.length : Int)) (w' := w') ?_ (hn w' (by simpa [bytesV] using hb') (Mo.grown hg' (fun k e => by simp at e; simp [e])))
  intro A ha dst pos after gd
  have hmin : Nat.min s.length len = s.length := Nat.min_eq_left hs
  have hsz := run_sizeOf (w := w) hi
  simp only [execOp, resolve, invoke, builtin, Sem.run_bind, Sem.run_pure, Result.andThen_ok, List.map_toArray, List.map_cons, List.map_nil, ha.ev hx, ha.ev hy]
  simp [Builtin.copy_, run_underlying ht, Sem.run_bind, hlen, hsz, hmin, hsrc, hr, goInt]
end
/-! ### What is changed, by types -/
/-- of the blocks that were there only some from B on, of types that p names, are changed -/
def Tm (w w' : World) (B : Nat) (p : TypeId → Bool) : Prop := ∃ S, Mo w w' S ∧ ∀ k ∈ S, B ≤ k ∧ ∃ T l, Bk w k T l ∧ p T = true
section
variable {w w' w'' : World} {B C : Nat} {p q : TypeId → Bool} {b : Nat} {T : TypeId} {l : List Value}
theorem Tm.refl (w : World) (B : Nat) (p : TypeId → Bool) : Tm w w B p := ⟨[], Mo.refl _ _, by simp⟩
theorem Tm.of_ext (h : Ext w w') (B : Nat) (p : TypeId → Bool) : Tm w w' B p := ⟨[], Mo.of_ext h _, by simp⟩
theorem Tm.mono (h : Tm w w' B p) (hp : ∀ T, p T = true → q T = true) : Tm w w' B q := by
  obtain ⟨S, hm, hS⟩ := h
  exact ⟨S, hm, fun k hk => let ⟨h1, T, l, h2, h3⟩ := hS k hk; ⟨h1, T, l, h2, hp T h3⟩⟩
theorem Tm.any (h : Tm w w' B p) : Tm w w' B (fun _ => true) := h.mono fun _ _ => rfl
theorem Tm.size (h : Tm w w' B p) : w.heap.size ≤ w'.heap.size := by obtain ⟨_, hm, _⟩ := h; exact hm.size
theorem Tm.trans (h : Tm w w' B p) (k : Tm w' w'' B p) : Tm w w'' B p := by
  obtain ⟨S, hm, hS⟩ := h
  obtain ⟨S', hm', hS'⟩ := k
  refine ⟨S ++ S'.filter (fun k => decide (k < w.heap.size)), ?_, fun k hk => ?_⟩
  · refine ((hm.mono (S' := S ++ S') (fun k hk => List.mem_append_left _ hk)).trans (hm'.mono (fun k hk => List.mem_append_right _ hk))).fresh fun k hk hlt => ?_
    rcases List.mem_append.1 hk with hk | hk
    · exact List.mem_append_left _ hk
    · exact List.mem_append_right _ (List.mem_filter.2 ⟨hk, by simpa using hlt⟩)
  · by_cases h1 : k ∈ S
    · exact hS k h1
    · rcases List.mem_append.1 hk with hk | hk
      · exact hS k hk
      · obtain ⟨hk, hlt⟩ := List.mem_filter.1 hk
        obtain ⟨h2, T, l, h3, h4⟩ := hS' k hk
        exact ⟨h2, T, l, h3.of_block (hm.block k (by simpa using hlt) h1).symm, h4⟩
theorem Tm.bk (h : Tm w w' B p) (hb : Bk w b T l) (hp : p T = false) : Bk w' b T l := by
  obtain ⟨S, hm, hS⟩ := h
  refine hb.mo hm fun hk => ?_
  obtain ⟨_, T', l', h2, h3⟩ := hS b hk
  obtain ⟨rfl, _⟩ := hb.det h2
  rw [hp] at h3
  cases h3
theorem Tm.own {s n : Nat} {v : Value} {xs : List Value} (h : Tm w w' B p) (ho : Own w C T s v n xs) (hp : p T = false) : Own w' C T s v n xs := by
  obtain ⟨S, hm, hS⟩ := h
  refine ho.mo hm fun k hk hkS => ?_
  obtain ⟨_, T', l', h2, h3⟩ := hS k hkS
  obtain ⟨_, l2, h4⟩ := ho.blkT k hk
  obtain ⟨rfl, _⟩ := h4.det h2
  rw [hp] at h3
  cases h3
/-- what lies below is as it was -/
theorem Tm.below {a : World} (hb : Below C a w) (h : Tm w w' B p) (hC : C ≤ w.heap.size) (hB : C ≤ B) : Below C a w' := by
  obtain ⟨S, hm, hS⟩ := h
  exact below_mo hb hm hC fun k hk => Nat.le_trans hB (hS k hk).1
theorem Tm.set (hb : Bk w b T l) (hm : Mo w w' [b]) (hB : B ≤ b) : Tm w w' B (fun U => U == T) := ⟨[b], hm, fun k hk => by
  simp only [List.mem_singleton] at hk
  subst hk
  exact ⟨hB, T, l, hb, by simp⟩⟩
theorem Tm.grown {s n : Nat} {v : Value} {xs : List Value} (ho : Own w B T s v n xs) (hg : w.grownBy w' v.ownBlock) : Tm w w' B (fun U => U == T) := ⟨v.ownBlock.toList, Mo.grown hg (fun k e => by rw [e]; simp), fun k hk => by
  obtain ⟨h1, l, h2⟩ := ho.blkT k (Option.mem_toList.1 hk)
  exact ⟨h1, T, l, h2, by simp⟩⟩
theorem Tm.ownMo {s n : Nat} {v : Value} {xs : List Value} (ho : Own w B T s v n xs) (hm : Mo w w' v.ownBlock.toList) : Tm w w' B (fun U => U == T) := ⟨v.ownBlock.toList, hm, fun k hk => by
  obtain ⟨h1, l, h2⟩ := ho.blkT k (Option.mem_toList.1 hk)
  exact ⟨h1, T, l, h2, by simp⟩⟩
/-- an owned slice's block lies from B on -/
theorem Own.base {s n : Nat} {v : Value} {xs : List Value} (h : Own w C T s v n xs) (hB : ∀ k, v.ownBlock = some k → B ≤ k) : Own w B T s v n xs := by
  refine ⟨h.1, ?_⟩
  rcases h.2 with hn | ⟨g, cap, rest, rfl, _, r⟩
  · exact .inl hn
  · exact .inr ⟨g, cap, rest, rfl, hB g rfl, r⟩
end
end Go.Proofs.YtjgeoeeikfjmdaaGreatDoor
/- The engine's law for regions that draw their order and hold calls or stores beside reads: what reads alone, in every world that meets S, is taken first. No program is spoken of. -/
namespace Go.Proofs.YtjgeoeeikfjmdaaGreatDoor
set_option linter.unnecessarySimpa false
open Go.RowKit
set_option linter.unusedSimpArgs false
set_option linter.unusedVariables false
def GW (P : Program) (R : Act → World → Prop) (ops : Array Oper) (S : World → Prop) (fuel : Nat) (listed : Array Bool) (k : List KI) (n : Nat) (σ : Sig) (w : World) : Prop :=
  ∀ a, Fr n σ a → wpAnyH P .any ops (pst P R k) S fuel listed a w
section
variable {P : Program} {R : Act → World → Prop} {ops : Array Oper} {S : World → Prop} {fuel : Nat} {listed : Array Bool} {k : List KI} {n : Nat} {σ : Sig} {w w' : World}
theorem pst_panic {c : List PanicEntry} : ∀ (k : List KI) (a : Act) (w : World), pst P R k (.panic c) a w → False
  | [], _, _, h => h
  | .code _ :: k, a, w, h => pst_panic k a w h
  | .blk _ :: k, a, w, h => pst_panic k a w h
  | .asr _ :: k, a, w, h => pst_panic k a w h
theorem KW.regionG {id N : Nat} {l : List Oper} (S : World → Prop) (hm : P.follows .mixedOrders = true) (hN : l.toArray.size = N) (h : GW P R l.toArray S N (Array.replicate N false) k n σ w.drew) : KW P R (.code (.region id l.toArray true) :: k) n σ w := fun a ha => by
  subst hN
  exact wp_region_held hm (h a ha)
theorem GW.val (i : Nat) {d : Nat} {op : Op} {ty : TypeId} {pos : String} {after : Array Edge} {g : Option (Nat × Bool)} {v : Value} (hi : ops[i]? = some ⟨some d, op, ty, pos, after, g⟩) (hs : Region.noSelect ops = true) (hf : Region.free .any ops listed i = true) (hr : (Region.ready .any ops listed).contains i = true)
    (hg : wantS ops σ g = some true) (hd : Nat.blt d n = true) (hS : S w) (he : ∀ w', S w' → EX P n σ op ty w' v w')
    (h : GW P R ops S fuel (listed.setIfInBounds i true) k n ((d, v) :: σ) w) : GW P R ops S (fuel + 1) listed k n σ w := fun a ha =>
  wpAnyH_take hi hs hf hr (fun c a w q => (pst_panic k _ _ q).elim) (.inl ⟨wantS_spec ha (o := ⟨some d, op, ty, pos, after, g⟩) hg, fun w' hw' => he w' hw' a ha _ _ _ _⟩) hS (h _ (ha.put hd v))
theorem GW.pass (i : Nat) {d : Nat} {op : Op} {ty : TypeId} {pos : String} {after : Array Edge} {g : Option (Nat × Bool)} (hi : ops[i]? = some ⟨some d, op, ty, pos, after, g⟩) (hs : Region.noSelect ops = true) (hf : Region.free .any ops listed i = true) (hr : (Region.ready .any ops listed).contains i = true)
    (hg : wantS ops σ g = some false) (hd : Nat.blt d n = true) (hS : S w)
    (h : GW P R ops S fuel (listed.setIfInBounds i true) k n ((d, undef) :: σ) w) : GW P R ops S (fuel + 1) listed k n σ w := fun a ha =>
  wpAnyH_take hi hs hf hr (fun c a w q => (pst_panic k _ _ q).elim) (.inr ⟨wantS_spec ha (o := ⟨some d, op, ty, pos, after, g⟩) hg, rfl⟩) hS (h _ (ha.put hd undef))
/-- the one operation that may come up -/
theorem GW.sole (i : Nat) {o : Oper} (hi : ops[i]? = some o) (hr : Region.ready .any ops listed = [i]) (hg : wantS ops σ o.guard = some true)
    (h : ∀ a, Fr n σ a → o.wp P a w (fun a' w' => S w' ∧ wpAnyH P .any ops (pst P R k) S fuel (listed.setIfInBounds i true) a' w') (pst P R k)) : GW P R ops S (fuel + 1) listed k n σ w := fun a ha =>
  wpAnyH_all hr (by simp) fun j hj => by
    simp only [List.mem_singleton] at hj
    subst hj
    unfold wpOp
    simp only [hi, wantS_spec ha hg, if_true]
    exact .inl (h a ha)
theorem GW.callE (i : Nat) {d : Nat} {op : Op} {ty : TypeId} {pos : String} {after : Array Edge} {g : Option (Nat × Bool)} {f : FuncId} {args : List Value} {Q : Value → World → Prop} (hi : ops[i]? = some ⟨some d, op, ty, pos, after, g⟩) (hr : Region.ready .any ops listed = [i])
    (hg : wantS ops σ g = some true) (hd : Nat.blt d n = true) (he : EC P n σ op ty w f args.toArray) (hc : Ret P f args w Q)
    (h : ∀ v w', Q v w' → S w' ∧ (S w' → GW P R ops S fuel (listed.setIfInBounds i true) k n ((d, v) :: σ) w')) : GW P R ops S (fuel + 1) listed k n σ w :=
  GW.sole i hi hr hg fun a ha => by
    have h1 := he a ha (some d) pos after g
    unfold Oper.wp
    rw [h1]
    refine hc.2.mono fun e w'' ⟨v, he, q⟩ => ?_
    subst he
    obtain ⟨h2, h3⟩ := h v w'' q
    exact ⟨h2, h3 h2 _ (ha.put hd v)⟩
theorem GW.call (i : Nat) {d : Nat} {f : FuncId} {xs : List Operand} {ats : Array TypeId} {ty : TypeId} {pos : String} {after : Array Edge} {g : Option (Nat × Bool)} {vs : List Value} {Q : Value → World → Prop}
    (hi : ops[i]? = some ⟨some d, .call { callee := .value (.func f), args := xs.toArray, argTypes := ats }, ty, pos, after, g⟩) (hr : Region.ready .any ops listed = [i])
    (hg : wantS ops σ g = some true) (hd : Nat.blt d n = true) (hx : evs σ xs = some vs) (hc : Ret P f vs w Q)
    (h : ∀ v w', Q v w' → S w' ∧ (S w' → GW P R ops S fuel (listed.setIfInBounds i true) k n ((d, v) :: σ) w')) : GW P R ops S (fuel + 1) listed k n σ w := by
  obtain ⟨⟨fn, h1, h2⟩, _⟩ := id hc
  exact GW.callE i hi hr hg hd (EC.go h1 h2 hx) hc h
theorem GW.new (i : Nat) {d : Nat} {op : Op} {ty : TypeId} {pos : String} {after : Array Edge} {g : Option (Nat × Bool)} {v : Value} (hi : ops[i]? = some ⟨some d, op, ty, pos, after, g⟩) (hr : Region.ready .any ops listed = [i])
    (hg : wantS ops σ g = some true) (hd : Nat.blt d n = true) (he : EX P n σ op ty w v w') (h : S w' ∧ (S w' → GW P R ops S fuel (listed.setIfInBounds i true) k n ((d, v) :: σ) w')) : GW P R ops S (fuel + 1) listed k n σ w :=
  GW.sole i hi hr hg fun a ha => by
    have h1 := he a ha (some d) pos after g
    unfold Oper.wp
    rw [h1]
    exact ⟨h.1, h.2 h.1 _ (ha.put hd v)⟩
theorem GW.eff (i : Nat) {op : Op} {ty : TypeId} {pos : String} {after : Array Edge} {g : Option (Nat × Bool)} (hi : ops[i]? = some ⟨none, op, ty, pos, after, g⟩) (hr : Region.ready .any ops listed = [i])
    (hg : wantS ops σ g = some true) (he : EU P n σ op ty w w') (h : S w' ∧ (S w' → GW P R ops S fuel (listed.setIfInBounds i true) k n σ w')) : GW P R ops S (fuel + 1) listed k n σ w :=
  GW.sole i hi hr hg fun a ha => by
    have h1 := he a ha none pos after g
    unfold Oper.wp
    rw [h1]
    exact ⟨h.1, h.2 h.1 _ ha⟩
theorem GW.storeB (i : Nat) {x y : Operand} {T T' ty : TypeId} {pos : String} {after : Array Edge} {g : Option (Nat × Bool)} {b o bs : Nat} {v z : Value} {l : List Value} (hi : ops[i]? = some ⟨none, .store T x y, ty, pos, after, g⟩) (hr : Region.ready .any ops listed = [i])
    (hg : wantS ops σ g = some true) (ht : TI P T z 1 bs) (hx : ev σ x = some (.pointer (some ⟨b, o, none⟩))) (hy : ev σ y = some v) (h1 : v.oneCell' = true) (hb : Bk w b T' l) (hlt : o < l.length)
    (h : ∀ w', Bk w' b T' (l.set o v) → Mo w w' [b] → S w' ∧ (S w' → GW P R ops S fuel (listed.setIfInBounds i true) k n σ w')) : GW P R ops S (fuel + 1) listed k n σ w :=
  GW.eff i hi hr hg (EU.storeBk ht hx hy h1 hb hlt) (h _ (hb.set o v) (Mo.set w b o v))
theorem GW.storeS (i : Nat) {x y : Operand} {T T' ty : TypeId} {pos : String} {after : Array Edge} {g : Option (Nat × Bool)} {b o s bs : Nat} {z : Value} {l vs : List Value} (hi : ops[i]? = some ⟨none, .store T x y, ty, pos, after, g⟩) (hr : Region.ready .any ops listed = [i])
    (hg : wantS ops σ g = some true) (ht : TI P T z s bs) (hx : ev σ x = some (.pointer (some ⟨b, o, none⟩))) (hy : ev σ y = some (.agg vs.toArray)) (hs : vs.length = s) (h1 : vs.all (·.oneCell') = true) (hb : Bk w b T' l) (hlt : o + vs.length ≤ l.length)
    (h : ∀ w', Bk w' b T' (l.take o ++ vs ++ l.drop (o + vs.length)) → Mo w w' [b] → S w' ∧ (S w' → GW P R ops S fuel (listed.setIfInBounds i true) k n σ w')) : GW P R ops S (fuel + 1) listed k n σ w := by
  obtain ⟨w', he, hb', hg'⟩ := EU.storeA (P := P) (n := n) (ty := ty) ht hx hy hs h1 hb hlt
  exact GW.eff i hi hr hg he (h w' hb' (Mo.grown hg' (fun k e => by simp at e; simp [e])))
/-- number i comes up -/
def GO (P : Program) (R : Act → World → Prop) (ops : Array Oper) (S : World → Prop) (fuel : Nat) (listed : Array Bool) (k : List KI) (n : Nat) (σ : Sig) (w : World) (i : Nat) : Prop :=
  ∀ a, Fr n σ a → wpOp P ops (pst P R k) i (fun a' w' => S w' ∧ wpAnyH P .any ops (pst P R k) S fuel (listed.setIfInBounds i true) a' w') a w
theorem GW.two (i j : Nat) (hr : Region.ready .any ops listed = [i, j]) (h1 : GO P R ops S fuel listed k n σ w i) (h2 : GO P R ops S fuel listed k n σ w j) : GW P R ops S (fuel + 1) listed k n σ w := fun a ha =>
  wpAnyH_all hr (by simp) fun q hq => by
    simp only [List.mem_cons, List.not_mem_nil, or_false] at hq
    rcases hq with rfl | rfl
    · exact h1 a ha
    · exact h2 a ha
theorem wpAnyH_strong {S' : World → Prop} {Q : Exit → Act → World → Prop} (hS : ∀ w, S' w → S w) : ∀ (fuel : Nat) (listed : Array Bool) (a : Act) (w : World), wpAnyH P .any ops Q S' fuel listed a w → wpAnyH P .any ops Q S fuel listed a w
  | 0, _, _, _, h => h
  | fuel + 1, _, _, _, h => ⟨h.1, fun i hi => wpOp_mono (fun a' w' h' => ⟨hS _ h'.1, wpAnyH_strong hS fuel _ a' w' h'.2⟩) (h.2 i hi)⟩
/-- more is asked of the worlds from here on -/
theorem GW.strong (S' : World → Prop) (hS : ∀ w, S' w → S w) (h : GW P R ops S' fuel listed k n σ w) : GW P R ops S fuel listed k n σ w := fun a ha => wpAnyH_strong hS fuel listed a w (h a ha)
theorem GW.as (t : Nat) (v' : Value) {v : Value} (ht : lk σ t = some v) (e : v = v') (h : GW P R ops S fuel listed k n ((t, v') :: σ) w) : GW P R ops S fuel listed k n σ w := fun a ha =>
  OW.as (P := P) (R := R) (ops := #[]) (l := []) (k := [.asr fun a w => wpAnyH P .any ops (pst P R k) S fuel listed a w]) t v' ht e (fun a ha => h a ha) a ha
theorem GO.sole (i : Nat) {o : Oper} (hi : ops[i]? = some o) (hg : wantS ops σ o.guard = some true)
    (h : ∀ a, Fr n σ a → o.wp P a w (fun a' w' => S w' ∧ wpAnyH P .any ops (pst P R k) S fuel (listed.setIfInBounds i true) a' w') (pst P R k)) : GO P R ops S fuel listed k n σ w i := fun a ha => by
  unfold wpOp
  simp only [hi, wantS_spec ha hg, if_true]
  exact .inl (h a ha)
theorem GO.callE (i : Nat) {d : Nat} {op : Op} {ty : TypeId} {pos : String} {after : Array Edge} {g : Option (Nat × Bool)} {f : FuncId} {args : List Value} {Q : Value → World → Prop} (hi : ops[i]? = some ⟨some d, op, ty, pos, after, g⟩)
    (hg : wantS ops σ g = some true) (hd : Nat.blt d n = true) (he : EC P n σ op ty w f args.toArray) (hc : Ret P f args w Q)
    (h : ∀ v w', Q v w' → S w' ∧ (S w' → GW P R ops S fuel (listed.setIfInBounds i true) k n ((d, v) :: σ) w')) : GO P R ops S fuel listed k n σ w i :=
  GO.sole i hi hg fun a ha => by
    have h1 := he a ha (some d) pos after g
    unfold Oper.wp
    rw [h1]
    refine hc.2.mono fun e w'' ⟨v, he, q⟩ => ?_
    subst he
    obtain ⟨h2, h3⟩ := h v w'' q
    exact ⟨h2, h3 h2 _ (ha.put hd v)⟩
theorem GO.call (i : Nat) {d : Nat} {f : FuncId} {xs : List Operand} {ats : Array TypeId} {ty : TypeId} {pos : String} {after : Array Edge} {g : Option (Nat × Bool)} {vs : List Value} {Q : Value → World → Prop}
    (hi : ops[i]? = some ⟨some d, .call { callee := .value (.func f), args := xs.toArray, argTypes := ats }, ty, pos, after, g⟩)
    (hg : wantS ops σ g = some true) (hd : Nat.blt d n = true) (hx : evs σ xs = some vs) (hc : Ret P f vs w Q)
    (h : ∀ v w', Q v w' → S w' ∧ (S w' → GW P R ops S fuel (listed.setIfInBounds i true) k n ((d, v) :: σ) w')) : GO P R ops S fuel listed k n σ w i := by
  obtain ⟨⟨fn, h1, h2⟩, _⟩ := id hc
  exact GO.callE i hi hg hd (EC.go h1 h2 hx) hc h
theorem GO.new (i : Nat) {d : Nat} {op : Op} {ty : TypeId} {pos : String} {after : Array Edge} {g : Option (Nat × Bool)} {v : Value} (hi : ops[i]? = some ⟨some d, op, ty, pos, after, g⟩)
    (hg : wantS ops σ g = some true) (hd : Nat.blt d n = true) (he : EX P n σ op ty w v w') (h : S w' ∧ (S w' → GW P R ops S fuel (listed.setIfInBounds i true) k n ((d, v) :: σ) w')) : GO P R ops S fuel listed k n σ w i :=
  GO.sole i hi hg fun a ha => by
    have h1 := he a ha (some d) pos after g
    unfold Oper.wp
    rw [h1]
    exact ⟨h.1, h.2 h.1 _ (ha.put hd v)⟩
theorem GO.eff (i : Nat) {op : Op} {ty : TypeId} {pos : String} {after : Array Edge} {g : Option (Nat × Bool)} (hi : ops[i]? = some ⟨none, op, ty, pos, after, g⟩)
    (hg : wantS ops σ g = some true) (he : EU P n σ op ty w w') (h : S w' ∧ (S w' → GW P R ops S fuel (listed.setIfInBounds i true) k n σ w')) : GO P R ops S fuel listed k n σ w i :=
  GO.sole i hi hg fun a ha => by
    have h1 := he a ha none pos after g
    unfold Oper.wp
    rw [h1]
    exact ⟨h.1, h.2 h.1 _ ha⟩
theorem GO.storeB (i : Nat) {x y : Operand} {T T' ty : TypeId} {pos : String} {after : Array Edge} {g : Option (Nat × Bool)} {b o bs : Nat} {v z : Value} {l : List Value} (hi : ops[i]? = some ⟨none, .store T x y, ty, pos, after, g⟩)
    (hg : wantS ops σ g = some true) (ht : TI P T z 1 bs) (hx : ev σ x = some (.pointer (some ⟨b, o, none⟩))) (hy : ev σ y = some v) (h1 : v.oneCell' = true) (hb : Bk w b T' l) (hlt : o < l.length)
    (h : ∀ w', Bk w' b T' (l.set o v) → Mo w w' [b] → S w' ∧ (S w' → GW P R ops S fuel (listed.setIfInBounds i true) k n σ w')) : GO P R ops S fuel listed k n σ w i :=
  GO.eff i hi hg (EU.storeBk ht hx hy h1 hb hlt) (h _ (hb.set o v) (Mo.set w b o v))
theorem GO.storeS (i : Nat) {x y : Operand} {T T' ty : TypeId} {pos : String} {after : Array Edge} {g : Option (Nat × Bool)} {b o s bs : Nat} {z : Value} {l vs : List Value} (hi : ops[i]? = some ⟨none, .store T x y, ty, pos, after, g⟩)
    (hg : wantS ops σ g = some true) (ht : TI P T z s bs) (hx : ev σ x = some (.pointer (some ⟨b, o, none⟩))) (hy : ev σ y = some (.agg vs.toArray)) (hs : vs.length = s) (h1 : vs.all (·.oneCell') = true) (hb : Bk w b T' l) (hlt : o + vs.length ≤ l.length)
    (h : ∀ w', Bk w' b T' (l.take o ++ vs ++ l.drop (o + vs.length)) → Mo w w' [b] → S w' ∧ (S w' → GW P R ops S fuel (listed.setIfInBounds i true) k n σ w')) : GO P R ops S fuel listed k n σ w i := by
  obtain ⟨w', he, hb', hg'⟩ := EU.storeA (P := P) (n := n) (ty := ty) ht hx hy hs h1 hb hlt
  exact GO.eff i hi hg he (h w' hb' (Mo.grown hg' (fun k e => by simp at e; simp [e])))
theorem GW.allocB (i : Nat) {d : Nat} {T ty : TypeId} {pos : String} {after : Array Edge} {g : Option (Nat × Bool)} {z : Value} {s bs : Nat} {l : List Value} (hi : ops[i]? = some ⟨some d, .alloc T, ty, pos, after, g⟩) (hr : Region.ready .any ops listed = [i]) (hg : wantS ops σ g = some true) (hd : Nat.blt d n = true) (ht : TI P T z s bs) (hl : z.cells.toList = l)
    (h : ∀ b w', w.heap.size ≤ b → Bk w' b T l → Ext w w' → S w' ∧ (S w' → GW P R ops S fuel (listed.setIfInBounds i true) k n ((d, .pointer (some ⟨b, 0, none⟩)) :: σ) w')) : GW P R ops S (fuel + 1) listed k n σ w :=
  GW.new i hi hr hg hd (EX.alloc ht hl) (h _ _ (Nat.le_refl _) (Bk.new w T l) (Ext.alloc w _))
theorem GW.buildB (i : Nat) (len : Nat) {d : Nat} {T e ty : TypeId} {pos : String} {after : Array Edge} {g : Option (Nat × Bool)} {z : Value} {bs : Nat} {parts : Array (Nat × Operand)} {vs : List Value} (hi : ops[i]? = some ⟨some d, .buildSlice T len parts, ty, pos, after, g⟩) (hr : Region.ready .any ops listed = [i]) (hg : wantS ops σ g = some true) (hd : Nat.blt d n = true) (ht : P.underlying T = some (.slice e)) (hti : TI P e z 1 bs) (hz1 : z.oneCell' = true)
    (hv : evs σ (parts.toList.map (·.2)) = some vs) (hp : parts.toList.map (·.1) = List.range' 0 parts.toList.length) (hl : vs.length = len) (h1 : vs.all (·.oneCell') = true) (hlen : len ≤ 16777216)
    (h : ∀ b w', w.heap.size ≤ b → Bk w' b e vs → Ext w w' → S w' ∧ (S w' → GW P R ops S fuel (listed.setIfInBounds i true) k n ((d, .slice (some ⟨b, 0, none⟩) len len) :: σ) w')) : GW P R ops S (fuel + 1) listed k n σ w :=
  GW.new i hi hr hg hd (EX.buildSlice len ht hti hz1 hv hp hl h1 hlen) (h _ _ (Nat.le_refl _) (Bk.new w e vs) (Ext.alloc w _))
theorem GO.allocB (i : Nat) {d : Nat} {T ty : TypeId} {pos : String} {after : Array Edge} {g : Option (Nat × Bool)} {z : Value} {s bs : Nat} {l : List Value} (hi : ops[i]? = some ⟨some d, .alloc T, ty, pos, after, g⟩) (hg : wantS ops σ g = some true) (hd : Nat.blt d n = true) (ht : TI P T z s bs) (hl : z.cells.toList = l)
    (h : ∀ b w', w.heap.size ≤ b → Bk w' b T l → Ext w w' → S w' ∧ (S w' → GW P R ops S fuel (listed.setIfInBounds i true) k n ((d, .pointer (some ⟨b, 0, none⟩)) :: σ) w')) : GO P R ops S fuel listed k n σ w i :=
  GO.new i hi hg hd (EX.alloc ht hl) (h _ _ (Nat.le_refl _) (Bk.new w T l) (Ext.alloc w _))
theorem GO.buildB (i : Nat) (len : Nat) {d : Nat} {T e ty : TypeId} {pos : String} {after : Array Edge} {g : Option (Nat × Bool)} {z : Value} {bs : Nat} {parts : Array (Nat × Operand)} {vs : List Value} (hi : ops[i]? = some ⟨some d, .buildSlice T len parts, ty, pos, after, g⟩) (hg : wantS ops σ g = some true) (hd : Nat.blt d n = true) (ht : P.underlying T = some (.slice e)) (hti : TI P e z 1 bs) (hz1 : z.oneCell' = true)
    (hv : evs σ (parts.toList.map (·.2)) = some vs) (hp : parts.toList.map (·.1) = List.range' 0 parts.toList.length) (hl : vs.length = len) (h1 : vs.all (·.oneCell') = true) (hlen : len ≤ 16777216)
    (h : ∀ b w', w.heap.size ≤ b → Bk w' b e vs → Ext w w' → S w' ∧ (S w' → GW P R ops S fuel (listed.setIfInBounds i true) k n ((d, .slice (some ⟨b, 0, none⟩) len len) :: σ) w')) : GO P R ops S fuel listed k n σ w i :=
  GO.new i hi hg hd (EX.buildSlice len ht hti hz1 hv hp hl h1 hlen) (h _ _ (Nat.le_refl _) (Bk.new w e vs) (Ext.alloc w _))
theorem GW.done (hr : Region.ready .any ops listed = []) (h : KW P R k n σ w) : GW P R ops S fuel listed k n σ w := fun a ha => wpAnyH_done hr (h a ha) fuel
end
end Go.Proofs.YtjgeoeeikfjmdaaGreatDoor
/- The engine's laws for structs within structs, for '==' of structs, and for results that stand in cells. No program is spoken of. -/
namespace Go.Proofs.YtjgeoeeikfjmdaaGreatDoor
set_option linter.unnecessarySimpa false
open Go.RowKit
set_option linter.unusedSimpArgs false
set_option linter.unusedVariables false
section
variable {P : Program} {n : Nat} {σ : Sig} {w : World} {x y : Operand} {t e ty T T' : TypeId} {b o : Nat} {z v : Value} {s bs : Nat} {l : List Value}
/-- a struct some of whose parts are structs -/
theorem EX.buildG {fs : Array Field} {parts : Array (Nat × Operand)} {pl : List (Nat × Nat)} {ks : List Nat} {vs zs : List Value} (hu : P.underlying t = some (.struct fs)) (hi : TI P t (.agg zs.toArray) s bs) (hp : places P fs.toList = some pl)
    (hk : parts.toList.map (·.1) = ks) (hv : evs σ (parts.toList.map (·.2)) = some vs) (hf : Instr.fill (pl.toArray[·]?) zs.toArray (ks.zip vs) = some l.toArray) :
    EX P n σ (.build t parts) ty w (.agg l.toArray) w := fun A ha dst pos after g => by
  have hev := ha.evs hv
  have hpv : (parts.map fun (p : Nat × Operand) => (p.1, A.eval p.2)).toList = ks.zip vs := by
    rw [← hk, ← hev]
    simp only [Array.toList_map, List.map_map, List.zip_map']
    rfl
  have hm : (fs.mapM fun f => (do pure (f.offset, ← sizeOf f.type) : Sem (Nat × Nat))).run P w = .ok pl.toArray w := by
    have := run_places (P := P) (w := w) fs.toList pl hp
    obtain ⟨fl⟩ := fs
    rw [List.mapM_toArray, map_eq_pure_bind, Sem.run_bind, this]
    rfl
  simp only [execOp, Instr.build, Sem.run_bind, run_zeroValue hi, Result.andThen_ok, run_underlying hu, hm]
  rw [show (parts.map fun (x : Nat × Operand) => match x with | (i, x) => (i, A.eval x)).toList = ks.zip vs from hpv]
  rw [show ((Value.agg zs.toArray).cells) = zs.toArray from rfl, hf]
  rfl
/-! ### '==' -/
inductive FEqs (P : Program) (w : World) (xs ys : List Value) : List Field → List Bool → Prop
  | nil : FEqs P w xs ys [] []
  | cons {f : Field} {fs : List Field} {q : Bool} {qs : List Bool} {u v : Value} {d : TypeDesc} (hn : f.name ≠ "_") (hd : P.underlying f.type = some d) (hfl : flat d = true) (hx : xs[f.offset]? = some u) (hy : ys[f.offset]? = some v)
      (he : ∀ k, (Op.equalIn (k + 1) f.type u v).run P w = .ok q w) (hr : FEqs P w xs ys fs qs) : FEqs P w xs ys (f :: fs) (q :: qs)
theorem FEqs.run {xs ys : List Value} (k : Nat) : ∀ {fs : List Field} {qs : List Bool}, FEqs P w xs ys fs qs → (Op.eqFields (k + 1) xs.toArray ys.toArray fs).run P w = .ok (qs.all id) w
  | _, _, .nil => by simp [Op.eqFields]
  | f :: fs, q :: qs, .cons (u := u) (v := v) hn hd hfl hx hy he hr => by
    have h1 : (part f.type xs.toArray f.offset).run P w = .ok u w := by simp [part, Sem.run_bind, run_isAgg hd, hfl, hx]
    have h2 : (part f.type ys.toArray f.offset).run P w = .ok v w := by simp [part, Sem.run_bind, run_isAgg hd, hfl, hy]
    have ih := FEqs.run k hr
    simp only [Op.eqFields]
    rw [if_pos hn]
    simp only [Sem.run_bind, h1, h2, he k, Result.andThen_ok]
    cases q
    · simp
    · simpa using ih
theorem eq_int {k : IntKind} {a b : Int} (h : P.underlying t = some (.int k)) (d : Nat) : (Op.equalIn (d + 1) t (.int k a) (.int k b)).run P w = .ok (decide (a = b)) w := run_equalIn_int w d t k k a b h
theorem eq_str {a b : List UInt8} (h : P.underlying t = some .string) (d : Nat) : (Op.equalIn (d + 1) t (str a) (str b)).run P w = .ok (decide (a = b)) w := by
  have := run_equalIn_string (P := P) w d t ⟨⟨a⟩⟩ ⟨⟨b⟩⟩ h
  have e : (ByteArray.toList ⟨⟨a⟩⟩ == ByteArray.toList ⟨⟨b⟩⟩) = decide (a = b) := by rw [Bool.eq_iff_iff]; simp
  rw [e] at this
  exact this
theorem eq_bool {a b : Bool} (h : P.underlying t = some .bool) (d : Nat) : (Op.equalIn (d + 1) t (.bool a) (.bool b)).run P w = .ok (decide (a = b)) w := by
  have := run_equalIn_bool' (P := P) w d t a b h
  rw [this]
  cases a <;> cases b <;> rfl
theorem EX.eqlG {fs : Array Field} {xs ys : List Value} {qs : List Bool} {r : Bool} (hu : P.underlying t = some (.struct fs)) (hp : P.stoodInHeld t = false) (hm : P.eqGuardType P.depth t = false) (hx : ev σ x = some (.agg xs.toArray)) (hy : ev σ y = some (.agg ys.toArray))
    (h : FEqs P w xs ys fs.toList qs) (hr : qs.all id = r) : EX P n σ (.binOp .eql t x y T) ty w (.bool r) w := by
  subst hr
  have hf : P.fieldsOf t = fs := by unfold Program.fieldsOf; rw [hu]
  refine EX.bin hx hy (run_eqGuard_agg w _ t x y _ _ hm) ?_
  rw [run_eql_struct, show (10000 : Nat) = 9998 + 1 + 1 from rfl, run_equalIn_agg w _ t _ _ (by rw [hf]; exact hu) hp, hf, h.run]
  rfl
theorem EX.neqG {fs : Array Field} {xs ys : List Value} {qs : List Bool} {r : Bool} (hu : P.underlying t = some (.struct fs)) (hp : P.stoodInHeld t = false) (hm : P.eqGuardType P.depth t = false) (hx : ev σ x = some (.agg xs.toArray)) (hy : ev σ y = some (.agg ys.toArray))
    (h : FEqs P w xs ys fs.toList qs) (hr : (!qs.all id) = r) : EX P n σ (.binOp .neq t x y T) ty w (.bool r) w := by
  subst hr
  have hf : P.fieldsOf t = fs := by unfold Program.fieldsOf; rw [hu]
  refine EX.bin hx hy (run_eqGuard_agg w _ t x y _ _ hm) ?_
  rw [run_neq_struct, show (10000 : Nat) = 9998 + 1 + 1 from rfl, run_equalIn_agg w _ t _ _ (by rw [hf]; exact hu) hp, hf, h.run]
  rfl
end
/-! ### Results in cells -/
section
variable {P : Program} {fn : Func} {Q : Value → World → Prop} {n : Nat} {σ : Sig} {w : World} {k : List KI}
theorem retC2 {t u : Nat} {T T' : TypeId} {b s bs : Nat} {z x : Value} {d : TypeDesc} {l : List Value} (hs : fn.results = #[.cell t T, .tmp u]) (hu : P.underlying T = some d) (hd : flat d = false) (hi : TI P T z s bs) (hv : lk σ t = some (.pointer (some ⟨b, 0, none⟩))) (hx : lk σ u = some x)
    (hb : Bk w b T' l) (hl : l.length = s) (hq : Q (.tuple #[.agg l.toArray, x]) w) : ∀ a, Fr n σ a → bodyPost P fn (fun e w' => ∃ v, e = .returned v ∧ Q v w') .ret a w :=
  ret_of (fun a ha => by
    have h := EX.loadBk (P := P) (n := n) (σ := σ) (x := .tmp t) (ty := 0) hu hd hi hv hb hl a ha none "" #[] none
    have h1 : (loadVar T ⟨b, 0, none⟩).run P w = .ok (.agg l.toArray) w := by
      have et : a.eval (.tmp t) = .pointer (some ⟨b, 0, none⟩) := ha.ev (x := .tmp t) hv
      simp only [execOp, et, Instr.loadAt, Instr.sureAddr, Sem.run_bind, Sem.run_pure, Result.andThen_ok] at h
      cases hr : (loadVar T ⟨b, 0, none⟩).run P w with
      | ok v w' => rw [hr] at h; simpa using h
      | halt q w' => rw [hr] at h; simp at h
    rw [results_cell_tmp hs]
    have e1 := ha.val t _ hv
    have e2 := ha.val u _ hx
    simp [e1, e2, asAddr, h1]) hq
end
/-! ### A struct is appended -/
theorem fold_set : ∀ (vs : List Value) (i : Nat) (pre post : List Value), pre.length = i → post.length = vs.length →
    (vs.zipIdx i).foldl (fun (cs : Array Value) (x : Value × Nat) => cs.setIfInBounds (0 + x.2) x.1) (pre ++ post).toArray = (pre ++ vs).toArray
  | [], i, pre, post, _, h => by
    have : post = [] := List.eq_nil_of_length_eq_zero (by simpa using h)
    subst this
    rfl
  | v :: vs, i, pre, [], _, h => by simp at h
  | v :: vs, i, pre, p :: post, hp, h => by
    have ih := fold_set vs (i + 1) (pre ++ [v]) post (by simp [hp]) (by simpa using h)
    have hset : (pre ++ p :: post).toArray.setIfInBounds (0 + i) v = ((pre ++ [v]) ++ post).toArray := by simp [← hp]
    simp only [List.zipIdx_cons, List.foldl_cons]
    rw [hset, ih]
    simp
section
variable {P : Program} {n : Nat} {σ : Sig} {w w0 : World} {x y : Operand} {t e ty ty1 : TypeId} {s bs : Nat} {R : Act → World → Prop} {ops : Array Oper} {rest : List Oper} {k : List KI} {pos pos1 : String} {after after1 : Array Edge} {gd gd1 : Option (Nat × Bool)} {d d1 : Nat}
theorem EX.buildSlice1 {z : Value} {vs : List Value} (ht : P.underlying t = some (.slice e)) (hi : TI P e z s bs) (hzs : z.cells.size = s) (hs0 : 0 < s) (hs : s ≤ 16777216) (hy : ev σ y = some (.agg vs.toArray)) (hl : vs.length = s) :
    EX P n σ (.buildSlice t 1 #[(0, y)]) ty w (.slice (some ⟨w.heap.size, 0, none⟩) 1 1) (w.alloc (.cells vs.toArray e)) := fun A ha dst pos after g => by
  have hev := ha.ev hy
  have hn : ¬ (1 * s > 2 ^ 24) := by omega
  have hn0 : ¬ (1 * s = 0) := by omega
  generalize hzz : ((Array.range (1 * s)).map fun j => z.cells[j % z.cells.size]!) = zz
  have hzl : zz.size = s := by rw [← hzz]; simp
  have hf : Instr.fill (fun i => some (i * s, s)) zz [(0, .agg vs.toArray)] = some vs.toArray := by
    obtain ⟨zl⟩ := zz
    have hzl' : zl.length = s := by simpa using hzl
    have h1 := fold_set vs 0 [] zl rfl (by omega)
    simp only [List.nil_append] at h1
    simp only [Instr.fill, Value.cells, Nat.zero_mul, List.size_toArray]
    have hn2 : ¬ (vs.length ≠ s ∨ 0 + vs.length > zl.length) := by omega
    simp only [ne_eq, Bool.or_eq_true, decide_eq_true_eq]
    rw [if_neg (by simpa using hn2)]
    have h2 : vs.toArray.zipIdx.foldl (fun (cs : Array Value) (x : Value × Nat) => cs.setIfInBounds (0 + x.2) x.1) zl.toArray = vs.toArray := by
      rw [← Array.foldl_toList, Array.toList_zipIdx]
      exact h1
    exact congrArg some h2
  simp only [execOp, Sem.run_bind]
  have hb : (Instr.buildSlice t 1 (#[(0, y)].map fun (x : Nat × Operand) => (x.1, A.eval x.2))).run P w = .ok (.slice (some ⟨w.heap.size, 0, none⟩) 1 1) (w.alloc (.cells vs.toArray e)) := by
    have hp : (#[(0, y)].map fun (x : Nat × Operand) => (x.1, A.eval x.2)) = #[(0, Value.agg vs.toArray)] := by simp [hev]
    rw [hp]
    simp only [Instr.buildSlice, Sem.run_bind, run_underlying ht, run_sizeOf hi, Result.andThen_ok, if_neg hn, if_neg hn0, Sem.run_pure, run_zeroValue hi, hzz, hf]
    simp [newRow, newObj, Sem.run_bind, Sem.run]
  rw [show (#[(0, y)].map fun (x : Nat × Operand) => match x with | (i, x) => (i, A.eval x)) = (#[(0, y)].map fun (x : Nat × Operand) => (x.1, A.eval x.2)) from rfl, hb]
  rfl
theorem OW.pushS {z : Value} (hg1 : wantS ops σ gd1 = some true) (hd1 : Nat.blt d1 n = true) (hg : ∀ u, wantS ops ((d1, u) :: σ) gd = some true) (hd : Nat.blt d n = true) (ht : P.underlying t = some (.slice e)) (hi : TI P e z s bs) (hzs : z.cells.size = s) (hs0 : 0 < s) (hs : s ≤ 16777216)
    {v : Value} {vs : List Value} {l : Nat} {xs : List Value} (hy : ev σ y = some (.agg vs.toArray)) (hl : vs.length = s) (hx : ∀ q, ev ((d1, q) :: σ) x = some v) (hu : vs.all (·.oneCell') = true) (hext : Ext w0 w) (hown : Own w w0.heap.size e s v l xs)
    (h63 : l + 1 ≤ maxLen) (hbytes : (l + 1) * bs ≤ 140737488355328)
    (h : ∀ q v' w', Own w' w0.heap.size e s v' (l + 1) (xs ++ vs) → Ext w0 w' → w.grownBy w' v.ownBlock → OW P R ops rest k n ((d, v') :: (d1, q) :: σ) w') :
    OW P R ops (⟨some d1, .buildSlice t 1 #[(0, y)], ty1, pos1, after1, gd1⟩ :: ⟨some d, .call { callee := .builtin .append, args := #[x, .tmp d1], argTypes := #[t, t] }, ty, pos, after, gd⟩ :: rest) k n σ w := by
  refine OW.val hg1 hd1 (EX.buildSlice1 ht hi hzs hs0 hs hy hl) ?_
  have hx1 : Ext w0 (w.alloc (.cells vs.toArray e)) := hext.trans (Ext.alloc w _)
  have hb := Bk.new w e vs
  refine OW.appendX (hg _) hd ht hi hzs hs0 (hx _) (lk_cons_same _ _ _) hx1 (hown.alloc _) (Src.of_sl ht (Sl.of_bk hb hb.lt) (by omega) (fun u hm => List.all_eq_true.1 hu u hm) hs0) h63 hbytes ?_
  intro v' w' h1 h2 h3 h4
  refine h _ v' w' h1 h2 ⟨h3.os, h3.tape, h3.output, by have := h3.size; simp at this; omega, fun j hj hne => ?_⟩
  rw [h3.block j (by simp; omega) hne]
  exact Below.heap_alloc w _ j hj
end
end Go.Proofs.YtjgeoeeikfjmdaaGreatDoor
/- The engine's laws for slices of structs that are written out. No program is spoken of. -/
namespace Go.Proofs.YtjgeoeeikfjmdaaGreatDoor
set_option linter.unnecessarySimpa false
open Go.RowKit
set_option linter.unusedSimpArgs false
set_option linter.unusedVariables false
theorem flat_get {α : Type} {cells : α → List Value} {c : Nat} (hc : ∀ a, (cells a).length = c) : ∀ (l : List α) (i j : Nat) (hi : i < l.length) (u : Value), (cells l[i])[j]? = some u → (l.flatMap cells)[i * c + j]? = some u
  | a :: l, 0, j, hi, u, hu => by
    have hj : j < (cells a).length := (List.getElem?_eq_some_iff.1 hu).1
    rw [Nat.zero_mul, Nat.zero_add, List.flatMap_cons, List.getElem?_append_left hj]
    exact hu
  | a :: l, i + 1, j, hi, u, hu => by
    rw [List.flatMap_cons, List.getElem?_append_right (by rw [hc, Nat.succ_mul]; omega), hc, show (i + 1) * c + j - c = i * c + j by rw [Nat.succ_mul]; omega]
    exact flat_get hc l i j (by simpa using hi) u hu
/-- a slice's element of some cells -/
theorem Sl.flat {α : Type} {cells : α → List Value} {c : Nat} {w : World} {B : Nat} {A : Option Addr} {l : List α} (h : Sl w B A (l.flatMap cells)) (hc : ∀ a, (cells a).length = c) (h0 : 0 < c) {i : Nat} (hi : i < l.length) :
    ∃ b o, A = some ⟨b, o, none⟩ ∧ b < B ∧ ∀ j u, (cells l[i])[j]? = some u → w.cell? ⟨b, o + i * c + j, none⟩ = some u := by
  have hlt : 0 < (cells l[i]).length := by rw [hc]; exact h0
  have hp : 0 < (l.flatMap cells).length := by
    have := (List.getElem?_eq_some_iff.1 (flat_get hc l i 0 hi _ (List.getElem?_eq_getElem hlt))).1
    omega
  obtain ⟨b, o, e, hb, hcell⟩ := h.at_ hp
  exact ⟨b, o, e, hb, fun j u hu => by rw [Nat.add_assoc]; exact hcell _ _ (flat_get hc l i j hi u hu)⟩
theorem fold_at (off : Nat) : ∀ (vs : List Value) (k : Nat) (pre post : List Value), pre.length = off + k → vs.length ≤ post.length →
    (vs.zipIdx k).foldl (fun (cs : Array Value) (x : Value × Nat) => cs.setIfInBounds (off + x.2) x.1) (pre ++ post).toArray = (pre ++ vs ++ post.drop vs.length).toArray
  | [], k, pre, post, _, _ => by simp
  | v :: vs, k, pre, p :: post, hp, h => by
    have ih := fold_at off vs (k + 1) (pre ++ [v]) post (by simp [hp]; omega) (by simpa using h)
    have hset : (pre ++ p :: post).toArray.setIfInBounds (off + k) v = ((pre ++ [v]) ++ post).toArray := by simp [← hp]
    simp only [List.zipIdx_cons, List.foldl_cons]
    rw [hset, ih]
    simp
  | v :: vs, k, pre, [], hp, h => by simp at h
theorem fill_agg (s : Nat) : ∀ (vss : List (List Value)) (i : Nat) (pre post : List Value), pre.length = i * s → (∀ v ∈ vss, v.length = s) → post.length = vss.length * s →
    Instr.fill (fun i => some (i * s, s)) (pre ++ post).toArray ((vss.zipIdx i).map fun (v, j) => (j, Value.agg v.toArray)) = some (pre ++ vss.flatten).toArray
  | [], i, pre, post, hp, _, hl => by
    have : post = [] := List.eq_nil_of_length_eq_zero (by simpa using hl)
    subst this
    simp [Instr.fill]
  | v :: vss, i, pre, post, hp, h1, hl => by
    have hv := h1 v (by simp)
    have hl' : post.length = vss.length * s + s := by rw [hl, List.length_cons, Nat.succ_mul]
    have ih := fill_agg s vss (i + 1) (pre ++ v) (post.drop s) (by rw [List.length_append, hp, hv, Nat.succ_mul]) (fun u hu => h1 u (by simp [hu])) (by rw [List.length_drop]; omega)
    have hf := fold_at (i * s) v 0 pre post (by omega) (by omega)
    simp only [List.zipIdx_cons, List.map_cons, Instr.fill, Value.cells, List.size_toArray]
    have hn : ¬ (v.length ≠ s ∨ i * s + v.length > (pre ++ post).length) := by rw [List.length_append]; omega
    simp only [ne_eq, Bool.or_eq_true, decide_eq_true_eq]
    rw [if_neg (by simpa using hn)]
    have hz : v.toArray.zipIdx.foldl (fun cs (x : Value × Nat) => cs.setIfInBounds (i * s + x.2) x.1) (pre ++ post).toArray = ((pre ++ v) ++ post.drop s).toArray := by
      rw [← Array.foldl_toList, Array.toList_zipIdx]
      rw [hv] at hf
      exact hf
    rw [hz]
    simpa using ih
section
variable {P : Program} {n : Nat} {σ : Sig} {w w0 : World} {x y : Operand} {t e ty T : TypeId} {s bs : Nat} {R : Act → World → Prop} {ops : Array Oper} {rest : List Oper} {k : List KI} {pos : String} {after : Array Edge} {g : Option (Nat × Bool)} {d fuel : Nat} {S : World → Prop} {listed : Array Bool}
theorem EX.buildSliceG {z : Value} {parts : Array (Nat × Operand)} (len : Nat) (vss : List (List Value)) (ht : P.underlying t = some (.slice e)) (hi : TI P e z s bs) (hzs : z.cells.size = s) (hs0 : 0 < s)
    (hv : evs σ (parts.toList.map (·.2)) = some (vss.map fun v => Value.agg v.toArray)) (hp : parts.toList.map (·.1) = List.range' 0 parts.toList.length) (hl : vss.length = len) (h1 : ∀ v ∈ vss, v.length = s) (hlen : len * s ≤ 16777216) :
    EX P n σ (.buildSlice t len parts) ty w (.slice (some ⟨w.heap.size, 0, none⟩) len len) (w.alloc (.cells vss.flatten.toArray e)) := fun A ha dst pos after g => by
  have hpv : (parts.map fun (p : Nat × Operand) => (p.1, A.eval p.2)).toList = vss.zipIdx.map fun (v, j) => (j, Value.agg v.toArray) := by
    have h2 := ha.evs hv
    apply List.ext_getElem?
    intro j
    have e1 := congrArg (·[j]?) h2
    have e2 := congrArg (·[j]?) hp
    simp only [List.getElem?_map] at e1 e2
    simp only [Array.toList_map, List.getElem?_map, List.getElem?_zipIdx]
    have hlp : parts.toList.length = vss.length := by
      have := congrArg List.length h2
      simpa using this
    by_cases hj : j < vss.length
    · rw [List.getElem?_eq_getElem (by omega : j < parts.toList.length)] at e1 e2 ⊢
      rw [List.getElem?_eq_getElem hj] at e1 ⊢
      simp only [Option.map_some, Option.some.injEq] at e1 e2 ⊢
      rw [List.getElem?_range' (by omega)] at e2
      simp only [Option.some.injEq] at e2
      rw [e1, e2]
      simp
    · rw [List.getElem?_eq_none (by omega : parts.toList.length ≤ j), List.getElem?_eq_none (by omega : vss.length ≤ j)]
      rfl
  have hn : ¬ (len * s > 2 ^ 24) := by omega
  generalize hzz : ((Array.range (len * s)).map fun j => z.cells[j % z.cells.size]!) = zz
  have hzl : zz.size = len * s := by rw [← hzz]; simp
  obtain ⟨zl⟩ := zz
  have hf := fill_agg s vss 0 [] zl (by simp) h1 (by rw [hl]; simpa using hzl)
  simp only [List.nil_append] at hf
  simp only [execOp, Sem.run_bind]
  have hb : (Instr.buildSlice t len (parts.map fun (p : Nat × Operand) => (p.1, A.eval p.2))).run P w = .ok (.slice (some ⟨w.heap.size, 0, none⟩) len len) (w.alloc (.cells vss.flatten.toArray e)) := by
    simp only [Instr.buildSlice, Sem.run_bind, run_underlying ht, run_sizeOf hi, Result.andThen_ok, if_neg hn, hpv, Sem.run_pure]
    by_cases h0 : len * s = 0
    · have hlen0 : len = 0 := by
        rcases Nat.mul_eq_zero.1 h0 with h | h
        · exact h
        · omega
      subst hlen0
      have hv0 : vss = [] := List.eq_nil_of_length_eq_zero hl
      subst hv0
      simp [Instr.fill, newRow, newObj, Sem.run_bind, Sem.run, Array.range_zero']
    · rw [if_neg h0]
      simp only [Sem.run_bind, run_zeroValue hi, Result.andThen_ok, Sem.run_pure, hzz, hf]
      simp [newRow, newObj, Sem.run_bind, Sem.run]
  rw [show (parts.map fun (x : Nat × Operand) => match x with | (i, x) => (i, A.eval x)) = (parts.map fun (x : Nat × Operand) => (x.1, A.eval x.2)) from rfl, hb]
  rfl
theorem OW.buildG {z : Value} {parts : Array (Nat × Operand)} (len : Nat) (vss : List (List Value)) (hg : wantS ops σ g = some true) (hd : Nat.blt d n = true) (ht : P.underlying T = some (.slice e)) (hi : TI P e z s bs) (hzs : z.cells.size = s) (hs0 : 0 < s)
    (hv : evs σ (parts.toList.map (·.2)) = some (vss.map fun v => Value.agg v.toArray)) (hp : parts.toList.map (·.1) = List.range' 0 parts.toList.length) (hl : vss.length = len) (h1 : ∀ v ∈ vss, v.length = s) (hlen : len * s ≤ 16777216)
    (h : ∀ b w', w.heap.size ≤ b → Bk w' b e vss.flatten → Ext w w' → OW P R ops rest k n ((d, .slice (some ⟨b, 0, none⟩) len len) :: σ) w') : OW P R ops (⟨some d, .buildSlice T len parts, ty, pos, after, g⟩ :: rest) k n σ w :=
  OW.val hg hd (EX.buildSliceG len vss ht hi hzs hs0 hv hp hl h1 hlen) (h _ _ (Nat.le_refl _) (Bk.new w e _) (Ext.alloc w _))
theorem GW.buildG (i : Nat) {z : Value} {parts : Array (Nat × Operand)} (len : Nat) (vss : List (List Value)) (hi' : ops[i]? = some ⟨some d, .buildSlice T len parts, ty, pos, after, g⟩) (hr : Region.ready .any ops listed = [i]) (hg : wantS ops σ g = some true) (hd : Nat.blt d n = true) (ht : P.underlying T = some (.slice e)) (hi : TI P e z s bs) (hzs : z.cells.size = s) (hs0 : 0 < s)
    (hv : evs σ (parts.toList.map (·.2)) = some (vss.map fun v => Value.agg v.toArray)) (hp : parts.toList.map (·.1) = List.range' 0 parts.toList.length) (hl : vss.length = len) (h1 : ∀ v ∈ vss, v.length = s) (hlen : len * s ≤ 16777216)
    (h : ∀ b w', w.heap.size ≤ b → Bk w' b e vss.flatten → Ext w w' → S w' ∧ (S w' → GW P R ops S fuel (listed.setIfInBounds i true) k n ((d, .slice (some ⟨b, 0, none⟩) len len) :: σ) w')) : GW P R ops S (fuel + 1) listed k n σ w :=
  GW.new i hi' hr hg hd (EX.buildSliceG len vss ht hi hzs hs0 hv hp hl h1 hlen) (h _ _ (Nat.le_refl _) (Bk.new w e _) (Ext.alloc w _))
theorem GO.buildG (i : Nat) {z : Value} {parts : Array (Nat × Operand)} (len : Nat) (vss : List (List Value)) (hi' : ops[i]? = some ⟨some d, .buildSlice T len parts, ty, pos, after, g⟩) (hg : wantS ops σ g = some true) (hd : Nat.blt d n = true) (ht : P.underlying T = some (.slice e)) (hi : TI P e z s bs) (hzs : z.cells.size = s) (hs0 : 0 < s)
    (hv : evs σ (parts.toList.map (·.2)) = some (vss.map fun v => Value.agg v.toArray)) (hp : parts.toList.map (·.1) = List.range' 0 parts.toList.length) (hl : vss.length = len) (h1 : ∀ v ∈ vss, v.length = s) (hlen : len * s ≤ 16777216)
    (h : ∀ b w', w.heap.size ≤ b → Bk w' b e vss.flatten → Ext w w' → S w' ∧ (S w' → GW P R ops S fuel (listed.setIfInBounds i true) k n ((d, .slice (some ⟨b, 0, none⟩) len len) :: σ) w')) : GO P R ops S fuel listed k n σ w i :=
  GO.new i hi' hg hd (EX.buildSliceG len vss ht hi hzs hs0 hv hp hl h1 hlen) (h _ _ (Nat.le_refl _) (Bk.new w e _) (Ext.alloc w _))
end
section
variable {P : Program} {fn : Func} {Q : Value → World → Prop} {n : Nat} {σ : Sig} {w : World}
theorem retC1 {t : Nat} {T T' : TypeId} {b s bs : Nat} {z : Value} {d : TypeDesc} {l : List Value} (hs : fn.results = #[.cell t T]) (hu : P.underlying T = some d) (hd : flat d = false) (hi : TI P T z s bs) (hv : lk σ t = some (.pointer (some ⟨b, 0, none⟩)))
    (hb : Bk w b T' l) (hl : l.length = s) (hq : Q (.agg l.toArray) w) : ∀ a, Fr n σ a → bodyPost P fn (fun e w' => ∃ v, e = .returned v ∧ Q v w') .ret a w :=
  ret_of (fun a ha => by
    have h := EX.loadBk (P := P) (n := n) (σ := σ) (x := .tmp t) (ty := 0) hu hd hi hv hb hl a ha none "" #[] none
    have h1 : (loadVar T ⟨b, 0, none⟩).run P w = .ok (.agg l.toArray) w := by
      have et : a.eval (.tmp t) = .pointer (some ⟨b, 0, none⟩) := ha.ev (x := .tmp t) hv
      simp only [execOp, et, Instr.loadAt, Instr.sureAddr, Sem.run_bind, Sem.run_pure, Result.andThen_ok] at h
      cases hr : (loadVar T ⟨b, 0, none⟩).run P w with
      | ok v w' => rw [hr] at h; simpa using h
      | halt q w' => rw [hr] at h; simp at h
    have e1 := ha.val t _ hv
    simp only [results, hs]
    simp [Sem.run_bind, e1, asAddr, h1]) hq
end
end Go.Proofs.YtjgeoeeikfjmdaaGreatDoor
/- The engine's laws for what strings.Builder does: a pointer turned to unsafe.Pointer and back, an entry of the model's own, the bytes behind a slice as a text. No program is spoken of. -/
namespace Go.Proofs.YtjgeoeeikfjmdaaGreatDoor
set_option linter.unnecessarySimpa false
open Go.RowKit
set_option linter.unusedSimpArgs false
set_option linter.unusedVariables false
section
variable {P : Program} {n : Nat} {σ : Sig} {w w' : World} {t e ty T src dst : TypeId} {x y : Operand}
theorem Bk.shape {b : Nat} {l : List Value} (h : Bk w b T l) : w.shape? b = some (T, l.length) := by
  obtain ⟨fr, h, _⟩ := h
  simp [World.shape?, h]
theorem EX.toUnsafe {a : Addr} {s cells : Nat} (hs : P.underlying src = some (.pointer t)) (hd : P.underlying dst = some .unsafePointer) (hz : (P.info? t).map (·.size) = some (s + 1)) (hsh : w.shape? a.block = some (e, cells)) (hoff : a.off < cells) (hx : ev σ x = some (.pointer (some a))) :
    EX P n σ (.convert src dst x) ty w (.pointer (some a)) w := fun A ha dd pos after g => by
  obtain ⟨j, hj, hjs⟩ := Option.map_eq_some_iff.1 hz
  simp only [execOp, ha.ev hx, Lib.run_to_unsafe w a hs hd hj (by omega) hsh hoff, Sem.run_bind, Result.andThen_ok]
  rfl
theorem EX.fromUnsafe {a : Addr} {u : TypeId} {cells : Nat} {z : Nat} (hs : P.underlying src = some .unsafePointer) (hd : P.underlying dst = some (.pointer u)) (hz : (P.info? u).map (·.size) = some z) (hsh : w.shape? a.block = some (e, cells)) (hl : liesAt P P.depth e (cells / P.cellsOf e) a.off u 1 = true) (hx : ev σ x = some (.pointer (some a))) :
    EX P n σ (.convert src dst x) ty w (.pointer (some a)) w := fun A ha dd pos after g => by
  obtain ⟨j, hj, hjs⟩ := Option.map_eq_some_iff.1 hz
  simp only [execOp, ha.ev hx, Lib.run_from_unsafe w a hs hd hj hsh hl, Sem.run_bind, Result.andThen_ok]
  rfl
theorem EX.neqSame {a : Addr} {z : Nat} (hu : P.underlying t = some (.pointer e)) (hz : (P.info? e).map (·.size) = some z) (hx : ev σ x = some (.pointer (some a))) (hy : ev σ y = some (.pointer (some a))) : EX P n σ (.binOp .neq t x y T) ty w (.bool false) w := by
  obtain ⟨j, hj, hjs⟩ := Option.map_eq_some_iff.1 hz
  exact EX.bin hx hy (guard_ptr _ _ _) (Lib.run_neq_ptr_same w a hu hj)
theorem EX.extern {f : FuncId} {fn : Func} {xs : List Operand} {vs : List Value} {ats : Array TypeId} {E : Array Value → Sem Value} {v : Value} (hf : P.funcs[f]? = some fn) (hname : (fn.name == "runtime.NumGoroutine") = false) (hb : fn.body.isNone = true) (hn : Extern.findNext fn = none) (he : Extern.find fn = some E)
    (hx : evs σ xs = some vs) (hr : (E vs.toArray).run P w = .ok v w') : EX P n σ (.call { callee := .value (.func f), args := xs.toArray, argTypes := ats }) ty w v w' := fun a ha dd pos after g => by
  rw [execOp_call_go]
  have : #[] ++ xs.toArray.map a.eval ++ #[] = vs.toArray := by simp [ha.evs hx]
  rw [this, run_callFunc_extern hf hname hb hn he, hr]
  rfl
theorem EX.sliceData {a : Addr} {m c : Nat} (hc : c ≠ 0) (hx : ev σ x = some (.slice (some a) m c)) : EX P n σ (.call { callee := .builtin .unsafeSliceData, args := #[x], argTypes := #[t] }) ty w (.pointer (some a)) w := fun A ha dd pos after g => by
  simp only [execOp, resolve, invoke, builtin, Sem.run_bind, Sem.run_pure, Result.andThen_ok, List.map_toArray, List.map_cons, List.map_nil, ha.ev hx, Lib.run_unsafeSliceData_row w _ _ a m c hc]
theorem EX.sliceDataN {m c : Nat} (hx : ev σ x = some (.slice none m c)) : EX P n σ (.call { callee := .builtin .unsafeSliceData, args := #[x], argTypes := #[t] }) ty w (.pointer none) w := fun A ha dd pos after g => by
  simp only [execOp, resolve, invoke, builtin, Sem.run_bind, Sem.run_pure, Result.andThen_ok, List.map_toArray, List.map_cons, List.map_nil, ha.ev hx, Lib.run_unsafeSliceData_nil w _ _ m c]
theorem EX.unsafeStr {g : Nat} {l : List UInt8} {rest : List Value} {t' : TypeId} (hp : P.underlying t = some (.pointer e)) (hc : P.cellsOf e = 1) (hb : Bk w g e (bytesV l ++ rest)) (h0 : l ≠ []) (h63 : l.length ≤ 9223372036854775807)
    (hx : ev σ x = some (.pointer (some ⟨g, 0, none⟩))) (hy : ev σ y = some (.int .i64 (l.length : Int))) : EX P n σ (.call { callee := .builtin .unsafeString, args := #[x, y], argTypes := #[t, t'] }) ty w (str l) (w.freeze ⟨g, 0, none⟩ l.length) := fun A ha dd pos after gd => by
  have h := Lib.run_unsafeString_row (P := P) w t t' ty e hp hc g (bytesV l ++ rest).length hb.shape l h0 (by simp [bytesV]) h63 (by
    intro j u hj
    have : (bytesV l ++ rest)[j]? = some (.int .u8 (u.toNat : Int)) := by
      rw [List.getElem?_append_left (by simp [bytesV]; exact (List.getElem?_eq_some_iff.1 hj).1)]
      simp [bytesV, hj]
    have h2 := hb.cell_of this
    rw [show (⟨g, 0, none⟩ : Addr).add j = ⟨g, j, none⟩ by unfold Addr.add; split <;> simp_all]
    exact h2)
  simp only [execOp, resolve, invoke, builtin, Sem.run_bind, Sem.run_pure, Result.andThen_ok, List.map_toArray, List.map_cons, List.map_nil, ha.ev hx, ha.ev hy, h]
theorem EX.unsafeStrN {t' : TypeId} {p : Option Addr} (hx : ev σ x = some (.pointer p)) (hy : ev σ y = some (.int .i64 ((0 : Nat) : Int))) : EX P n σ (.call { callee := .builtin .unsafeString, args := #[x, y], argTypes := #[t, t'] }) ty w (str []) w := fun A ha dd pos after gd => by
  have h := Lib.run_unsafeString_none (P := P) w t t' ty p
  have e0 : (((0 : Nat) : Int)) = 0 := rfl
  simp only [execOp, resolve, invoke, builtin, Sem.run_bind, Sem.run_pure, Result.andThen_ok, List.map_toArray, List.map_cons, List.map_nil, ha.ev hx, ha.ev hy, e0, h]
  rfl
end
end Go.Proofs.YtjgeoeeikfjmdaaGreatDoor
/- Of each type of this seat's program: its zero value, how many cells, how many bytes. -/
namespace Go.Proofs.YtjgeoeeikfjmdaaGreatDoor
set_option linter.unnecessarySimpa false
set_option linter.unusedVariables false
set_option linter.unusedSimpArgs false
theorem ti0 : TI Tryz.prog 0 (.tuple #[]) 1 0 := by unfold TI; kernel_rfl
theorem ti1 : TI Tryz.prog 1 (.nilFunc) 1 8 := by unfold TI; kernel_rfl
theorem ti2 : TI Tryz.prog 2 (.int .i64 0) 1 8 := by unfold TI; kernel_rfl
theorem ti3 : TI Tryz.prog 3 (.int .i64 0) 1 8 := by unfold TI; kernel_rfl
theorem ti4 : TI Tryz.prog 4 (.bool false) 1 1 := by unfold TI; kernel_rfl
theorem ti5 : TI Tryz.prog 5 (.int .u8 0) 1 1 := by unfold TI; kernel_rfl
theorem ti6 : TI Tryz.prog 6 (.int .u8 0) 1 1 := by unfold TI; kernel_rfl
theorem ti7 : TI Tryz.prog 7 (.agg #[.int .i64 0, .int .i64 0, .bool false, .int .u8 0]) 4 24 := by unfold TI; kernel_rfl
theorem ti8 : TI Tryz.prog 8 (.agg #[.int .i64 0, .int .i64 0, .bool false, .int .u8 0]) 4 24 := by unfold TI; kernel_rfl
theorem ti9 : TI Tryz.prog 9 (str []) 1 16 := by unfold TI; kernel_rfl
theorem ti10 : TI Tryz.prog 10 (str []) 1 16 := by unfold TI; kernel_rfl
theorem ti11 : TI Tryz.prog 11 (str []) 1 16 := by unfold TI; kernel_rfl
theorem ti12 : TI Tryz.prog 12 (.int .u64 0) 1 8 := by unfold TI; kernel_rfl
theorem ti13 : TI Tryz.prog 13 (.agg #[str [], .int .u64 0]) 2 24 := by unfold TI; kernel_rfl
theorem ti14 : TI Tryz.prog 14 (.agg #[str [], .int .u64 0]) 2 24 := by unfold TI; kernel_rfl
theorem ti15 : TI Tryz.prog 15 (.pointer none) 1 8 := by unfold TI; kernel_rfl
theorem ti16 : TI Tryz.prog 16 (.pointer none) 1 8 := by unfold TI; kernel_rfl
theorem ti17 : TI Tryz.prog 17 (.pointer none) 1 8 := by unfold TI; kernel_rfl
theorem ti18 : TI Tryz.prog 18 (.agg #[.pointer none]) 1 8 := by unfold TI; kernel_rfl
theorem ti19 : TI Tryz.prog 19 (.agg #[.pointer none]) 1 8 := by unfold TI; kernel_rfl
theorem ti20 : TI Tryz.prog 20 (.nilIface) 1 16 := by unfold TI; kernel_rfl
theorem ti21 : TI Tryz.prog 21 (.int .i32 0) 1 4 := by unfold TI; kernel_rfl
theorem ti22 : TI Tryz.prog 22 (.agg #[str [], str []]) 2 32 := by unfold TI; kernel_rfl
theorem ti23 : TI Tryz.prog 23 (.agg #[str [], str []]) 2 32 := by unfold TI; kernel_rfl
theorem ti24 : TI Tryz.prog 24 (.nilFunc) 1 8 := by unfold TI; kernel_rfl
theorem ti25 : TI Tryz.prog 25 (.int .i64 0) 1 8 := by unfold TI; kernel_rfl
theorem ti26 : TI Tryz.prog 26 (.tuple #[str [], .int .i64 0]) 1 0 := by unfold TI; kernel_rfl
theorem ti27 : TI Tryz.prog 27 (.nilFunc) 1 8 := by unfold TI; kernel_rfl
theorem ti28 : TI Tryz.prog 28 (.tuple #[str [], .int .i64 0]) 1 0 := by unfold TI; kernel_rfl
theorem ti29 : TI Tryz.prog 29 (.nilFunc) 1 8 := by unfold TI; kernel_rfl
theorem ti30 : TI Tryz.prog 30 (.nilFunc) 1 8 := by unfold TI; kernel_rfl
theorem ti31 : TI Tryz.prog 31 (.slice none 0 0) 1 24 := by unfold TI; kernel_rfl
theorem ti32 : TI Tryz.prog 32 (.nilFunc) 1 8 := by unfold TI; kernel_rfl
theorem ti33 : TI Tryz.prog 33 (.nilFunc) 1 8 := by unfold TI; kernel_rfl
theorem ti34 : TI Tryz.prog 34 (.nilFunc) 1 8 := by unfold TI; kernel_rfl
theorem ti35 : TI Tryz.prog 35 (.tuple #[.slice none 0 0, .int .i64 0]) 1 0 := by unfold TI; kernel_rfl
theorem ti36 : TI Tryz.prog 36 (.nilFunc) 1 8 := by unfold TI; kernel_rfl
theorem ti37 : TI Tryz.prog 37 (.tuple #[.slice none 0 0, .int .i64 0]) 1 0 := by unfold TI; kernel_rfl
theorem ti38 : TI Tryz.prog 38 (.nilFunc) 1 8 := by unfold TI; kernel_rfl
theorem ti39 : TI Tryz.prog 39 (.nilFunc) 1 8 := by unfold TI; kernel_rfl
theorem ti40 : TI Tryz.prog 40 (.nilFunc) 1 8 := by unfold TI; kernel_rfl
theorem ti41 : TI Tryz.prog 41 (.nilFunc) 1 8 := by unfold TI; kernel_rfl
theorem ti42 : TI Tryz.prog 42 (.nilFunc) 1 8 := by unfold TI; kernel_rfl
theorem ti43 : TI Tryz.prog 43 (.nilFunc) 1 8 := by unfold TI; kernel_rfl
theorem ti44 : TI Tryz.prog 44 (.tuple #[str [], str [], .bool false]) 1 0 := by unfold TI; kernel_rfl
theorem ti45 : TI Tryz.prog 45 (.nilFunc) 1 8 := by unfold TI; kernel_rfl
theorem ti46 : TI Tryz.prog 46 (.nilFunc) 1 8 := by unfold TI; kernel_rfl
theorem ti47 : TI Tryz.prog 47 (.nilFunc) 1 8 := by unfold TI; kernel_rfl
theorem ti48 : TI Tryz.prog 48 (.agg #[str [], str []]) 2 32 := by unfold TI; kernel_rfl
theorem ti49 : TI Tryz.prog 49 (.agg #[str [], str []]) 2 32 := by unfold TI; kernel_rfl
theorem ti50 : TI Tryz.prog 50 (.slice none 0 0) 1 24 := by unfold TI; kernel_rfl
theorem ti51 : TI Tryz.prog 51 (.nilFunc) 1 8 := by unfold TI; kernel_rfl
theorem ti52 : TI Tryz.prog 52 (.nilFunc) 1 8 := by unfold TI; kernel_rfl
theorem ti53 : TI Tryz.prog 53 (.nilFunc) 1 8 := by unfold TI; kernel_rfl
theorem ti54 : TI Tryz.prog 54 (.pointer none) 1 8 := by unfold TI; kernel_rfl
theorem ti55 : TI Tryz.prog 55 (.slice none 0 0) 1 24 := by unfold TI; kernel_rfl
theorem ti56 : TI Tryz.prog 56 (.agg #[.pointer none, .slice none 0 0]) 2 32 := by unfold TI; kernel_rfl
theorem ti57 : TI Tryz.prog 57 (.agg #[.pointer none, .slice none 0 0]) 2 32 := by unfold TI; kernel_rfl
theorem ti58 : TI Tryz.prog 58 (.nilIface) 1 16 := by unfold TI; kernel_rfl
theorem ti59 : TI Tryz.prog 59 (.nilIface) 1 16 := by unfold TI; kernel_rfl
theorem ti60 : TI Tryz.prog 60 (.tuple #[.int .i64 0, .nilIface]) 1 0 := by unfold TI; kernel_rfl
theorem ti61 : TI Tryz.prog 61 (.nilFunc) 1 8 := by unfold TI; kernel_rfl
theorem ti62 : TI Tryz.prog 62 (.nilFunc) 1 8 := by unfold TI; kernel_rfl
theorem ti63 : TI Tryz.prog 63 (.nilFunc) 1 8 := by unfold TI; kernel_rfl
theorem ti64 : TI Tryz.prog 64 (.nilFunc) 1 8 := by unfold TI; kernel_rfl
theorem ti65 : TI Tryz.prog 65 (.nilFunc) 1 8 := by unfold TI; kernel_rfl
theorem ti66 : TI Tryz.prog 66 (.nilFunc) 1 8 := by unfold TI; kernel_rfl
theorem ti67 : TI Tryz.prog 67 (.nilFunc) 1 8 := by unfold TI; kernel_rfl
theorem ti68 : TI Tryz.prog 68 (.nilFunc) 1 8 := by unfold TI; kernel_rfl
theorem ti69 : TI Tryz.prog 69 (.agg #[str [], str []]) 2 32 := by unfold TI; kernel_rfl
theorem ti70 : TI Tryz.prog 70 (.agg #[.int .i64 0, .int .i64 0]) 2 16 := by unfold TI; kernel_rfl
theorem ti71 : TI Tryz.prog 71 (.agg #[str [], .int .i64 0, .int .u8 0, .int .i64 0, .int .i64 0, str [], str [], str [], .int .i64 0, .int .i64 0]) 10 112 := by unfold TI; kernel_rfl
theorem ti72 : TI Tryz.prog 72 (.agg #[str [], .int .i64 0, .int .u8 0, .int .i64 0, .int .i64 0, str [], str [], str [], .int .i64 0, .int .i64 0]) 10 112 := by unfold TI; kernel_rfl
theorem ti73 : TI Tryz.prog 73 (.tuple #[.agg #[str [], .int .i64 0, .int .u8 0, .int .i64 0, .int .i64 0, str [], str [], str [], .int .i64 0, .int .i64 0], .bool false]) 1 0 := by unfold TI; kernel_rfl
theorem ti74 : TI Tryz.prog 74 (.nilFunc) 1 8 := by unfold TI; kernel_rfl
theorem ti75 : TI Tryz.prog 75 (.nilFunc) 1 8 := by unfold TI; kernel_rfl
theorem ti76 : TI Tryz.prog 76 (.tuple #[.agg #[str [], str []], .int .i64 0, .int .i64 0]) 1 0 := by unfold TI; kernel_rfl
theorem ti77 : TI Tryz.prog 77 (.nilFunc) 1 8 := by unfold TI; kernel_rfl
theorem ti78 : TI Tryz.prog 78 (.map none) 1 8 := by unfold TI; kernel_rfl
theorem ti79 : TI Tryz.prog 79 (.nilFunc) 1 8 := by unfold TI; kernel_rfl
theorem ti80 : TI Tryz.prog 80 (.nilFunc) 1 8 := by unfold TI; kernel_rfl
theorem ti81 : TI Tryz.prog 81 (.slice none 0 0) 1 24 := by unfold TI; kernel_rfl
theorem ti82 : TI Tryz.prog 82 (.nilFunc) 1 8 := by unfold TI; kernel_rfl
theorem ti83 : TI Tryz.prog 83 (.nilFunc) 1 8 := by unfold TI; kernel_rfl
theorem ti84 : TI Tryz.prog 84 (.nilFunc) 1 8 := by unfold TI; kernel_rfl
theorem ti85 : TI Tryz.prog 85 (.nilFunc) 1 8 := by unfold TI; kernel_rfl
theorem ti86 : TI Tryz.prog 86 (.nilFunc) 1 8 := by unfold TI; kernel_rfl
theorem ti87 : TI Tryz.prog 87 (.nilFunc) 1 8 := by unfold TI; kernel_rfl
theorem ti88 : TI Tryz.prog 88 (.nilFunc) 1 8 := by unfold TI; kernel_rfl
theorem ti89 : TI Tryz.prog 89 (.nilFunc) 1 8 := by unfold TI; kernel_rfl
theorem ti90 : TI Tryz.prog 90 (.nilFunc) 1 8 := by unfold TI; kernel_rfl
theorem ti91 : TI Tryz.prog 91 (.nilFunc) 1 8 := by unfold TI; kernel_rfl
theorem ti92 : TI Tryz.prog 92 (.pointer none) 1 8 := by unfold TI; kernel_rfl
theorem ti93 : TI Tryz.prog 93 (.nilFunc) 1 8 := by unfold TI; kernel_rfl
theorem ti94 : TI Tryz.prog 94 (.tuple #[.agg #[str [], .int .i64 0, .int .u8 0, .int .i64 0, .int .i64 0, str [], str [], str [], .int .i64 0, .int .i64 0], .int .i64 0]) 1 0 := by unfold TI; kernel_rfl
theorem ti95 : TI Tryz.prog 95 (.nilFunc) 1 8 := by unfold TI; kernel_rfl
theorem ti96 : TI Tryz.prog 96 (.tuple #[str [], .int .i64 0, .bool false]) 1 0 := by unfold TI; kernel_rfl
theorem ti97 : TI Tryz.prog 97 (.nilFunc) 1 8 := by unfold TI; kernel_rfl
theorem ti98 : TI Tryz.prog 98 (.tuple #[.agg #[str [], str []], .int .i64 0, .int .i64 0]) 1 0 := by unfold TI; kernel_rfl
theorem ti99 : TI Tryz.prog 99 (.nilFunc) 1 8 := by unfold TI; kernel_rfl
theorem ti100 : TI Tryz.prog 100 (.tuple #[.agg #[str [], .int .i64 0, .int .u8 0, .int .i64 0, .int .i64 0, str [], str [], str [], .int .i64 0, .int .i64 0], .int .i64 0]) 1 0 := by unfold TI; kernel_rfl
theorem ti101 : TI Tryz.prog 101 (.nilFunc) 1 8 := by unfold TI; kernel_rfl
theorem ti102 : TI Tryz.prog 102 (.tuple #[.slice none 0 0, .int .i64 0]) 1 0 := by unfold TI; kernel_rfl
theorem ti103 : TI Tryz.prog 103 (.nilFunc) 1 8 := by unfold TI; kernel_rfl
theorem ti104 : TI Tryz.prog 104 (.tuple #[str [], .bool false]) 1 0 := by unfold TI; kernel_rfl
theorem ti105 : TI Tryz.prog 105 (.nilFunc) 1 8 := by unfold TI; kernel_rfl
theorem ti106 : TI Tryz.prog 106 (.tuple #[.int .i64 0, .int .i64 0]) 1 0 := by unfold TI; kernel_rfl
theorem ti107 : TI Tryz.prog 107 (.nilFunc) 1 8 := by unfold TI; kernel_rfl
theorem ti108 : TI Tryz.prog 108 (.nilFunc) 1 8 := by unfold TI; kernel_rfl
theorem ti109 : TI Tryz.prog 109 (.nilFunc) 1 8 := by unfold TI; kernel_rfl
theorem ti110 : TI Tryz.prog 110 (.int .u64 0) 1 8 := by unfold TI; kernel_rfl
theorem ti111 : TI Tryz.prog 111 (.nilFunc) 1 8 := by unfold TI; kernel_rfl
theorem ti112 : TI Tryz.prog 112 (.nilFunc) 1 8 := by unfold TI; kernel_rfl
theorem ti113 : TI Tryz.prog 113 (.nilFunc) 1 8 := by unfold TI; kernel_rfl
theorem ti114 : TI Tryz.prog 114 (.nilFunc) 1 8 := by unfold TI; kernel_rfl
theorem ti115 : TI Tryz.prog 115 (.nilFunc) 1 8 := by unfold TI; kernel_rfl
theorem ti116 : TI Tryz.prog 116 (.agg #[str [], .int .i64 0]) 2 24 := by unfold TI; kernel_rfl
theorem ti117 : TI Tryz.prog 117 (.agg #[str [], .int .i64 0]) 2 24 := by unfold TI; kernel_rfl
theorem ti118 : TI Tryz.prog 118 (.nilFunc) 1 8 := by unfold TI; kernel_rfl
theorem ti119 : TI Tryz.prog 119 (.nilFunc) 1 8 := by unfold TI; kernel_rfl
theorem ti120 : TI Tryz.prog 120 (.tuple #[.int .i64 0, .int .i64 0]) 1 0 := by unfold TI; kernel_rfl
theorem ti121 : TI Tryz.prog 121 (.nilFunc) 1 8 := by unfold TI; kernel_rfl
theorem ti122 : TI Tryz.prog 122 (.nilFunc) 1 8 := by unfold TI; kernel_rfl
theorem ti123 : TI Tryz.prog 123 (.nilFunc) 1 8 := by unfold TI; kernel_rfl
theorem ti124 : TI Tryz.prog 124 (.nilFunc) 1 8 := by unfold TI; kernel_rfl
theorem ti125 : TI Tryz.prog 125 (.nilFunc) 1 8 := by unfold TI; kernel_rfl
theorem ti126 : TI Tryz.prog 126 (.pointer none) 1 8 := by unfold TI; kernel_rfl
theorem ti127 : TI Tryz.prog 127 (.nilFunc) 1 8 := by unfold TI; kernel_rfl
theorem ti128 : TI Tryz.prog 128 (.tuple #[.slice none 0 0, .int .i64 0]) 1 0 := by unfold TI; kernel_rfl
theorem ti129 : TI Tryz.prog 129 (.nilFunc) 1 8 := by unfold TI; kernel_rfl
theorem ti130 : TI Tryz.prog 130 (.slice none 0 0) 1 24 := by unfold TI; kernel_rfl
theorem ti131 : TI Tryz.prog 131 (.nilFunc) 1 8 := by unfold TI; kernel_rfl
theorem ti132 : TI Tryz.prog 132 (.int .i64 0) 1 8 := by unfold TI; kernel_rfl
theorem ti133 : TI Tryz.prog 133 (.tuple #[.int .i64 0, .int .i64 0]) 1 0 := by unfold TI; kernel_rfl
theorem ti134 : TI Tryz.prog 134 (.nilFunc) 1 8 := by unfold TI; kernel_rfl
theorem ti135 : TI Tryz.prog 135 (.nilFunc) 1 8 := by unfold TI; kernel_rfl
theorem ti136 : TI Tryz.prog 136 (.nilFunc) 1 8 := by unfold TI; kernel_rfl
theorem ti137 : TI Tryz.prog 137 (.tuple #[.int .i64 0, .bool false]) 1 0 := by unfold TI; kernel_rfl
theorem ti138 : TI Tryz.prog 138 (.nilFunc) 1 8 := by unfold TI; kernel_rfl
theorem ti139 : TI Tryz.prog 139 (.nilFunc) 1 8 := by unfold TI; kernel_rfl
theorem ti140 : TI Tryz.prog 140 (.int .u32 0) 1 4 := by unfold TI; kernel_rfl
theorem ti141 : TI Tryz.prog 141 (.nilFunc) 1 8 := by unfold TI; kernel_rfl
theorem ti142 : TI Tryz.prog 142 (.int .u64 0) 1 8 := by unfold TI; kernel_rfl
theorem ti143 : TI Tryz.prog 143 (.nilFunc) 1 8 := by unfold TI; kernel_rfl
theorem ti144 : TI Tryz.prog 144 (.nilFunc) 1 8 := by unfold TI; kernel_rfl
theorem ti145 : TI Tryz.prog 145 (.slice none 0 0) 1 24 := by unfold TI; kernel_rfl
theorem ti146 : TI Tryz.prog 146 (.nilFunc) 1 8 := by unfold TI; kernel_rfl
theorem ti147 : TI Tryz.prog 147 (.nilFunc) 1 8 := by unfold TI; kernel_rfl
theorem ti148 : TI Tryz.prog 148 (.nilFunc) 1 8 := by unfold TI; kernel_rfl
theorem ti149 : TI Tryz.prog 149 (.pointer none) 1 8 := by unfold TI; kernel_rfl
theorem ti150 : TI Tryz.prog 150 (.agg #[str [], .bool false]) 2 24 := by unfold TI; kernel_rfl
theorem ti151 : TI Tryz.prog 151 (.agg #[str [], .bool false]) 2 24 := by unfold TI; kernel_rfl
theorem ti152 : TI Tryz.prog 152 (.nilFunc) 1 8 := by unfold TI; kernel_rfl
theorem ti153 : TI Tryz.prog 153 (.tuple #[.agg #[str [], str []], .bool false]) 1 0 := by unfold TI; kernel_rfl
theorem ti154 : TI Tryz.prog 154 (.nilFunc) 1 8 := by unfold TI; kernel_rfl
theorem ti155 : TI Tryz.prog 155 (.nilFunc) 1 8 := by unfold TI; kernel_rfl
theorem ti156 : TI Tryz.prog 156 (.nilFunc) 1 8 := by unfold TI; kernel_rfl
theorem ti157 : TI Tryz.prog 157 (.int .u64 0) 1 8 := by unfold TI; kernel_rfl
theorem ti158 : TI Tryz.prog 158 (.nilFunc) 1 8 := by unfold TI; kernel_rfl
theorem ti159 : TI Tryz.prog 159 (.nilFunc) 1 8 := by unfold TI; kernel_rfl
theorem ti160 : TI Tryz.prog 160 (.nilFunc) 1 8 := by unfold TI; kernel_rfl
theorem ti161 : TI Tryz.prog 161 (.pointer none) 1 8 := by unfold TI; kernel_rfl
theorem ti162 : TI Tryz.prog 162 (.nilFunc) 1 8 := by unfold TI; kernel_rfl
theorem ti163 : TI Tryz.prog 163 (.nilFunc) 1 8 := by unfold TI; kernel_rfl
theorem ti164 : TI Tryz.prog 164 (.nilFunc) 1 8 := by unfold TI; kernel_rfl
theorem ti165 : TI Tryz.prog 165 (.pointer none) 1 8 := by unfold TI; kernel_rfl
theorem ti166 : TI Tryz.prog 166 (.nilFunc) 1 8 := by unfold TI; kernel_rfl
theorem ti167 : TI Tryz.prog 167 (.tuple #[.int .i32 0, .int .i64 0]) 1 0 := by unfold TI; kernel_rfl
theorem ti168 : TI Tryz.prog 168 (.nilFunc) 1 8 := by unfold TI; kernel_rfl
theorem ti169 : TI Tryz.prog 169 (.nilFunc) 1 8 := by unfold TI; kernel_rfl
theorem ti170 : TI Tryz.prog 170 (.tuple #[.int .u32 0, .int .u32 0]) 1 0 := by unfold TI; kernel_rfl
theorem ti171 : TI Tryz.prog 171 (.nilFunc) 1 8 := by unfold TI; kernel_rfl
theorem ti172 : TI Tryz.prog 172 (.agg #[.int .u8 0, .int .u8 0, .int .u8 0, .int .u8 0, .int .u8 0, .int .u8 0, .int .u8 0, .int .u8 0, .int .u8 0, .int .u8 0, .int .u8 0, .int .u8 0, .int .u8 0, .int .u8 0, .int .u8 0, .int .u8 0, .int .u8 0, .int .u8 0, .int .u8 0, .int .u8 0, .int .u8 0, .int .u8 0, .int .u8 0, .int .u8 0]) 24 24 := by unfold TI; kernel_rfl
theorem ti173 : TI Tryz.prog 173 (.nilFunc) 1 8 := by unfold TI; kernel_rfl
theorem ti174 : TI Tryz.prog 174 (.tuple #[.slice none 0 0, str []]) 1 0 := by unfold TI; kernel_rfl
theorem ti175 : TI Tryz.prog 175 (.nilFunc) 1 8 := by unfold TI; kernel_rfl
theorem ti176 : TI Tryz.prog 176 (.nilFunc) 1 8 := by unfold TI; kernel_rfl
theorem ti177 : TI Tryz.prog 177 (.nilFunc) 1 8 := by unfold TI; kernel_rfl
theorem ti178 : TI Tryz.prog 178 (.nilFunc) 1 8 := by unfold TI; kernel_rfl
theorem ti179 : TI Tryz.prog 179 (.agg #[.int .u64 0, .int .u64 0, .int .u64 0, .int .u64 0, .int .u64 0, .int .u64 0, .int .u64 0, .int .u64 0, .int .u64 0, .int .u64 0, .int .u64 0, .int .u64 0, .int .u64 0, .int .u64 0, .int .u64 0, .int .u64 0, .int .u64 0, .int .u64 0, .int .u64 0, .int .u64 0]) 20 160 := by unfold TI; kernel_rfl
theorem ti181 : TI Tryz.prog 181 (.nilFunc) 1 8 := by unfold TI; kernel_rfl
theorem ti183 : TI Tryz.prog 183 (.agg #[.int .u8 0, .int .u8 0]) 2 2 := by unfold TI; kernel_rfl
theorem ti184 : TI Tryz.prog 184 (.agg #[.int .u8 0, .int .u8 0]) 2 2 := by unfold TI; kernel_rfl
theorem ti185 : TI Tryz.prog 185 (.agg #[.int .u8 0, .int .u8 0, .int .u8 0, .int .u8 0, .int .u8 0, .int .u8 0, .int .u8 0, .int .u8 0, .int .u8 0, .int .u8 0, .int .u8 0, .int .u8 0, .int .u8 0, .int .u8 0, .int .u8 0, .int .u8 0, .int .u8 0, .int .u8 0, .int .u8 0, .int .u8 0, .int .u8 0, .int .u8 0, .int .u8 0, .int .u8 0, .int .u8 0, .int .u8 0, .int .u8 0, .int .u8 0, .int .u8 0, .int .u8 0, .int .u8 0, .int .u8 0]) 32 32 := by unfold TI; kernel_rfl
theorem ti186 : TI Tryz.prog 186 (.agg #[.int .u8 0, .int .u8 0, .int .u8 0, .int .u8 0, .int .u8 0, .int .u8 0, .int .u8 0, .int .u8 0, .int .u8 0, .int .u8 0, .int .u8 0, .int .u8 0, .int .u8 0, .int .u8 0, .int .u8 0, .int .u8 0, .int .u8 0, .int .u8 0, .int .u8 0, .int .u8 0, .int .u8 0, .int .u8 0, .int .u8 0, .int .u8 0, .int .u8 0, .int .u8 0, .int .u8 0, .int .u8 0, .int .u8 0, .int .u8 0, .int .u8 0, .int .u8 0]) 32 32 := by unfold TI; kernel_rfl
theorem ti188 : TI Tryz.prog 188 (.agg #[.pointer none, .pointer none, .pointer none, str []]) 4 40 := by unfold TI; kernel_rfl
theorem ti189 : TI Tryz.prog 189 (.agg #[.pointer none, .pointer none, .pointer none, str []]) 4 40 := by unfold TI; kernel_rfl
theorem ti190 : TI Tryz.prog 190 (.agg #[]) 0 0 := by unfold TI; kernel_rfl
theorem ti191 : TI Tryz.prog 191 (.agg #[]) 0 0 := by unfold TI; kernel_rfl
theorem ti192 : TI Tryz.prog 192 (.agg #[]) 0 0 := by unfold TI; kernel_rfl
theorem ti193 : TI Tryz.prog 193 (.int .u8 0) 1 1 := by unfold TI; kernel_rfl
theorem ti194 : TI Tryz.prog 194 (.int .u8 0) 1 1 := by unfold TI; kernel_rfl
theorem ti195 : TI Tryz.prog 195 (.nilFunc) 1 8 := by unfold TI; kernel_rfl
theorem ti196 : TI Tryz.prog 196 (.int .i32 0) 1 4 := by unfold TI; kernel_rfl
theorem ti197 : TI Tryz.prog 197 (.int .i32 0) 1 4 := by unfold TI; kernel_rfl
theorem ti198 : TI Tryz.prog 198 (.agg #[.int .u64 0, .int .u64 0, .int .u32 0, .int .u8 0, .int .u8 0, .int .u8 0, .int .u8 0, .nilFunc, .pointer none, .int .i32 0, .int .i32 0]) 11 48 := by unfold TI; kernel_rfl
theorem ti199 : TI Tryz.prog 199 (.agg #[.int .u64 0, .int .u64 0, .int .u32 0, .int .u8 0, .int .u8 0, .int .u8 0, .int .u8 0, .nilFunc, .pointer none, .int .i32 0, .int .i32 0]) 11 48 := by unfold TI; kernel_rfl
end Go.Proofs.YtjgeoeeikfjmdaaGreatDoor
/- strings.Builder: texts are written one behind the other, and told as one. -/
namespace Go.Proofs.YtjgeoeeikfjmdaaGreatDoor
set_option linter.unnecessarySimpa false
open Go.RowKit
set_option linter.unusedVariables false
set_option linter.unusedSimpArgs false

/-- a builder that a call made -/
def Bd (w : World) (B b : Nat) (l : List UInt8) : Prop :=
  B ≤ b ∧ ∃ p v, (p = .pointer none ∨ p = .pointer (some ⟨b, 0, none⟩)) ∧ Bk w b 57 [p, v] ∧ (l = [] → v = .slice none 0 0) ∧ Own w B 5 1 v l.length (bytesV l)
theorem Bd.new {w : World} {B b : Nat} (hB : B ≤ b) (h : Bk w b 57 [.pointer none, .slice none 0 0]) : Bd w B b [] := ⟨hB, _, _, .inl rfl, h, fun _ => rfl, Own.nil _ _ _ _⟩
theorem Bd.ext {w w' : World} {B b : Nat} {l : List UInt8} (h : Bd w B b l) (hx : Ext w w') : Bd w' B b l := by
  obtain ⟨h1, p, v, h2, h3, h4, h5⟩ := h
  exact ⟨h1, p, v, h2, h3.ext hx, h4, h5.ext hx⟩
set_option maxRecDepth 20000 in
theorem copyCheck_b (b : Nat) (p v : Value) (w : World) (hp : p = .pointer none ∨ p = .pointer (some ⟨b, 0, none⟩)) (hb : Bk w b 57 [p, v]) :
    Ret Tryz.prog 53 [.pointer (some ⟨b, 0, none⟩)] w fun r w' => r = .tuple #[] ∧ Bk w' b 57 [.pointer (some ⟨b, 0, none⟩), v] ∧ Mo w w' [b] := by
  refine Ret.enter Tryz.func53 rfl Tryz.ntmps53 (by kernel_rfl) rfl ?_
  refine KW.seq (KW.region ?_)
  refine OW.val rfl rfl (EX.move rfl) ?_
  refine OW.val rfl rfl (EX.nilCheck rfl) ?_
  refine OW.val rfl rfl (EX.fieldAddr (off := 0) Tryz.underlying57 rfl rfl ti54 rfl rfl) ?_
  refine OW.val rfl rfl (EX.load Tryz.underlying54 rfl rfl (hb.cell_of rfl)) ?_
  rcases hp with rfl | rfl
  · refine OW.val rfl rfl (EX.eqlP0 Tryz.underlying54 rfl rfl) ?_
    refine OW.nil ?_
    refine KW.condT rfl (KW.region ?_)
    refine OW.val rfl rfl (EX.move rfl) ?_
    refine OW.val rfl rfl (EX.move rfl) ?_
    refine OW.val rfl rfl (EX.toUnsafe (s := 1) Tryz.underlying54 Tryz.underlying126 (by kernel_rfl) hb.shape (Nat.zero_lt_succ _) rfl) ?_
    refine OW.val rfl rfl (EX.extern Tryz.func83 (by kernel_rfl) (by kernel_rfl) (by kernel_rfl) (E := Extern.AbiNoEscape.same) (by kernel_rfl) rfl (Lib.run_noEscape _ _)) ?_
    refine OW.val rfl rfl (EX.fromUnsafe (z := 2) Tryz.underlying126 Tryz.underlying54 (by kernel_rfl) hb.shape (by kernel_rfl) rfl) ?_
    refine OW.val rfl rfl (EX.nilCheck rfl) ?_
    refine OW.val rfl rfl (EX.fieldAddr (off := 0) Tryz.underlying57 rfl rfl ti54 rfl rfl) ?_
    refine OW.storeB rfl ti54 rfl rfl (by first | rfl | assumption | exact Own.one (by assumption)) (hb) (by simp) ?_
    rintro w2 hb2 hm2
    refine OW.nil ?_
    refine KW.done (ret0 rfl ?_)
    exact ⟨rfl, hb2, hm2⟩
  · refine OW.val rfl rfl (EX.eqlP1 Tryz.underlying54 rfl rfl) ?_
    refine OW.nil ?_
    refine KW.condF rfl (KW.seq (KW.region ?_))
    refine OW.val rfl rfl (EX.move rfl) ?_
    refine OW.val rfl rfl (EX.nilCheck rfl) ?_
    refine OW.val rfl rfl (EX.fieldAddr (off := 0) Tryz.underlying57 rfl rfl ti54 rfl rfl) ?_
    refine OW.val rfl rfl (EX.load Tryz.underlying54 rfl rfl (hb.cell_of rfl)) ?_
    refine OW.val rfl rfl (EX.move rfl) ?_
    refine OW.val rfl rfl (EX.neqSame (z := 2) Tryz.underlying54 (by kernel_rfl) rfl rfl) ?_
    refine OW.nil ?_
    refine KW.condF rfl (KW.skip ?_)
    refine KW.done (ret0 rfl ?_)
    exact ⟨rfl, hb, Mo.refl _ _⟩
/-- the types of what a builder's call changes -/
def bty (T : TypeId) : Bool := T == 57 || T == 5
set_option maxRecDepth 20000 in
theorem writeString_t (B b : Nat) (l s : List UInt8) (w : World) (h : Bd w B b l) (hs : s ≠ []) (hlen : l.length + s.length ≤ 140737488355328) (hB : B ≤ w.heap.size) :
    Ret Tryz.prog 28 [.pointer (some ⟨b, 0, none⟩), str s] w fun r w' => (∃ q, r = q) ∧ Bd w' B b (l ++ s) ∧ Below B w w' ∧ Tm w w' B bty := by
  obtain ⟨hBb, p, v, hp, hb, hn, hown⟩ := h
  have hlb : (bytesV l).length = l.length := by simp [bytesV]
  refine Ret.enter Tryz.func28 rfl Tryz.ntmps28 (by kernel_rfl) rfl ?_
  refine KW.seq (KW.region ?_)
  refine OW.val rfl rfl (EX.assign rfl) ?_
  refine OW.val rfl rfl (EX.assign rfl) ?_
  refine OW.nil ?_
  refine KW.seq (KW.region ?_)
  refine OW.val rfl rfl (EX.move rfl) ?_
  refine OW.call rfl rfl rfl (copyCheck_b b p v w hp hb) ?_
  rintro _ w1 ⟨rfl, hb1, hm1⟩
  refine OW.nil ?_
  refine KW.seq (KW.region ?_)
  refine OW.val rfl rfl (EX.move rfl) ?_
  refine OW.val rfl rfl (EX.move rfl) ?_
  refine OW.val rfl rfl (EX.nilCheck rfl) ?_
  refine OW.val rfl rfl (EX.fieldAddr (off := 1) Tryz.underlying57 rfl rfl ti55 rfl rfl) ?_
  have hown1 := hown.mo hm1 (fun k hk => by simp; exact fun z => hown.ne hb (by decide) k hk z.symm)
  have b1 : Below B w w1 := below_mo (Below.refl B w) hm1 hB (fun k hk => by simp at hk; omega)
  have hB1 : B ≤ w1.heap.size := Nat.le_trans hB b1.size
  refine OW.val rfl rfl (EX.load Tryz.underlying55 rfl rfl (hb1.cell_of rfl)) ?_
  refine OW.val rfl rfl (EX.move rfl) ?_
  refine OW.append B rfl rfl Tryz.underlying55 ti5 rfl (by decide) rfl rfl hown1 (Src.of_str Tryz.underlying9 s) (by simp only [maxLen]; omega) (by omega) hB1 ?_
  rintro v2 w2 hown2 hg2 hv2
  refine OW.val rfl rfl (EX.nilCheck rfl) ?_
  refine OW.val rfl rfl (EX.fieldAddr (off := 1) Tryz.underlying57 rfl rfl ti55 rfl rfl) ?_
  have hb2 := hb1.grown hg2 (fun z => hown1.ne hb1 (by decide) b z.symm rfl)
  have b2 : Below B w w2 := below_mo b1 (Mo.grown hg2 (S := v.ownBlock.toList) (fun k e => by rw [e]; simp)) hB1 (fun k hk => (hown1.lt k (Option.mem_toList.1 hk)).1)
  have hB2 : B ≤ w2.heap.size := Nat.le_trans hB b2.size
  refine OW.storeB rfl ti55 rfl rfl (by first | rfl | assumption | exact Own.one (by assumption)) (hb2) (by simp) ?_
  rintro w3 hb3 hm3
  refine OW.nil ?_
  refine KW.seq (KW.region ?_)
  refine OW.val rfl rfl (EX.move rfl) ?_
  refine OW.val rfl rfl (EX.lenS Tryz.underlying9 rfl) ?_
  refine OW.val rfl rfl (EX.assign rfl) ?_
  refine OW.val rfl rfl (EX.assign rfl) ?_
  refine OW.nil ?_
  have b3 : Below B w w3 := below_mo b2 hm3 hB2 (fun k hk => by simp at hk; omega)
  have hown3 := hown2.mo hm3 (fun k hk => by simp; exact fun z => hown2.ne hb2 (by decide) k hk z.symm)
  have tm1 : Tm w w1 B bty := (Tm.set hb hm1 hBb).mono fun T hT => by simp at hT; simp [bty, hT]
  have tm2 : Tm w1 w2 B bty := (Tm.grown hown1 hg2).mono fun T hT => by simp at hT; simp [bty, hT]
  have tm3 : Tm w2 w3 B bty := (Tm.set hb2 hm3 hBb).mono fun T hT => by simp at hT; simp [bty, hT]
  refine KW.ret (ret2 rfl rfl rfl ?_)
  refine ⟨⟨_, rfl⟩, ⟨hBb, _, v2, .inr rfl, hb3, fun q => absurd q (by simp [hs]), ?_⟩, b3, (tm1.trans tm2).trans tm3⟩
  rw [List.length_append]
  have e : bytesV (l ++ s) = bytesV l ++ bytesV s := by simp [bytesV]
  rw [e]
  exact hown3
theorem writeString_b (B b : Nat) (l s : List UInt8) (w : World) (h : Bd w B b l) (hs : s ≠ []) (hlen : l.length + s.length ≤ 140737488355328) (hB : B ≤ w.heap.size) :
    Ret Tryz.prog 28 [.pointer (some ⟨b, 0, none⟩), str s] w fun r w' => (∃ q, r = q) ∧ Bd w' B b (l ++ s) ∧ Below B w w' :=
  (writeString_t B b l s w h hs hlen hB).mono fun _ _ h => ⟨h.1, h.2.1, h.2.2.1⟩
set_option maxRecDepth 20000 in
theorem bstring_b (B b : Nat) (l : List UInt8) (w : World) (h : Bd w B b l) (hlen : l.length ≤ 140737488355328) (hB : B ≤ w.heap.size) :
    Ret Tryz.prog 32 [.pointer (some ⟨b, 0, none⟩)] w fun r w' => r = str l ∧ Below B w w' := by
  obtain ⟨hBb, p, v, hp, hb, hn, hown⟩ := h
  refine Ret.enter Tryz.func32 rfl Tryz.ntmps32 (by kernel_rfl) rfl ?_
  refine KW.seq (KW.region ?_)
  refine OW.val rfl rfl (EX.assign rfl) ?_
  refine OW.nil ?_
  refine KW.seq ?_
  rcases Decidable.em (l = []) with hl | hl
  · obtain rfl := hn hl
    subst hl
    refine KW.regionQ (by kernel_rfl) (by kernel_rfl) ?_
    refine QW.val rfl rfl (fun _ => EX.move rfl) ?_
    refine QW.val rfl rfl (fun _ => EX.nilCheck rfl) ?_
    refine QW.val rfl rfl (fun _ => EX.fieldAddr (off := 1) Tryz.underlying57 rfl rfl ti55 rfl rfl) ?_
    refine QW.val rfl rfl (fun _ => EX.load Tryz.underlying55 rfl rfl (hb.cell_of rfl)) ?_
    refine QW.val rfl rfl (fun _ => EX.sliceDataN rfl) ?_
    refine QW.val rfl rfl (fun _ => EX.move rfl) ?_
    refine QW.val rfl rfl (fun _ => EX.nilCheck rfl) ?_
    refine QW.val rfl rfl (fun _ => EX.fieldAddr (off := 1) Tryz.underlying57 rfl rfl ti55 rfl rfl) ?_
    refine QW.val rfl rfl (fun _ => EX.load Tryz.underlying55 rfl rfl (hb.cell_of rfl)) ?_
    refine QW.val rfl rfl (fun _ => EX.lenA Tryz.underlying55 rfl) ?_
    refine QW.val rfl rfl (fun _ => EX.unsafeStrN rfl rfl) ?_
    refine QW.val rfl rfl (fun _ => EX.assign rfl) ?_
    refine QW.nil (fun nq => ?_)
    refine KW.ret (ret1 rfl rfl ?_)
    exact ⟨rfl, below_drewN (Below.refl B w) nq⟩
  · have hne : l.length ≠ 0 := fun z => hl (List.eq_nil_of_length_eq_zero z)
    rcases hown.2 with ⟨_, hz⟩ | ⟨g, cap, rest, rfl, hg, hbg, hlen2, hc1, hc2⟩
    · exact absurd hz hne
    · refine KW.regionH 10 (by kernel_rfl) (by kernel_rfl) ?_
      refine HW.val rfl rfl (EX.move rfl) ?_
      refine HW.val rfl rfl (EX.nilCheck rfl) ?_
      refine HW.val rfl rfl (EX.fieldAddr (off := 1) Tryz.underlying57 rfl rfl ti55 rfl rfl) ?_
      refine HW.val rfl rfl (EX.load Tryz.underlying55 rfl rfl (hb.cell_of rfl)) ?_
      refine HW.val rfl rfl (EX.sliceData (by omega) rfl) ?_
      refine HW.val rfl rfl (EX.move rfl) ?_
      refine HW.val rfl rfl (EX.nilCheck rfl) ?_
      refine HW.val rfl rfl (EX.fieldAddr (off := 1) Tryz.underlying57 rfl rfl ti55 rfl rfl) ?_
      refine HW.val rfl rfl (EX.load Tryz.underlying55 rfl rfl (hb.cell_of rfl)) ?_
      refine HW.val rfl rfl (EX.lenA Tryz.underlying55 rfl) ?_
      refine HW.tail ?_
      refine OW.val rfl rfl (EX.unsafeStr (g := g) (l := l) (rest := rest) Tryz.underlying92 (by kernel_rfl) (hbg.drewN _) hl (by omega) rfl rfl) ?_
      refine OW.val rfl rfl (EX.assign rfl) ?_
      refine OW.nil ?_
      refine KW.ret (ret1 rfl rfl ?_)
      exact ⟨rfl, Lib.below_freeze (below_drewN (Below.refl B w) _) (p := ⟨g, 0, none⟩) hg _⟩
end Go.Proofs.YtjgeoeeikfjmdaaGreatDoor
/- DERIVED: THE SHELF's CONTRACTS AT THIS DUMP, IN PLAIN WORDS (tools/lay-plain.mjs out of 'TryzShelf.lean', which tools/lay-shelf.mjs wrote): THE SAME DECLARATIONS UNDER THE SAME NAMES: 'import', 'namespace', 'open', 'def', 'theorem' AND NOTHING ELSE: no command of the shelf's: FOR A HAND-IN. Each laying: the table of numbers ('.._ren') and one theorem, a field a fact of the dump's own or the kernel's comparison; each contract: ONE APPLICATION. -/
namespace Go.Proofs.YtjgeoeeikfjmdaaGreatDoor
set_option linter.unnecessarySimpa false
set_option linter.unusedVariables false
set_option linter.unusedSimpArgs false
open Go.Shelf
def Tryz.lays170_ren : Go.Shelf.Ren := ⟨fun | 170 => 29 | n => n, fun | 70 => 54 | 3 => 3 | 0 => 0 | 72 => 57 | 37 => 55 | 5 => 5 | n => n, fun | n => n⟩
theorem Tryz.lays170 : Go.Proofs.Lays.n170 Tryz.prog Tryz.lays170_ren := {
  mixed := by kernel_rfl
  f170 := Tryz.func29.trans (congrArg some (by kernel_rfl))
  t0 := Tryz.underlying0
  a0 := Tryz.isAgg0
  z0 := Tryz.sizeOf0
  v0 := Tryz.zeroValue0
  t3 := Tryz.underlying3
  a3 := Tryz.isAgg3
  z3 := Tryz.sizeOf3
  v3 := Tryz.zeroValue3
  t37 := Tryz.underlying55
  a37 := Tryz.isAgg55
  z37 := Tryz.sizeOf55
  v37 := Tryz.zeroValue55
  t70 := Tryz.underlying54
  a70 := Tryz.isAgg54
  z70 := Tryz.sizeOf54
  v70 := Tryz.zeroValue54
  t72 := Tryz.underlying57
  a72 := Tryz.isAgg57
  z72 := Tryz.sizeOf57
  v72 := Tryz.zeroValue57 }
open Go.RowKit in
/-- (*strings.Builder).Len: "Len returns the number of accumulated bytes; b.Len() == len(b.String()).": the world is as it was. (LAID: no walk: one application.) -/
theorem Tryz.Builder_Len (B b : Nat) (bs : List Value) (w : World) (h : Lib.IsBuilder 57 5 B b bs w) :
    Calls Tryz.prog 29 #[.pointer (some ⟨b, 0, none⟩)] w fun e w' => e = .returned (.int .i64 bs.length) ∧ w' = w := Any.Builder_Len Tryz.lays170 B b bs w h
def Tryz.lays169_ren : Go.Shelf.Ren := ⟨fun | 169 => 32 | n => n, fun | 70 => 54 | 9 => 9 | 0 => 0 | 72 => 57 | 37 => 55 | 127 => 92 | 3 => 3 | 5 => 5 | n => n, fun | n => n⟩
theorem Tryz.lays169 : Go.Proofs.Lays.n169 Tryz.prog Tryz.lays169_ren := {
  mixed := by kernel_rfl
  f169 := Tryz.func32.trans (congrArg some (by kernel_rfl))
  t0 := Tryz.underlying0
  a0 := Tryz.isAgg0
  z0 := Tryz.sizeOf0
  v0 := Tryz.zeroValue0
  t3 := Tryz.underlying3
  a3 := Tryz.isAgg3
  z3 := Tryz.sizeOf3
  v3 := Tryz.zeroValue3
  t9 := Tryz.underlying9
  a9 := Tryz.isAgg9
  z9 := Tryz.sizeOf9
  v9 := Tryz.zeroValue9
  t37 := Tryz.underlying55
  a37 := Tryz.isAgg55
  z37 := Tryz.sizeOf55
  v37 := Tryz.zeroValue55
  t70 := Tryz.underlying54
  a70 := Tryz.isAgg54
  z70 := Tryz.sizeOf54
  v70 := Tryz.zeroValue54
  t72 := Tryz.underlying57
  a72 := Tryz.isAgg57
  z72 := Tryz.sizeOf57
  v72 := Tryz.zeroValue57
  t127 := Tryz.underlying92
  a127 := Tryz.isAgg92
  z127 := Tryz.sizeOf92
  v127 := Tryz.zeroValue92 }
theorem Tryz.Builder_Extra_169 : Builder.Extra Tryz.prog Tryz.lays169_ren := {
  sizeBuilder := by kernel_rfl
  liesBuilder := by kernel_rfl
  t5 := Tryz.underlying5
  a5 := Tryz.isAgg5
  z5 := Tryz.sizeOf5
  v5 := Tryz.zeroValue5
  infoByte := by kernel_rfl
  cellsByte := by kernel_rfl
  sizeByte := by kernel_rfl
  neB5 := by decide }
open Go.RowKit in
/-- (*strings.Builder).String: "String returns the accumulated string.": OF A BUILDER THAT HOLDS AT LEAST ONE BYTE. ✋ THE MODEL FREEZES THOSE BYTES IN THE BUFFER (unsafe.String): a later write INTO them ends the model's run without an answer; a later append BEHIND them goes on. The statement's order of evaluation is drawn: one draw. (LAID: no walk: one application.) -/
theorem Tryz.Builder_String (B b : Nat) (l : List UInt8) (w : World) (h : Lib.IsBuilder 57 5 B b (Lib.byteCells l) w) (h0 : l ≠ []) :
    Calls Tryz.prog 32 #[.pointer (some ⟨b, 0, none⟩)] w fun e w' => e = .returned (.string ⟨l.toArray⟩) ∧ Below B w w' := Any.Builder_String Tryz.lays169 Tryz.Builder_Extra_169 B b l w h h0
open Go.RowKit in
/-- (*strings.Builder).String OF A BUILDER THAT HOLDS NO BYTE: the empty string. (Its buffer is nil, or a row of which it has taken nothing yet; where that row has NO capacity the model lays one new block for unsafe.SliceData's 'some address'.) One draw. (LAID: no walk: one application.) -/
theorem Tryz.Builder_String_empty (B b : Nat) (w : World) (h : Lib.IsBuilder 57 5 B b [] w) (hBw : B ≤ w.heap.size) :
    Calls Tryz.prog 32 #[.pointer (some ⟨b, 0, none⟩)] w fun e w' => e = .returned (.string ⟨#[]⟩) ∧ Below B w w' := Any.Builder_String_empty Tryz.lays169 Tryz.Builder_Extra_169 B b w h hBw
open Go.RowKit in
/-- (*strings.Builder).String: "String returns the accumulated string.": WHATEVER THE BUILDER HOLDS. (LAID: no walk: one application.) -/
theorem Tryz.Builder_String_any (B b : Nat) (l : List UInt8) (w : World) (h : Lib.IsBuilder 57 5 B b (Lib.byteCells l) w) (hBw : B ≤ w.heap.size) :
    Calls Tryz.prog 32 #[.pointer (some ⟨b, 0, none⟩)] w fun e w' => e = .returned (.string ⟨l.toArray⟩) ∧ Below B w w' := Any.Builder_String_any Tryz.lays169 Tryz.Builder_Extra_169 B b l w h hBw
def Tryz.lays241_ren : Go.Shelf.Ren := ⟨fun | 241 => 126 | 277 => 136 | n => n, fun | 70 => 54 | 3 => 3 | 0 => 0 | 72 => 57 | 37 => 55 | 5 => 5 | n => n, fun | n => n⟩
theorem Tryz.lays241 : Go.Proofs.Lays.n241 Tryz.prog Tryz.lays241_ren := {
  mixed := by kernel_rfl
  f241 := Tryz.func126.trans (congrArg some (by kernel_rfl))
  f277 := Tryz.func136.trans (congrArg some (by kernel_rfl))
  t0 := Tryz.underlying0
  a0 := Tryz.isAgg0
  z0 := Tryz.sizeOf0
  v0 := Tryz.zeroValue0
  t3 := Tryz.underlying3
  a3 := Tryz.isAgg3
  z3 := Tryz.sizeOf3
  v3 := Tryz.zeroValue3
  t37 := Tryz.underlying55
  a37 := Tryz.isAgg55
  z37 := Tryz.sizeOf55
  v37 := Tryz.zeroValue55
  t70 := Tryz.underlying54
  a70 := Tryz.isAgg54
  z70 := Tryz.sizeOf54
  v70 := Tryz.zeroValue54
  t72 := Tryz.underlying57
  a72 := Tryz.isAgg57
  z72 := Tryz.sizeOf57
  v72 := Tryz.zeroValue57 }
theorem Tryz.Builder_Extra_241 : Builder.Extra Tryz.prog Tryz.lays241_ren := {
  sizeBuilder := by kernel_rfl
  liesBuilder := by kernel_rfl
  t5 := Tryz.underlying5
  a5 := Tryz.isAgg5
  z5 := Tryz.sizeOf5
  v5 := Tryz.zeroValue5
  infoByte := by kernel_rfl
  cellsByte := by kernel_rfl
  sizeByte := by kernel_rfl
  neB5 := by decide }
open Go.RowKit in
/-- (*strings.Builder).grow (no doc but "grow copies the buffer to a new, larger buffer so that there are at least n bytes of capacity beyond len(b.buf)."): AT A BUILDER WITHOUT A BUFFER: a new row of whatever bytes for its buffer, none of them its own yet. Three draws. (LAID: no walk: one application.) -/
theorem Tryz.Builder_grow_fresh (B b n : Nat) (w : World) (hB : B ≤ b) (hbk : w.heap[b]? = some (.cells #[.pointer (some ⟨b, 0, none⟩), .slice none 0 0] 57 (0, 0))) (hBw : B ≤ w.heap.size) (hn : n ≤ 281474976710656) :
    Calls Tryz.prog 126 #[.pointer (some ⟨b, 0, none⟩), .int .i64 n] w fun e w' => e = .returned (.tuple #[]) ∧ (Lib.BuilderAt 57 5 B b (.pointer (some ⟨b, 0, none⟩)) [] w' ∧ Below B w w') := Any.Builder_grow_fresh Tryz.lays241 Tryz.Builder_Extra_241 B b n w hB hbk hBw hn
def Tryz.lays165_ren : Go.Shelf.Ren := ⟨fun | 165 => 104 | 240 => 53 | 241 => 126 | 276 => 83 | 277 => 136 | n => n, fun | 70 => 54 | 3 => 3 | 0 => 0 | 4 => 4 | 9 => 9 | 20 => 20 | 72 => 57 | 37 => 55 | 164 => 126 | 5 => 5 | n => n, fun | n => n⟩
theorem Tryz.lays165 : Go.Proofs.Lays.n165 Tryz.prog Tryz.lays165_ren := {
  mixed := by kernel_rfl
  f165 := Tryz.func104.trans (congrArg some (by kernel_rfl))
  f240 := Tryz.func53.trans (congrArg some (by kernel_rfl))
  f241 := Tryz.func126.trans (congrArg some (by kernel_rfl))
  f276 := Tryz.func83.trans (congrArg some (by kernel_rfl))
  f277 := Tryz.func136.trans (congrArg some (by kernel_rfl))
  t0 := Tryz.underlying0
  a0 := Tryz.isAgg0
  z0 := Tryz.sizeOf0
  v0 := Tryz.zeroValue0
  t3 := Tryz.underlying3
  a3 := Tryz.isAgg3
  z3 := Tryz.sizeOf3
  v3 := Tryz.zeroValue3
  t4 := Tryz.underlying4
  a4 := Tryz.isAgg4
  z4 := Tryz.sizeOf4
  v4 := Tryz.zeroValue4
  t9 := Tryz.underlying9
  a9 := Tryz.isAgg9
  z9 := Tryz.sizeOf9
  v9 := Tryz.zeroValue9
  t20 := Tryz.underlying20
  a20 := Tryz.isAgg20
  z20 := Tryz.sizeOf20
  v20 := Tryz.zeroValue20
  t37 := Tryz.underlying55
  a37 := Tryz.isAgg55
  z37 := Tryz.sizeOf55
  v37 := Tryz.zeroValue55
  t70 := Tryz.underlying54
  a70 := Tryz.isAgg54
  z70 := Tryz.sizeOf54
  v70 := Tryz.zeroValue54
  t72 := Tryz.underlying57
  a72 := Tryz.isAgg57
  z72 := Tryz.sizeOf57
  v72 := Tryz.zeroValue57
  t164 := Tryz.underlying126
  a164 := Tryz.isAgg126
  z164 := Tryz.sizeOf126
  v164 := Tryz.zeroValue126 }
theorem Tryz.Builder_Extra_165 : Builder.Extra Tryz.prog Tryz.lays165_ren := {
  sizeBuilder := by kernel_rfl
  liesBuilder := by kernel_rfl
  t5 := Tryz.underlying5
  a5 := Tryz.isAgg5
  z5 := Tryz.sizeOf5
  v5 := Tryz.zeroValue5
  infoByte := by kernel_rfl
  cellsByte := by kernel_rfl
  sizeByte := by kernel_rfl
  neB5 := by decide }
open Go.RowKit in
/-- (*strings.Builder).Grow AT A BUILDER THAT HAS NOT BEEN WRITTEN ('var b strings.Builder; b.Grow(n)'): "Grow grows b's capacity, if necessary, to guarantee space for another n bytes.": it holds no byte behind it as before it. (LAID: no walk: one application.) -/
theorem Tryz.Builder_Grow_fresh (B b n : Nat) (w : World) (hB : B ≤ b) (hbk : w.heap[b]? = some (.cells #[.pointer none, .slice none 0 0] 57 (0, 0))) (hBw : B ≤ w.heap.size) (hn : n ≤ 281474976710656) :
    Calls Tryz.prog 104 #[.pointer (some ⟨b, 0, none⟩), .int .i64 n] w fun e w' => e = .returned (.tuple #[]) ∧ (Lib.BuilderAt 57 5 B b (.pointer (some ⟨b, 0, none⟩)) [] w' ∧ Below B w w') := Any.Builder_Grow_fresh Tryz.lays165 Tryz.Builder_Extra_165 B b n w hB hbk hBw hn
def Tryz.lays156_ren : Go.Shelf.Ren := ⟨fun | 156 => 69 | 165 => 104 | 166 => 28 | 169 => 32 | 240 => 53 | 241 => 126 | 276 => 83 | 277 => 136 | n => n, fun | 31 => 81 | 9 => 9 | 3 => 3 | 4 => 4 | 0 => 0 | 20 => 20 | 72 => 57 | 76 => 60 | 70 => 54 | 37 => 55 | 75 => 59 | 127 => 92 | 164 => 126 | 5 => 5 | 80 => 65 | n => n, fun | n => n⟩
theorem Tryz.lays156 : Go.Proofs.Lays.n156 Tryz.prog Tryz.lays156_ren := {
  mixed := by kernel_rfl
  f156 := Tryz.func69.trans (congrArg some (by kernel_rfl))
  f165 := Tryz.func104.trans (congrArg some (by kernel_rfl))
  f166 := Tryz.func28.trans (congrArg some (by kernel_rfl))
  f169 := Tryz.func32.trans (congrArg some (by kernel_rfl))
  f240 := Tryz.func53.trans (congrArg some (by kernel_rfl))
  f241 := Tryz.func126.trans (congrArg some (by kernel_rfl))
  f276 := Tryz.func83.trans (congrArg some (by kernel_rfl))
  f277 := Tryz.func136.trans (congrArg some (by kernel_rfl))
  t0 := Tryz.underlying0
  a0 := Tryz.isAgg0
  z0 := Tryz.sizeOf0
  v0 := Tryz.zeroValue0
  t3 := Tryz.underlying3
  a3 := Tryz.isAgg3
  z3 := Tryz.sizeOf3
  v3 := Tryz.zeroValue3
  t4 := Tryz.underlying4
  a4 := Tryz.isAgg4
  z4 := Tryz.sizeOf4
  v4 := Tryz.zeroValue4
  t9 := Tryz.underlying9
  a9 := Tryz.isAgg9
  z9 := Tryz.sizeOf9
  v9 := Tryz.zeroValue9
  t20 := Tryz.underlying20
  a20 := Tryz.isAgg20
  z20 := Tryz.sizeOf20
  v20 := Tryz.zeroValue20
  t31 := Tryz.underlying81
  a31 := Tryz.isAgg81
  z31 := Tryz.sizeOf81
  v31 := Tryz.zeroValue81
  t37 := Tryz.underlying55
  a37 := Tryz.isAgg55
  z37 := Tryz.sizeOf55
  v37 := Tryz.zeroValue55
  t70 := Tryz.underlying54
  a70 := Tryz.isAgg54
  z70 := Tryz.sizeOf54
  v70 := Tryz.zeroValue54
  t72 := Tryz.underlying57
  a72 := Tryz.isAgg57
  z72 := Tryz.sizeOf57
  v72 := Tryz.zeroValue57
  t75 := Tryz.underlying59
  a75 := Tryz.isAgg59
  z75 := Tryz.sizeOf59
  v75 := Tryz.zeroValue59
  t76 := Tryz.underlying60
  a76 := Tryz.isAgg60
  z76 := Tryz.sizeOf60
  v76 := Tryz.zeroValue60
  t127 := Tryz.underlying92
  a127 := Tryz.isAgg92
  z127 := Tryz.sizeOf92
  v127 := Tryz.zeroValue92
  t164 := Tryz.underlying126
  a164 := Tryz.isAgg126
  z164 := Tryz.sizeOf126
  v164 := Tryz.zeroValue126 }
theorem Tryz.Builder_Extra_156 : Builder.Extra Tryz.prog Tryz.lays156_ren := {
  sizeBuilder := by kernel_rfl
  liesBuilder := by kernel_rfl
  t5 := Tryz.underlying5
  a5 := Tryz.isAgg5
  z5 := Tryz.sizeOf5
  v5 := Tryz.zeroValue5
  infoByte := by kernel_rfl
  cellsByte := by kernel_rfl
  sizeByte := by kernel_rfl
  neB5 := by decide }
open Go.RowKit in
/-- No element: the empty string; the world is as it was. (Whatever the slice's address and capacity: a nil slice too.) (LAID: no walk: one application.) -/
theorem Tryz.strings_Join_none (a : Option Addr) (c : Nat) (sep : ByteArray) (w : World) :
    Calls Tryz.prog 69 #[.slice a 0 c, .string sep] w fun e w' => e = .returned (.string ⟨#[]⟩) ∧ w' = w := Any.strings_Join_none Tryz.lays156 Tryz.Builder_Extra_156 a c sep w
open Go.RowKit in
/-- strings.Join: "Join concatenates the elements of its first argument to create a single string. The separator string sep is placed between elements in the resulting string.": HOWEVER MANY ELEMENTS. Below the heap's end the world is as it was. (LAID: no walk: one application.) -/
theorem Tryz.strings_Join (bk o c : Nat) (xs : List ByteArray) (sep : ByteArray) (w : World) (hcells : ∀ (j : Nat) x, xs[j]? = some x → w.cell? ⟨bk, o + j, none⟩ = some (.string x)) (hbk : bk < w.heap.size) (hN : xs.length ≤ 140737488355328) (hcap : xs.length ≤ c) (hlen : (Lib.join (xs.map (·.data.toList)) sep.data.toList).length ≤ 140737488355328) :
    Calls Tryz.prog 69 #[.slice (some ⟨bk, o, none⟩) xs.length c, .string sep] w fun e w' => e = .returned (.string ⟨(Lib.join (xs.map (·.data.toList)) sep.data.toList).toArray⟩) ∧ Below w.heap.size w w' := Any.strings_Join Tryz.lays156 Tryz.Builder_Extra_156 bk o c xs sep w hcells hbk hN hcap hlen
def Tryz.lays128_ren : Go.Shelf.Ren := ⟨fun | 128 => 100 | n => n, fun | 51 => 140 | 3 => 3 | 4 => 4 | 46 => 110 | 5 => 5 | 9 => 9 | n => n, fun | n => n⟩
theorem Tryz.lays128 : Go.Proofs.Lays.n128 Tryz.prog Tryz.lays128_ren := {
  mixed := by kernel_rfl
  f128 := Tryz.func100.trans (congrArg some (by kernel_rfl))
  t3 := Tryz.underlying3
  a3 := Tryz.isAgg3
  z3 := Tryz.sizeOf3
  v3 := Tryz.zeroValue3
  t4 := Tryz.underlying4
  a4 := Tryz.isAgg4
  z4 := Tryz.sizeOf4
  v4 := Tryz.zeroValue4
  t5 := Tryz.underlying5
  a5 := Tryz.isAgg5
  z5 := Tryz.sizeOf5
  v5 := Tryz.zeroValue5
  t9 := Tryz.underlying9
  a9 := Tryz.isAgg9
  z9 := Tryz.sizeOf9
  v9 := Tryz.zeroValue9
  t46 := Tryz.underlying110
  a46 := Tryz.isAgg110
  z46 := Tryz.sizeOf110
  v46 := Tryz.zeroValue110
  t51 := Tryz.underlying140
  a51 := Tryz.isAgg140
  z51 := Tryz.sizeOf140
  v51 := Tryz.zeroValue140 }
/-- bits.Len32: "Len32 returns the minimum number of bits required to represent x; the result is 0 for x == 0.": IT RETURNS 'Lib.bitLen x'; the world is as it was. ('h0', 'h1': x is a uint32.) (LAID: no walk: one application.) -/
theorem Tryz.bits_Len32 (x : Int) (w : World) (h0 : 0 ≤ x) (h1 : x ≤ 4294967295) :
    Calls Tryz.prog 100 #[.int .u32 x] w fun e w' => e = .returned (.int .i64 (Lib.bitLen x.toNat)) ∧ w' = w := Any.bits_Len32 Tryz.lays128 x w h0 h1
def Tryz.lays125_ren : Go.Shelf.Ren := ⟨fun | 125 => 64 | 128 => 100 | 129 => 101 | n => n, fun | 46 => 110 | 3 => 3 | 51 => 140 | 53 => 142 | 4 => 4 | 5 => 5 | 9 => 9 | n => n, fun | n => n⟩
theorem Tryz.lays125 : Go.Proofs.Lays.n125 Tryz.prog Tryz.lays125_ren := {
  mixed := by kernel_rfl
  f125 := Tryz.func64.trans (congrArg some (by kernel_rfl))
  f128 := Tryz.func100.trans (congrArg some (by kernel_rfl))
  f129 := Tryz.func101.trans (congrArg some (by kernel_rfl))
  t3 := Tryz.underlying3
  a3 := Tryz.isAgg3
  z3 := Tryz.sizeOf3
  v3 := Tryz.zeroValue3
  t4 := Tryz.underlying4
  a4 := Tryz.isAgg4
  z4 := Tryz.sizeOf4
  v4 := Tryz.zeroValue4
  t5 := Tryz.underlying5
  a5 := Tryz.isAgg5
  z5 := Tryz.sizeOf5
  v5 := Tryz.zeroValue5
  t9 := Tryz.underlying9
  a9 := Tryz.isAgg9
  z9 := Tryz.sizeOf9
  v9 := Tryz.zeroValue9
  t46 := Tryz.underlying110
  a46 := Tryz.isAgg110
  z46 := Tryz.sizeOf110
  v46 := Tryz.zeroValue110
  t51 := Tryz.underlying140
  a51 := Tryz.isAgg140
  z51 := Tryz.sizeOf140
  v51 := Tryz.zeroValue140
  t53 := Tryz.underlying142
  a53 := Tryz.isAgg142
  z53 := Tryz.sizeOf142
  v53 := Tryz.zeroValue142 }
/-- bits.Len: "Len returns the minimum number of bits required to represent x; the result is 0 for x == 0.": IT RETURNS 'Lib.bitLen x'; the world is as it was. (A uint has 64 bits in the model.) ITS CALLEE bits.Len64 IS MET BY ITS OWN CONTRACT OFF THE SHELF (lay that first). (LAID: no walk: one application.) -/
theorem Tryz.bits_Len (x : Int) (w : World) (h0 : 0 ≤ x) (h1 : x ≤ 18446744073709551615) :
    Calls Tryz.prog 64 #[.int .u64 x] w fun e w' => e = .returned (.int .i64 (Lib.bitLen x.toNat)) ∧ w' = w := Any.bits_Len Tryz.lays125 x w h0 h1
def Tryz.lays213_ren : Go.Shelf.Ren := ⟨fun | 213 => 67 | 265 => 103 | n => n, fun | 9 => 9 | 3 => 3 | n => n, fun | n => n⟩
theorem Tryz.lays213 : Go.Proofs.Lays.n213 Tryz.prog Tryz.lays213_ren := {
  mixed := by kernel_rfl
  f213 := Tryz.func67.trans (congrArg some (by kernel_rfl))
  f265 := Tryz.func103.trans (congrArg some (by kernel_rfl))
  t3 := Tryz.underlying3
  a3 := Tryz.isAgg3
  z3 := Tryz.sizeOf3
  v3 := Tryz.zeroValue3
  t9 := Tryz.underlying9
  a9 := Tryz.isAgg9
  z9 := Tryz.sizeOf9
  v9 := Tryz.zeroValue9 }
open Go.RowKit in
/-- internal/bytealg.CompareString (what strings.Compare calls): IT RETURNS 'Lib.compareBytes a b'; the world is as it was. (LAID: no walk: one application.) -/
theorem Tryz.bytealg_CompareString (a b : ByteArray) (w : World) :
    Calls Tryz.prog 67 #[.string a, .string b] w fun e w' => e = .returned (.int .i64 (Lib.compareBytes a.data.toList b.data.toList)) ∧ w' = w := Any.bytealg_CompareString Tryz.lays213 a b w
def Tryz.lays106_ren : Go.Shelf.Ren := ⟨fun | 106 => 42 | 213 => 67 | 265 => 103 | n => n, fun | 9 => 9 | 3 => 3 | n => n, fun | n => n⟩
theorem Tryz.lays106 : Go.Proofs.Lays.n106 Tryz.prog Tryz.lays106_ren := {
  mixed := by kernel_rfl
  f106 := Tryz.func42.trans (congrArg some (by kernel_rfl))
  f213 := Tryz.func67.trans (congrArg some (by kernel_rfl))
  f265 := Tryz.func103.trans (congrArg some (by kernel_rfl))
  t3 := Tryz.underlying3
  a3 := Tryz.isAgg3
  z3 := Tryz.sizeOf3
  v3 := Tryz.zeroValue3
  t9 := Tryz.underlying9
  a9 := Tryz.isAgg9
  z9 := Tryz.sizeOf9
  v9 := Tryz.zeroValue9 }
open Go.RowKit in
/-- strings.Compare: "Compare returns an integer comparing two strings lexicographically. The result will be 0 if a == b, -1 if a < b, and +1 if a > b.": IT RETURNS 'Lib.compareBytes a b'; the world is as it was. (LAID: no walk: one application.) -/
theorem Tryz.strings_Compare (a b : ByteArray) (w : World) :
    Calls Tryz.prog 42 #[.string a, .string b] w fun e w' => e = .returned (.int .i64 (Lib.compareBytes a.data.toList b.data.toList)) ∧ w' = w := Any.strings_Compare Tryz.lays106 a b w
def Tryz.lays137_ren : Go.Shelf.Ren := ⟨fun | 137 => 70 | 217 => 105 | 266 => 127 | n => n, fun | 9 => 9 | 5 => 5 | 3 => 3 | n => n, fun | n => n⟩
theorem Tryz.lays137 : Go.Proofs.Lays.n137 Tryz.prog Tryz.lays137_ren := {
  mixed := by kernel_rfl
  f137 := Tryz.func70.trans (congrArg some (by kernel_rfl))
  f217 := Tryz.func105.trans (congrArg some (by kernel_rfl))
  f266 := Tryz.func127.trans (congrArg some (by kernel_rfl))
  t3 := Tryz.underlying3
  a3 := Tryz.isAgg3
  z3 := Tryz.sizeOf3
  v3 := Tryz.zeroValue3
  t5 := Tryz.underlying5
  a5 := Tryz.isAgg5
  z5 := Tryz.sizeOf5
  v5 := Tryz.zeroValue5
  t9 := Tryz.underlying9
  a9 := Tryz.isAgg9
  z9 := Tryz.sizeOf9
  v9 := Tryz.zeroValue9 }
open Go.RowKit in
/-- strings.IndexByte: "IndexByte returns the index of the first instance of c in s, or -1 if c is not present in s.": IT RETURNS 'Lib.indexByte s c'; the world is as it was. (LAID: no walk: one application.) -/
theorem Tryz.strings_IndexByte (s : ByteArray) (c : Int) (w : World) :
    Calls Tryz.prog 70 #[.string s, .int .u8 c] w fun e w' => e = .returned (.int .i64 (Lib.indexByte s.data.toList c.toNat.toUInt8)) ∧ w' = w := Any.strings_IndexByte Tryz.lays137 s c w
open Go.RowKit in
/-- (*strings.Builder).Len: "Len returns the number of accumulated bytes; b.Len() == len(b.String()).": the world is as it was. (THE FORM '_f': 'Lib.IsBuilderF'.) (LAID: no walk: one application.) -/
theorem Tryz.Builder_Len_f (B b : Nat) (bs : List Value) (w : World) (h : Lib.IsBuilderF 57 5 B b bs w) :
    Calls Tryz.prog 29 #[.pointer (some ⟨b, 0, none⟩)] w fun e w' => e = .returned (.int .i64 bs.length) ∧ w' = w := Any.Builder_Len_f Tryz.lays170 B b bs w h
open Go.RowKit in
/-- (*strings.Builder).String: "String returns the accumulated string.": OF A BUILDER THAT HOLDS AT LEAST ONE BYTE. ✋ THE MODEL FREEZES THOSE BYTES IN THE BUFFER (unsafe.String): a later write INTO them ends the model's run without an answer; a later append BEHIND them goes on. The statement's order of evaluation is drawn: one draw. THE FORM '_f': IT SAYS BESIDES THAT THE BUILDER IS A BUILDER STILL ('Lib.IsBuilderF', the same bytes): SO IT CAN BE WRITTEN ON: 'b.WriteString(b.String()[:k])'. (LAID: no walk: one application.) -/
theorem Tryz.Builder_String_f (B b : Nat) (l : List UInt8) (w : World) (h : Lib.IsBuilderF 57 5 B b (Lib.byteCells l) w) (h0 : l ≠ []) :
    Calls Tryz.prog 32 #[.pointer (some ⟨b, 0, none⟩)] w fun e w' => e = .returned (.string ⟨l.toArray⟩) ∧ (Lib.IsBuilderF 57 5 B b (Lib.byteCells l) w' ∧ Below B w w') := Any.Builder_String_f Tryz.lays169 Tryz.Builder_Extra_169 B b l w h h0
open Go.RowKit in
/-- (*strings.Builder).String OF A BUILDER THAT HOLDS NO BYTE: the empty string; THE FORM '_f': a builder still. (LAID: no walk: one application.) -/
theorem Tryz.Builder_String_empty_f (B b : Nat) (w : World) (h : Lib.IsBuilderF 57 5 B b [] w) (hBw : B ≤ w.heap.size) :
    Calls Tryz.prog 32 #[.pointer (some ⟨b, 0, none⟩)] w fun e w' => e = .returned (.string ⟨#[]⟩) ∧ (Lib.IsBuilderF 57 5 B b [] w' ∧ Below B w w') := Any.Builder_String_empty_f Tryz.lays169 Tryz.Builder_Extra_169 B b w h hBw
open Go.RowKit in
/-- (*strings.Builder).String: "String returns the accumulated string.": WHATEVER THE BUILDER HOLDS; THE FORM '_f': OF A BUILDER THAT MAY HAVE BEEN READ BEFORE; AND IT IS A BUILDER STILL, holding the same bytes: it can be written on. (LAID: no walk: one application.) -/
theorem Tryz.Builder_String_any_f (B b : Nat) (l : List UInt8) (w : World) (h : Lib.IsBuilderF 57 5 B b (Lib.byteCells l) w) (hBw : B ≤ w.heap.size) :
    Calls Tryz.prog 32 #[.pointer (some ⟨b, 0, none⟩)] w fun e w' => e = .returned (.string ⟨l.toArray⟩) ∧ (Lib.IsBuilderF 57 5 B b (Lib.byteCells l) w' ∧ Below B w w') := Any.Builder_String_any_f Tryz.lays169 Tryz.Builder_Extra_169 B b l w h hBw
def Tryz.lays195_ren : Go.Shelf.Ren := ⟨fun | 195 => 111 | n => n, fun | 9 => 9 | 3 => 3 | 0 => 0 | 4 => 4 | n => n, fun | n => n⟩
theorem Tryz.lays195 : Go.Proofs.Lays.n195 Tryz.prog Tryz.lays195_ren := {
  mixed := by kernel_rfl
  f195 := Tryz.func111.trans (congrArg some (by kernel_rfl))
  t0 := Tryz.underlying0
  a0 := Tryz.isAgg0
  z0 := Tryz.sizeOf0
  v0 := Tryz.zeroValue0
  t3 := Tryz.underlying3
  a3 := Tryz.isAgg3
  z3 := Tryz.sizeOf3
  v3 := Tryz.zeroValue3
  t4 := Tryz.underlying4
  a4 := Tryz.isAgg4
  z4 := Tryz.sizeOf4
  v4 := Tryz.zeroValue4
  t9 := Tryz.underlying9
  a9 := Tryz.isAgg9
  z9 := Tryz.sizeOf9
  v9 := Tryz.zeroValue9 }
open Go.RowKit in
/-- unicode/utf8.RuneCountInString: "RuneCountInString is like RuneCount but its input is a string." ("RuneCount returns the number of runes in p. Erroneous and short encodings are treated as single runes of width 1 byte."): EVERY STRING, valid UTF-8 or not: 'Lib.runeCount s' (plain Lean over the model's own 'Utf8.decode'; 'Lib.runeCount_le': at most len(s); 'Lib.runeCount_ascii': on ASCII: len(s)). THE ONE CONDITION: len(s) below 2^63 - 1 (the counter does not wrap): the form's reach pays it. THE WORLD BEHIND THE CALL: ONE BLOCK MORE: the model's iterator over s, at its end: all else as it was. (LAID: no walk: one application.) -/
theorem Tryz.utf8_RuneCountInString (s : ByteArray) (w : World) (hs : s.size < 9223372036854775807) :
    Calls Tryz.prog 111 #[.string s] w fun e w' => e = .returned (.int .i64 (Lib.runeCount s)) ∧ ∃ pos, w' = w.iter s pos := Any.utf8_RuneCountInString Tryz.lays195 s w hs
open Go.RowKit in
/-- (*strings.Builder).grow (no doc but "grow copies the buffer to a new, larger buffer so that there are at least n bytes of capacity beyond len(b.buf)."): AT A BUILDER WITHOUT A BUFFER: a new row of whatever bytes for its buffer, none of them its own yet. Three draws. (LAID: no walk: one application.) -/
theorem Tryz.Builder_grow_fresh_cap (B b n : Nat) (w : World) (hB : B ≤ b) (hbk : w.heap[b]? = some (.cells #[.pointer (some ⟨b, 0, none⟩), .slice none 0 0] 57 (0, 0))) (hBw : B ≤ w.heap.size) (hn : n ≤ 281474976710656) :
    Calls Tryz.prog 126 #[.pointer (some ⟨b, 0, none⟩), .int .i64 n] w fun e w' => e = .returned (.tuple #[]) ∧ (Lib.BuilderAt 57 5 B b (.pointer (some ⟨b, 0, none⟩)) [] w' ∧ Below B w w') ∧ ∃ p cap, w'.cell? ⟨b, 1, none⟩ = some (.slice p 0 cap) ∧ n ≤ cap := Any.Builder_grow_fresh_cap Tryz.lays241 Tryz.Builder_Extra_241 B b n w hB hbk hBw hn
open Go.RowKit in
/-- (*strings.Builder).Grow AT A BUILDER THAT HAS NOT BEEN WRITTEN ('var b strings.Builder; b.Grow(n)'): "Grow grows b's capacity, if necessary, to guarantee space for another n bytes.": it holds no byte behind it as before it. (LAID: no walk: one application.) -/
theorem Tryz.Builder_Grow_fresh_cap (B b n : Nat) (w : World) (hB : B ≤ b) (hbk : w.heap[b]? = some (.cells #[.pointer none, .slice none 0 0] 57 (0, 0))) (hBw : B ≤ w.heap.size) (hn : n ≤ 281474976710656) :
    Calls Tryz.prog 104 #[.pointer (some ⟨b, 0, none⟩), .int .i64 n] w fun e w' => e = .returned (.tuple #[]) ∧ (Lib.BuilderAt 57 5 B b (.pointer (some ⟨b, 0, none⟩)) [] w' ∧ Below B w w') ∧ ∃ p cap, w'.cell? ⟨b, 1, none⟩ = some (.slice p 0 cap) ∧ n ≤ cap := Any.Builder_Grow_fresh_cap Tryz.lays165 Tryz.Builder_Extra_165 B b n w hB hbk hBw hn
def Tryz.lays129_ren : Go.Shelf.Ren := ⟨fun | 129 => 101 | n => n, fun | 53 => 142 | 3 => 3 | 4 => 4 | 46 => 110 | 5 => 5 | 9 => 9 | n => n, fun | n => n⟩
theorem Tryz.lays129 : Go.Proofs.Lays.n129 Tryz.prog Tryz.lays129_ren := {
  mixed := by kernel_rfl
  f129 := Tryz.func101.trans (congrArg some (by kernel_rfl))
  t3 := Tryz.underlying3
  a3 := Tryz.isAgg3
  z3 := Tryz.sizeOf3
  v3 := Tryz.zeroValue3
  t4 := Tryz.underlying4
  a4 := Tryz.isAgg4
  z4 := Tryz.sizeOf4
  v4 := Tryz.zeroValue4
  t5 := Tryz.underlying5
  a5 := Tryz.isAgg5
  z5 := Tryz.sizeOf5
  v5 := Tryz.zeroValue5
  t9 := Tryz.underlying9
  a9 := Tryz.isAgg9
  z9 := Tryz.sizeOf9
  v9 := Tryz.zeroValue9
  t46 := Tryz.underlying110
  a46 := Tryz.isAgg110
  z46 := Tryz.sizeOf110
  v46 := Tryz.zeroValue110
  t53 := Tryz.underlying142
  a53 := Tryz.isAgg142
  z53 := Tryz.sizeOf142
  v53 := Tryz.zeroValue142 }
/-- bits.Len64: "Len64 returns the minimum number of bits required to represent x; the result is 0 for x == 0.": IT RETURNS 'Lib.bitLen x'; the world is as it was. ('h0', 'h1': x is a uint64.) (LAID: no walk: one application.) -/
theorem Tryz.bits_Len64 (x : Int) (w : World) (h0 : 0 ≤ x) (h1 : x ≤ 18446744073709551615) :
    Calls Tryz.prog 101 #[.int .u64 x] w fun e w' => e = .returned (.int .i64 (Lib.bitLen x.toNat)) ∧ w' = w := Any.bits_Len64 Tryz.lays129 x w h0 h1
def Tryz.lays317_ren : Go.Shelf.Ren := ⟨fun | 317 => 147 | n => n, fun | 3 => 3 | 46 => 110 | n => n, fun | n => n⟩
theorem Tryz.lays317 : Go.Proofs.Lays.n317 Tryz.prog Tryz.lays317_ren := {
  mixed := by kernel_rfl
  f317 := Tryz.func147.trans (congrArg some (by kernel_rfl))
  t3 := Tryz.underlying3
  a3 := Tryz.isAgg3
  z3 := Tryz.sizeOf3
  v3 := Tryz.zeroValue3
  t46 := Tryz.underlying110
  a46 := Tryz.isAgg110
  z46 := Tryz.sizeOf110
  v46 := Tryz.zeroValue110 }
open Go.Lib in
/-- internal/strconv.log10Pow2: "log10Pow2(x) returns ⌊log₁₀ 2**x⌋ = ⌊x * log₁₀ 2⌋.": '(x * 78913) >> 18', at an x up to 64 (a length in bits). The world is as it was. (LAID: no walk: one application.) -/
theorem Tryz.internal_strconv_log10Pow2 (x : Nat) (h : x ≤ 64) (w : World) :
    Calls Tryz.prog 147 #[.int .i64 x] w fun e w' => e = .returned (.int .i64 (Lib.l10 x)) ∧ w' = w := Any.internal_strconv_log10Pow2 Tryz.lays317 x h w
def Tryz.lays318_ren : Go.Shelf.Ren := ⟨fun | 318 => 148 | n => n, fun | 3 => 3 | 4 => 4 | n => n, fun | n => n⟩
theorem Tryz.lays318 : Go.Proofs.Lays.n318 Tryz.prog Tryz.lays318_ren := {
  mixed := by kernel_rfl
  f318 := Tryz.func148.trans (congrArg some (by kernel_rfl))
  t3 := Tryz.underlying3
  a3 := Tryz.isAgg3
  z3 := Tryz.sizeOf3
  v3 := Tryz.zeroValue3
  t4 := Tryz.underlying4
  a4 := Tryz.isAgg4
  z4 := Tryz.sizeOf4
  v4 := Tryz.zeroValue4 }
open Go.Lib in
/-- internal/strconv.bool2: "bool2 converts b to an integer: 1 for true, 0 for false." The world is as it was. (LAID: no walk: one application.) -/
theorem Tryz.internal_strconv_bool2_int (b : Bool) (w : World) :
    Calls Tryz.prog 148 #[.bool b] w fun e w' => e = .returned (.int .i64 (if b then 1 else 0)) ∧ w' = w := Any.internal_strconv_bool2_int Tryz.lays318 b w
def Tryz.lays283_ren : Go.Shelf.Ren := ⟨fun | 283 => 138 | n => n, fun | 3 => 3 | 9 => 9 | 4 => 4 | n => n, fun | n => n⟩
theorem Tryz.lays283 : Go.Proofs.Lays.n283 Tryz.prog Tryz.lays283_ren := {
  mixed := by kernel_rfl
  f283 := Tryz.func138.trans (congrArg some (by kernel_rfl))
  t3 := Tryz.underlying3
  a3 := Tryz.isAgg3
  z3 := Tryz.sizeOf3
  v3 := Tryz.zeroValue3
  t4 := Tryz.underlying4
  a4 := Tryz.isAgg4
  z4 := Tryz.sizeOf4
  v4 := Tryz.zeroValue4
  t9 := Tryz.underlying9
  a9 := Tryz.isAgg9
  z9 := Tryz.sizeOf9
  v9 := Tryz.zeroValue9 }
open Go.Lib in
/-- internal/strconv.small: "small returns the string for an i with 0 <= i < nSmalls.": i's decimal numeral. The world is as it was. (LAID: no walk: one application.) -/
theorem Tryz.internal_strconv_small (i : Nat) (h : i < 100) (w : World) :
    Calls Tryz.prog 138 #[.int .i64 i] w fun e w' => e = .returned (.string ⟨(Lib.decDigits i).toArray⟩) ∧ w' = w := Any.internal_strconv_small Tryz.lays283 i h w
def Tryz.laysM284_ren : Go.Shelf.Ren := ⟨fun | 284 => 139 | 129 => 101 | 317 => 147 | 318 => 148 | n => n, fun | 53 => 142 | 3 => 3 | 212 => 179 | 0 => 0 | 4 => 4 | 46 => 110 | 5 => 5 | 9 => 9 | n => n, fun | 17 => 1 | n => n⟩
theorem Tryz.laysM284 : Go.Proofs.LaysM.n284 Tryz.prog Tryz.laysM284_ren := {
  mixed := by kernel_rfl
  f129 := Tryz.func101.trans (congrArg some (by kernel_rfl))
  f284 := Tryz.func139.trans (congrArg some (by kernel_rfl))
  f317 := Tryz.func147.trans (congrArg some (by kernel_rfl))
  f318 := Tryz.func148.trans (congrArg some (by kernel_rfl))
  t0 := Tryz.underlying0
  a0 := Tryz.isAgg0
  z0 := Tryz.sizeOf0
  v0 := Tryz.zeroValue0
  t3 := Tryz.underlying3
  a3 := Tryz.isAgg3
  z3 := Tryz.sizeOf3
  v3 := Tryz.zeroValue3
  t4 := Tryz.underlying4
  a4 := Tryz.isAgg4
  z4 := Tryz.sizeOf4
  v4 := Tryz.zeroValue4
  t5 := Tryz.underlying5
  a5 := Tryz.isAgg5
  z5 := Tryz.sizeOf5
  v5 := Tryz.zeroValue5
  t9 := Tryz.underlying9
  a9 := Tryz.isAgg9
  z9 := Tryz.sizeOf9
  v9 := Tryz.zeroValue9
  t46 := Tryz.underlying110
  a46 := Tryz.isAgg110
  z46 := Tryz.sizeOf110
  v46 := Tryz.zeroValue110
  t53 := Tryz.underlying142
  a53 := Tryz.isAgg142
  z53 := Tryz.sizeOf142
  v53 := Tryz.zeroValue142
  t212 := Tryz.underlying179
  a212 := Tryz.isAgg179
  z212 := Tryz.sizeOf179
  v212 := Tryz.zeroValue179
  g17 := by kernel_rfl
  i0 := by kernel_rfl
  i3 := by kernel_rfl
  i4 := by kernel_rfl
  i5 := by kernel_rfl
  i9 := by kernel_rfl
  i46 := by kernel_rfl
  i53 := by kernel_rfl
  i212 := by kernel_rfl
  m17 := by kernel_rfl }
open Go.Lib in
/-- internal/strconv.numDigits, at a d that is not 0: THE NUMBER OF d's DECIMAL DIGITS. The world is as it was. (LAID: no walk: one application.) -/
theorem Tryz.internal_strconv_numDigits (u : Nat) (h1 : 1 ≤ u) (h2 : u < 18446744073709551616) (w : World) (htab : Lib.TabIs Tryz.prog w "internal/strconv.uint64pow10" .u64 Lib.pow10Tab) :
    Calls Tryz.prog 139 #[.int .u64 u] w fun e w' => e = .returned (.int .i64 (Lib.nDigits u)) ∧ w' = w := Any.internal_strconv_numDigits Tryz.laysM284 u h1 h2 w htab
def Tryz.lays285_ren : Go.Shelf.Ren := ⟨fun | 285 => 140 | n => n, fun | 37 => 55 | 53 => 142 | 3 => 3 | 4 => 4 | 51 => 140 | 9 => 9 | 5 => 5 | 0 => 0 | n => n, fun | n => n⟩
theorem Tryz.lays285 : Go.Proofs.Lays.n285 Tryz.prog Tryz.lays285_ren := {
  mixed := by kernel_rfl
  f285 := Tryz.func140.trans (congrArg some (by kernel_rfl))
  t0 := Tryz.underlying0
  a0 := Tryz.isAgg0
  z0 := Tryz.sizeOf0
  v0 := Tryz.zeroValue0
  t3 := Tryz.underlying3
  a3 := Tryz.isAgg3
  z3 := Tryz.sizeOf3
  v3 := Tryz.zeroValue3
  t4 := Tryz.underlying4
  a4 := Tryz.isAgg4
  z4 := Tryz.sizeOf4
  v4 := Tryz.zeroValue4
  t5 := Tryz.underlying5
  a5 := Tryz.isAgg5
  z5 := Tryz.sizeOf5
  v5 := Tryz.zeroValue5
  t9 := Tryz.underlying9
  a9 := Tryz.isAgg9
  z9 := Tryz.sizeOf9
  v9 := Tryz.zeroValue9
  t37 := Tryz.underlying55
  a37 := Tryz.isAgg55
  z37 := Tryz.sizeOf55
  v37 := Tryz.zeroValue55
  t51 := Tryz.underlying140
  a51 := Tryz.isAgg140
  z51 := Tryz.sizeOf140
  v51 := Tryz.zeroValue140
  t53 := Tryz.underlying142
  a53 := Tryz.isAgg142
  z53 := Tryz.sizeOf142
  v53 := Tryz.zeroValue142 }
open Go.RowKit Go.Sort Go.Lib in
/-- internal/strconv.formatBase10: "formatBase10 formats the decimal representation of u into a. The caller is responsible for ensuring that a is big enough to hold u. If a is too big, leading zeros will be filled in as needed.": THE ROW HOLDS u's DIGITS ('FmtInv .. 0 ..': every place t holds 'dg u (len - 1 - t)'); all else is as it was but for the count of draws. (LAID: no walk: one application.) -/
theorem Tryz.internal_strconv_formatBase10 (blk off cap : Nat) (u : Nat) (d : Array UInt8) (w : World) (hH : Holds (fun (b : UInt8) => Value.int .u8 (b.toNat : Int)) w blk off d) (hu : u < 10 ^ d.size) (hu64 : u < 18446744073709551616) (hsz : d.size < 4611686018427387904) :
    Calls Tryz.prog 140 #[.slice (some ⟨blk, off, none⟩) d.size cap, .int .u64 u] w fun e w' =>
      e = .returned (.tuple #[]) ∧ ∃ (n v' : Nat) (dk : Array UInt8), w' = (putRow (fun (b : UInt8) => Value.int .u8 (b.toNat : Int)) w blk off dk).drewN n ∧ FmtInv d.size u 0 v' dk := Any.internal_strconv_formatBase10 Tryz.lays285 blk off cap u d w hH hu hu64 hsz
def Tryz.laysM246_ren : Go.Shelf.Ren := ⟨fun | 246 => 131 | 283 => 138 | 284 => 139 | 285 => 140 | 286 => 141 | 129 => 101 | 317 => 147 | 318 => 148 | 319 => 149 | 320 => 150 | 337 => 151 | 338 => 152 | n => n, fun | 2 => 2 | 3 => 3 | 9 => 9 | 4 => 4 | 171 => 172 | 0 => 0 | 53 => 142 | 37 => 55 | 5 => 5 | 173 => 174 | 212 => 179 | 51 => 140 | 20 => 20 | 213 => 180 | 46 => 110 | 232 => 186 | 233 => 187 | n => n, fun | 17 => 1 | 18 => 4 | 19 => 5 | n => n⟩
theorem Tryz.laysM246 : Go.Proofs.LaysM.n246 Tryz.prog Tryz.laysM246_ren := {
  mixed := by kernel_rfl
  f129 := Tryz.func101.trans (congrArg some (by kernel_rfl))
  f246 := Tryz.func131.trans (congrArg some (by kernel_rfl))
  f283 := Tryz.func138.trans (congrArg some (by kernel_rfl))
  f284 := Tryz.func139.trans (congrArg some (by kernel_rfl))
  f285 := Tryz.func140.trans (congrArg some (by kernel_rfl))
  f286 := Tryz.func141.trans (congrArg some (by kernel_rfl))
  f317 := Tryz.func147.trans (congrArg some (by kernel_rfl))
  f318 := Tryz.func148.trans (congrArg some (by kernel_rfl))
  f319 := Tryz.func149.trans (congrArg some (by kernel_rfl))
  f320 := Tryz.func150.trans (congrArg some (by kernel_rfl))
  f337 := Tryz.func151.trans (congrArg some (by kernel_rfl))
  f338 := Tryz.func152.trans (congrArg some (by kernel_rfl))
  t0 := Tryz.underlying0
  a0 := Tryz.isAgg0
  z0 := Tryz.sizeOf0
  v0 := Tryz.zeroValue0
  t2 := Tryz.underlying2
  a2 := Tryz.isAgg2
  z2 := Tryz.sizeOf2
  v2 := Tryz.zeroValue2
  t3 := Tryz.underlying3
  a3 := Tryz.isAgg3
  z3 := Tryz.sizeOf3
  v3 := Tryz.zeroValue3
  t4 := Tryz.underlying4
  a4 := Tryz.isAgg4
  z4 := Tryz.sizeOf4
  v4 := Tryz.zeroValue4
  t5 := Tryz.underlying5
  a5 := Tryz.isAgg5
  z5 := Tryz.sizeOf5
  v5 := Tryz.zeroValue5
  t9 := Tryz.underlying9
  a9 := Tryz.isAgg9
  z9 := Tryz.sizeOf9
  v9 := Tryz.zeroValue9
  t20 := Tryz.underlying20
  a20 := Tryz.isAgg20
  z20 := Tryz.sizeOf20
  v20 := Tryz.zeroValue20
  t37 := Tryz.underlying55
  a37 := Tryz.isAgg55
  z37 := Tryz.sizeOf55
  v37 := Tryz.zeroValue55
  t46 := Tryz.underlying110
  a46 := Tryz.isAgg110
  z46 := Tryz.sizeOf110
  v46 := Tryz.zeroValue110
  t51 := Tryz.underlying140
  a51 := Tryz.isAgg140
  z51 := Tryz.sizeOf140
  v51 := Tryz.zeroValue140
  t53 := Tryz.underlying142
  a53 := Tryz.isAgg142
  z53 := Tryz.sizeOf142
  v53 := Tryz.zeroValue142
  t171 := Tryz.underlying172
  a171 := Tryz.isAgg172
  z171 := Tryz.sizeOf172
  v171 := Tryz.zeroValue172
  t173 := Tryz.underlying174
  a173 := Tryz.isAgg174
  z173 := Tryz.sizeOf174
  v173 := Tryz.zeroValue174
  t212 := Tryz.underlying179
  a212 := Tryz.isAgg179
  z212 := Tryz.sizeOf179
  v212 := Tryz.zeroValue179
  t213 := Tryz.underlying180
  a213 := Tryz.isAgg180
  z213 := Tryz.sizeOf180
  t232 := Tryz.underlying186
  a232 := Tryz.isAgg186
  z232 := Tryz.sizeOf186
  v232 := Tryz.zeroValue186
  t233 := Tryz.underlying187
  a233 := Tryz.isAgg187
  z233 := Tryz.sizeOf187
  v233 := Tryz.zeroValue187
  g17 := by kernel_rfl
  g18 := by kernel_rfl
  g19 := by kernel_rfl
  i0 := by kernel_rfl
  i2 := by kernel_rfl
  i3 := by kernel_rfl
  i4 := by kernel_rfl
  i5 := by kernel_rfl
  i9 := by kernel_rfl
  i20 := by kernel_rfl
  i37 := by kernel_rfl
  i46 := by kernel_rfl
  i51 := by kernel_rfl
  i53 := by kernel_rfl
  i171 := by kernel_rfl
  i173 := by kernel_rfl
  i212 := by kernel_rfl
  i232 := by kernel_rfl
  i233 := by kernel_rfl
  m17 := by kernel_rfl
  m18 := by kernel_rfl
  m19 := by kernel_rfl }
open Go.RowKit Go.Sort Go.Lib in
/-- internal/strconv.FormatInt: "FormatInt returns the string representation of i in the given base": AT BASE 10: i's decimal numeral, for every int64. The world behind the call: the world before it, new blocks behind the heap, draws. (LAID: no walk: one application.) -/
theorem Tryz.internal_strconv_FormatInt_10 (n : Int) (h0 : -9223372036854775808 ≤ n) (h1 : n ≤ 9223372036854775807) (w : World) (htab : Lib.TabIs Tryz.prog w "internal/strconv.uint64pow10" .u64 Lib.pow10Tab) :
    Calls Tryz.prog 131 #[.int .i64 n, .int .i64 10] w fun e w' => e = .returned (.string ⟨(Lib.itoa n).toArray⟩) ∧ ∃ k os, w' = grow (w.drewN k) os := Any.internal_strconv_FormatInt_10 Tryz.laysM246 n h0 h1 w htab
def Tryz.lays246_ren : Go.Shelf.Ren := ⟨fun | 246 => 131 | 283 => 138 | 284 => 139 | 285 => 140 | 286 => 141 | 129 => 101 | 317 => 147 | 318 => 148 | 319 => 149 | 320 => 150 | 337 => 151 | 338 => 152 | n => n, fun | 2 => 2 | 3 => 3 | 9 => 9 | 4 => 4 | 171 => 172 | 0 => 0 | 53 => 142 | 37 => 55 | 5 => 5 | 173 => 174 | 212 => 179 | 51 => 140 | 20 => 20 | 213 => 180 | 46 => 110 | 232 => 186 | 233 => 187 | n => n, fun | 17 => 1 | 18 => 4 | 19 => 5 | n => n⟩
theorem Tryz.lays246 : Go.Proofs.Lays.n246 Tryz.prog Tryz.lays246_ren := {
  mixed := by kernel_rfl
  f129 := Tryz.func101.trans (congrArg some (by kernel_rfl))
  f246 := Tryz.func131.trans (congrArg some (by kernel_rfl))
  f283 := Tryz.func138.trans (congrArg some (by kernel_rfl))
  f284 := Tryz.func139.trans (congrArg some (by kernel_rfl))
  f285 := Tryz.func140.trans (congrArg some (by kernel_rfl))
  f286 := Tryz.func141.trans (congrArg some (by kernel_rfl))
  f317 := Tryz.func147.trans (congrArg some (by kernel_rfl))
  f318 := Tryz.func148.trans (congrArg some (by kernel_rfl))
  f319 := Tryz.func149.trans (congrArg some (by kernel_rfl))
  f320 := Tryz.func150.trans (congrArg some (by kernel_rfl))
  f337 := Tryz.func151.trans (congrArg some (by kernel_rfl))
  f338 := Tryz.func152.trans (congrArg some (by kernel_rfl))
  t0 := Tryz.underlying0
  a0 := Tryz.isAgg0
  z0 := Tryz.sizeOf0
  v0 := Tryz.zeroValue0
  t2 := Tryz.underlying2
  a2 := Tryz.isAgg2
  z2 := Tryz.sizeOf2
  v2 := Tryz.zeroValue2
  t3 := Tryz.underlying3
  a3 := Tryz.isAgg3
  z3 := Tryz.sizeOf3
  v3 := Tryz.zeroValue3
  t4 := Tryz.underlying4
  a4 := Tryz.isAgg4
  z4 := Tryz.sizeOf4
  v4 := Tryz.zeroValue4
  t5 := Tryz.underlying5
  a5 := Tryz.isAgg5
  z5 := Tryz.sizeOf5
  v5 := Tryz.zeroValue5
  t9 := Tryz.underlying9
  a9 := Tryz.isAgg9
  z9 := Tryz.sizeOf9
  v9 := Tryz.zeroValue9
  t20 := Tryz.underlying20
  a20 := Tryz.isAgg20
  z20 := Tryz.sizeOf20
  v20 := Tryz.zeroValue20
  t37 := Tryz.underlying55
  a37 := Tryz.isAgg55
  z37 := Tryz.sizeOf55
  v37 := Tryz.zeroValue55
  t46 := Tryz.underlying110
  a46 := Tryz.isAgg110
  z46 := Tryz.sizeOf110
  v46 := Tryz.zeroValue110
  t51 := Tryz.underlying140
  a51 := Tryz.isAgg140
  z51 := Tryz.sizeOf140
  v51 := Tryz.zeroValue140
  t53 := Tryz.underlying142
  a53 := Tryz.isAgg142
  z53 := Tryz.sizeOf142
  v53 := Tryz.zeroValue142
  t171 := Tryz.underlying172
  a171 := Tryz.isAgg172
  z171 := Tryz.sizeOf172
  v171 := Tryz.zeroValue172
  t173 := Tryz.underlying174
  a173 := Tryz.isAgg174
  z173 := Tryz.sizeOf174
  v173 := Tryz.zeroValue174
  t212 := Tryz.underlying179
  a212 := Tryz.isAgg179
  z212 := Tryz.sizeOf179
  v212 := Tryz.zeroValue179
  t213 := Tryz.underlying180
  a213 := Tryz.isAgg180
  z213 := Tryz.sizeOf180
  t232 := Tryz.underlying186
  a232 := Tryz.isAgg186
  z232 := Tryz.sizeOf186
  v232 := Tryz.zeroValue186
  t233 := Tryz.underlying187
  a233 := Tryz.isAgg187
  z233 := Tryz.sizeOf187
  v233 := Tryz.zeroValue187
  g17 := by kernel_rfl
  g18 := by kernel_rfl
  g19 := by kernel_rfl }
open Go.RowKit Go.Sort Go.Lib in
/-- THE ROAD WITHOUT THE TABLE: 0 <= i < 100: two constants are read, nothing is laid: no premise on the world, and the world is as it was. (LAID: no walk: one application.) -/
theorem Tryz.internal_strconv_FormatInt_10_small (i : Nat) (hi : i < 100) (w : World) :
    Calls Tryz.prog 131 #[.int .i64 i, .int .i64 10] w fun e w' => e = .returned (.string ⟨(Lib.decDigits i).toArray⟩) ∧ w' = w := Any.internal_strconv_FormatInt_10_small Tryz.lays246 i hi w
def Tryz.laysM243_ren : Go.Shelf.Ren := ⟨fun | 243 => 108 | 246 => 131 | 283 => 138 | 284 => 139 | 285 => 140 | 286 => 141 | 129 => 101 | 317 => 147 | 318 => 148 | 319 => 149 | 320 => 150 | 337 => 151 | 338 => 152 | n => n, fun | 3 => 3 | 9 => 9 | 2 => 2 | 4 => 4 | 171 => 172 | 0 => 0 | 53 => 142 | 37 => 55 | 5 => 5 | 173 => 174 | 212 => 179 | 51 => 140 | 20 => 20 | 213 => 180 | 46 => 110 | 232 => 186 | 233 => 187 | n => n, fun | 17 => 1 | 18 => 4 | 19 => 5 | n => n⟩
theorem Tryz.laysM243 : Go.Proofs.LaysM.n243 Tryz.prog Tryz.laysM243_ren := {
  mixed := by kernel_rfl
  f129 := Tryz.func101.trans (congrArg some (by kernel_rfl))
  f243 := Tryz.func108.trans (congrArg some (by kernel_rfl))
  f246 := Tryz.func131.trans (congrArg some (by kernel_rfl))
  f283 := Tryz.func138.trans (congrArg some (by kernel_rfl))
  f284 := Tryz.func139.trans (congrArg some (by kernel_rfl))
  f285 := Tryz.func140.trans (congrArg some (by kernel_rfl))
  f286 := Tryz.func141.trans (congrArg some (by kernel_rfl))
  f317 := Tryz.func147.trans (congrArg some (by kernel_rfl))
  f318 := Tryz.func148.trans (congrArg some (by kernel_rfl))
  f319 := Tryz.func149.trans (congrArg some (by kernel_rfl))
  f320 := Tryz.func150.trans (congrArg some (by kernel_rfl))
  f337 := Tryz.func151.trans (congrArg some (by kernel_rfl))
  f338 := Tryz.func152.trans (congrArg some (by kernel_rfl))
  t0 := Tryz.underlying0
  a0 := Tryz.isAgg0
  z0 := Tryz.sizeOf0
  v0 := Tryz.zeroValue0
  t2 := Tryz.underlying2
  a2 := Tryz.isAgg2
  z2 := Tryz.sizeOf2
  v2 := Tryz.zeroValue2
  t3 := Tryz.underlying3
  a3 := Tryz.isAgg3
  z3 := Tryz.sizeOf3
  v3 := Tryz.zeroValue3
  t4 := Tryz.underlying4
  a4 := Tryz.isAgg4
  z4 := Tryz.sizeOf4
  v4 := Tryz.zeroValue4
  t5 := Tryz.underlying5
  a5 := Tryz.isAgg5
  z5 := Tryz.sizeOf5
  v5 := Tryz.zeroValue5
  t9 := Tryz.underlying9
  a9 := Tryz.isAgg9
  z9 := Tryz.sizeOf9
  v9 := Tryz.zeroValue9
  t20 := Tryz.underlying20
  a20 := Tryz.isAgg20
  z20 := Tryz.sizeOf20
  v20 := Tryz.zeroValue20
  t37 := Tryz.underlying55
  a37 := Tryz.isAgg55
  z37 := Tryz.sizeOf55
  v37 := Tryz.zeroValue55
  t46 := Tryz.underlying110
  a46 := Tryz.isAgg110
  z46 := Tryz.sizeOf110
  v46 := Tryz.zeroValue110
  t51 := Tryz.underlying140
  a51 := Tryz.isAgg140
  z51 := Tryz.sizeOf140
  v51 := Tryz.zeroValue140
  t53 := Tryz.underlying142
  a53 := Tryz.isAgg142
  z53 := Tryz.sizeOf142
  v53 := Tryz.zeroValue142
  t171 := Tryz.underlying172
  a171 := Tryz.isAgg172
  z171 := Tryz.sizeOf172
  v171 := Tryz.zeroValue172
  t173 := Tryz.underlying174
  a173 := Tryz.isAgg174
  z173 := Tryz.sizeOf174
  v173 := Tryz.zeroValue174
  t212 := Tryz.underlying179
  a212 := Tryz.isAgg179
  z212 := Tryz.sizeOf179
  v212 := Tryz.zeroValue179
  t213 := Tryz.underlying180
  a213 := Tryz.isAgg180
  z213 := Tryz.sizeOf180
  t232 := Tryz.underlying186
  a232 := Tryz.isAgg186
  z232 := Tryz.sizeOf186
  v232 := Tryz.zeroValue186
  t233 := Tryz.underlying187
  a233 := Tryz.isAgg187
  z233 := Tryz.sizeOf187
  v233 := Tryz.zeroValue187
  g17 := by kernel_rfl
  g18 := by kernel_rfl
  g19 := by kernel_rfl
  i0 := by kernel_rfl
  i2 := by kernel_rfl
  i3 := by kernel_rfl
  i4 := by kernel_rfl
  i5 := by kernel_rfl
  i9 := by kernel_rfl
  i20 := by kernel_rfl
  i37 := by kernel_rfl
  i46 := by kernel_rfl
  i51 := by kernel_rfl
  i53 := by kernel_rfl
  i171 := by kernel_rfl
  i173 := by kernel_rfl
  i212 := by kernel_rfl
  i232 := by kernel_rfl
  i233 := by kernel_rfl
  m17 := by kernel_rfl
  m18 := by kernel_rfl
  m19 := by kernel_rfl }
open Go.RowKit Go.Sort Go.Lib in
/-- internal/strconv.Itoa: "Itoa is equivalent to FormatInt(int64(i), 10).": i's decimal numeral, for every int. (LAID: no walk: one application.) -/
theorem Tryz.internal_strconv_Itoa (n : Int) (h0 : -9223372036854775808 ≤ n) (h1 : n ≤ 9223372036854775807) (w : World) (htab : Lib.TabIs Tryz.prog w "internal/strconv.uint64pow10" .u64 Lib.pow10Tab) :
    Calls Tryz.prog 108 #[.int .i64 n] w fun e w' => e = .returned (.string ⟨(Lib.itoa n).toArray⟩) ∧ ∃ k os, w' = grow (w.drewN k) os := Any.internal_strconv_Itoa Tryz.laysM243 n h0 h1 w htab
def Tryz.lays243_ren : Go.Shelf.Ren := ⟨fun | 243 => 108 | 246 => 131 | 283 => 138 | 284 => 139 | 285 => 140 | 286 => 141 | 129 => 101 | 317 => 147 | 318 => 148 | 319 => 149 | 320 => 150 | 337 => 151 | 338 => 152 | n => n, fun | 3 => 3 | 9 => 9 | 2 => 2 | 4 => 4 | 171 => 172 | 0 => 0 | 53 => 142 | 37 => 55 | 5 => 5 | 173 => 174 | 212 => 179 | 51 => 140 | 20 => 20 | 213 => 180 | 46 => 110 | 232 => 186 | 233 => 187 | n => n, fun | 17 => 1 | 18 => 4 | 19 => 5 | n => n⟩
theorem Tryz.lays243 : Go.Proofs.Lays.n243 Tryz.prog Tryz.lays243_ren := {
  mixed := by kernel_rfl
  f129 := Tryz.func101.trans (congrArg some (by kernel_rfl))
  f243 := Tryz.func108.trans (congrArg some (by kernel_rfl))
  f246 := Tryz.func131.trans (congrArg some (by kernel_rfl))
  f283 := Tryz.func138.trans (congrArg some (by kernel_rfl))
  f284 := Tryz.func139.trans (congrArg some (by kernel_rfl))
  f285 := Tryz.func140.trans (congrArg some (by kernel_rfl))
  f286 := Tryz.func141.trans (congrArg some (by kernel_rfl))
  f317 := Tryz.func147.trans (congrArg some (by kernel_rfl))
  f318 := Tryz.func148.trans (congrArg some (by kernel_rfl))
  f319 := Tryz.func149.trans (congrArg some (by kernel_rfl))
  f320 := Tryz.func150.trans (congrArg some (by kernel_rfl))
  f337 := Tryz.func151.trans (congrArg some (by kernel_rfl))
  f338 := Tryz.func152.trans (congrArg some (by kernel_rfl))
  t0 := Tryz.underlying0
  a0 := Tryz.isAgg0
  z0 := Tryz.sizeOf0
  v0 := Tryz.zeroValue0
  t2 := Tryz.underlying2
  a2 := Tryz.isAgg2
  z2 := Tryz.sizeOf2
  v2 := Tryz.zeroValue2
  t3 := Tryz.underlying3
  a3 := Tryz.isAgg3
  z3 := Tryz.sizeOf3
  v3 := Tryz.zeroValue3
  t4 := Tryz.underlying4
  a4 := Tryz.isAgg4
  z4 := Tryz.sizeOf4
  v4 := Tryz.zeroValue4
  t5 := Tryz.underlying5
  a5 := Tryz.isAgg5
  z5 := Tryz.sizeOf5
  v5 := Tryz.zeroValue5
  t9 := Tryz.underlying9
  a9 := Tryz.isAgg9
  z9 := Tryz.sizeOf9
  v9 := Tryz.zeroValue9
  t20 := Tryz.underlying20
  a20 := Tryz.isAgg20
  z20 := Tryz.sizeOf20
  v20 := Tryz.zeroValue20
  t37 := Tryz.underlying55
  a37 := Tryz.isAgg55
  z37 := Tryz.sizeOf55
  v37 := Tryz.zeroValue55
  t46 := Tryz.underlying110
  a46 := Tryz.isAgg110
  z46 := Tryz.sizeOf110
  v46 := Tryz.zeroValue110
  t51 := Tryz.underlying140
  a51 := Tryz.isAgg140
  z51 := Tryz.sizeOf140
  v51 := Tryz.zeroValue140
  t53 := Tryz.underlying142
  a53 := Tryz.isAgg142
  z53 := Tryz.sizeOf142
  v53 := Tryz.zeroValue142
  t171 := Tryz.underlying172
  a171 := Tryz.isAgg172
  z171 := Tryz.sizeOf172
  v171 := Tryz.zeroValue172
  t173 := Tryz.underlying174
  a173 := Tryz.isAgg174
  z173 := Tryz.sizeOf174
  v173 := Tryz.zeroValue174
  t212 := Tryz.underlying179
  a212 := Tryz.isAgg179
  z212 := Tryz.sizeOf179
  v212 := Tryz.zeroValue179
  t213 := Tryz.underlying180
  a213 := Tryz.isAgg180
  z213 := Tryz.sizeOf180
  t232 := Tryz.underlying186
  a232 := Tryz.isAgg186
  z232 := Tryz.sizeOf186
  v232 := Tryz.zeroValue186
  t233 := Tryz.underlying187
  a233 := Tryz.isAgg187
  z233 := Tryz.sizeOf187
  v233 := Tryz.zeroValue187
  g17 := by kernel_rfl
  g18 := by kernel_rfl
  g19 := by kernel_rfl }
open Go.RowKit Go.Sort Go.Lib in
/-- THE ROAD WITHOUT THE TABLE: 0 <= i < 100. (LAID: no walk: one application.) -/
theorem Tryz.internal_strconv_Itoa_small (i : Nat) (hi : i < 100) (w : World) :
    Calls Tryz.prog 108 #[.int .i64 i] w fun e w' => e = .returned (.string ⟨(Lib.decDigits i).toArray⟩) ∧ w' = w := Any.internal_strconv_Itoa_small Tryz.lays243 i hi w
def Tryz.laysM171_ren : Go.Shelf.Ren := ⟨fun | 171 => 77 | 243 => 108 | 246 => 131 | 283 => 138 | 284 => 139 | 285 => 140 | 286 => 141 | 129 => 101 | 317 => 147 | 318 => 148 | 319 => 149 | 320 => 150 | 337 => 151 | 338 => 152 | n => n, fun | 3 => 3 | 9 => 9 | 2 => 2 | 4 => 4 | 171 => 172 | 0 => 0 | 53 => 142 | 37 => 55 | 5 => 5 | 173 => 174 | 212 => 179 | 51 => 140 | 20 => 20 | 213 => 180 | 46 => 110 | 232 => 186 | 233 => 187 | n => n, fun | 17 => 1 | 18 => 4 | 19 => 5 | n => n⟩
theorem Tryz.laysM171 : Go.Proofs.LaysM.n171 Tryz.prog Tryz.laysM171_ren := {
  mixed := by kernel_rfl
  f129 := Tryz.func101.trans (congrArg some (by kernel_rfl))
  f171 := Tryz.func77.trans (congrArg some (by kernel_rfl))
  f243 := Tryz.func108.trans (congrArg some (by kernel_rfl))
  f246 := Tryz.func131.trans (congrArg some (by kernel_rfl))
  f283 := Tryz.func138.trans (congrArg some (by kernel_rfl))
  f284 := Tryz.func139.trans (congrArg some (by kernel_rfl))
  f285 := Tryz.func140.trans (congrArg some (by kernel_rfl))
  f286 := Tryz.func141.trans (congrArg some (by kernel_rfl))
  f317 := Tryz.func147.trans (congrArg some (by kernel_rfl))
  f318 := Tryz.func148.trans (congrArg some (by kernel_rfl))
  f319 := Tryz.func149.trans (congrArg some (by kernel_rfl))
  f320 := Tryz.func150.trans (congrArg some (by kernel_rfl))
  f337 := Tryz.func151.trans (congrArg some (by kernel_rfl))
  f338 := Tryz.func152.trans (congrArg some (by kernel_rfl))
  t0 := Tryz.underlying0
  a0 := Tryz.isAgg0
  z0 := Tryz.sizeOf0
  v0 := Tryz.zeroValue0
  t2 := Tryz.underlying2
  a2 := Tryz.isAgg2
  z2 := Tryz.sizeOf2
  v2 := Tryz.zeroValue2
  t3 := Tryz.underlying3
  a3 := Tryz.isAgg3
  z3 := Tryz.sizeOf3
  v3 := Tryz.zeroValue3
  t4 := Tryz.underlying4
  a4 := Tryz.isAgg4
  z4 := Tryz.sizeOf4
  v4 := Tryz.zeroValue4
  t5 := Tryz.underlying5
  a5 := Tryz.isAgg5
  z5 := Tryz.sizeOf5
  v5 := Tryz.zeroValue5
  t9 := Tryz.underlying9
  a9 := Tryz.isAgg9
  z9 := Tryz.sizeOf9
  v9 := Tryz.zeroValue9
  t20 := Tryz.underlying20
  a20 := Tryz.isAgg20
  z20 := Tryz.sizeOf20
  v20 := Tryz.zeroValue20
  t37 := Tryz.underlying55
  a37 := Tryz.isAgg55
  z37 := Tryz.sizeOf55
  v37 := Tryz.zeroValue55
  t46 := Tryz.underlying110
  a46 := Tryz.isAgg110
  z46 := Tryz.sizeOf110
  v46 := Tryz.zeroValue110
  t51 := Tryz.underlying140
  a51 := Tryz.isAgg140
  z51 := Tryz.sizeOf140
  v51 := Tryz.zeroValue140
  t53 := Tryz.underlying142
  a53 := Tryz.isAgg142
  z53 := Tryz.sizeOf142
  v53 := Tryz.zeroValue142
  t171 := Tryz.underlying172
  a171 := Tryz.isAgg172
  z171 := Tryz.sizeOf172
  v171 := Tryz.zeroValue172
  t173 := Tryz.underlying174
  a173 := Tryz.isAgg174
  z173 := Tryz.sizeOf174
  v173 := Tryz.zeroValue174
  t212 := Tryz.underlying179
  a212 := Tryz.isAgg179
  z212 := Tryz.sizeOf179
  v212 := Tryz.zeroValue179
  t213 := Tryz.underlying180
  a213 := Tryz.isAgg180
  z213 := Tryz.sizeOf180
  t232 := Tryz.underlying186
  a232 := Tryz.isAgg186
  z232 := Tryz.sizeOf186
  v232 := Tryz.zeroValue186
  t233 := Tryz.underlying187
  a233 := Tryz.isAgg187
  z233 := Tryz.sizeOf187
  v233 := Tryz.zeroValue187
  g17 := by kernel_rfl
  g18 := by kernel_rfl
  g19 := by kernel_rfl
  i0 := by kernel_rfl
  i2 := by kernel_rfl
  i3 := by kernel_rfl
  i4 := by kernel_rfl
  i5 := by kernel_rfl
  i9 := by kernel_rfl
  i20 := by kernel_rfl
  i37 := by kernel_rfl
  i46 := by kernel_rfl
  i51 := by kernel_rfl
  i53 := by kernel_rfl
  i171 := by kernel_rfl
  i173 := by kernel_rfl
  i212 := by kernel_rfl
  i232 := by kernel_rfl
  i233 := by kernel_rfl
  m17 := by kernel_rfl
  m18 := by kernel_rfl
  m19 := by kernel_rfl }
open Go.RowKit Go.Sort Go.Lib in
/-- strconv.Itoa: "Itoa is equivalent to FormatInt(int64(i), 10).": i's DECIMAL NUMERAL ('Lib.itoa': a '-' where i is negative, then the digits), FOR EVERY int. The world behind the call: the world before it, new blocks behind the heap (the library's 'var a [24]byte'), draws. (LAID: no walk: one application.) -/
theorem Tryz.strconv_Itoa (n : Int) (h0 : -9223372036854775808 ≤ n) (h1 : n ≤ 9223372036854775807) (w : World) (htab : Lib.TabIs Tryz.prog w "internal/strconv.uint64pow10" .u64 Lib.pow10Tab) :
    Calls Tryz.prog 77 #[.int .i64 n] w fun e w' => e = .returned (.string ⟨(Lib.itoa n).toArray⟩) ∧ ∃ k os, w' = grow (w.drewN k) os := Any.strconv_Itoa Tryz.laysM171 n h0 h1 w htab
def Tryz.lays171_ren : Go.Shelf.Ren := ⟨fun | 171 => 77 | 243 => 108 | 246 => 131 | 283 => 138 | 284 => 139 | 285 => 140 | 286 => 141 | 129 => 101 | 317 => 147 | 318 => 148 | 319 => 149 | 320 => 150 | 337 => 151 | 338 => 152 | n => n, fun | 3 => 3 | 9 => 9 | 2 => 2 | 4 => 4 | 171 => 172 | 0 => 0 | 53 => 142 | 37 => 55 | 5 => 5 | 173 => 174 | 212 => 179 | 51 => 140 | 20 => 20 | 213 => 180 | 46 => 110 | 232 => 186 | 233 => 187 | n => n, fun | 17 => 1 | 18 => 4 | 19 => 5 | n => n⟩
theorem Tryz.lays171 : Go.Proofs.Lays.n171 Tryz.prog Tryz.lays171_ren := {
  mixed := by kernel_rfl
  f129 := Tryz.func101.trans (congrArg some (by kernel_rfl))
  f171 := Tryz.func77.trans (congrArg some (by kernel_rfl))
  f243 := Tryz.func108.trans (congrArg some (by kernel_rfl))
  f246 := Tryz.func131.trans (congrArg some (by kernel_rfl))
  f283 := Tryz.func138.trans (congrArg some (by kernel_rfl))
  f284 := Tryz.func139.trans (congrArg some (by kernel_rfl))
  f285 := Tryz.func140.trans (congrArg some (by kernel_rfl))
  f286 := Tryz.func141.trans (congrArg some (by kernel_rfl))
  f317 := Tryz.func147.trans (congrArg some (by kernel_rfl))
  f318 := Tryz.func148.trans (congrArg some (by kernel_rfl))
  f319 := Tryz.func149.trans (congrArg some (by kernel_rfl))
  f320 := Tryz.func150.trans (congrArg some (by kernel_rfl))
  f337 := Tryz.func151.trans (congrArg some (by kernel_rfl))
  f338 := Tryz.func152.trans (congrArg some (by kernel_rfl))
  t0 := Tryz.underlying0
  a0 := Tryz.isAgg0
  z0 := Tryz.sizeOf0
  v0 := Tryz.zeroValue0
  t2 := Tryz.underlying2
  a2 := Tryz.isAgg2
  z2 := Tryz.sizeOf2
  v2 := Tryz.zeroValue2
  t3 := Tryz.underlying3
  a3 := Tryz.isAgg3
  z3 := Tryz.sizeOf3
  v3 := Tryz.zeroValue3
  t4 := Tryz.underlying4
  a4 := Tryz.isAgg4
  z4 := Tryz.sizeOf4
  v4 := Tryz.zeroValue4
  t5 := Tryz.underlying5
  a5 := Tryz.isAgg5
  z5 := Tryz.sizeOf5
  v5 := Tryz.zeroValue5
  t9 := Tryz.underlying9
  a9 := Tryz.isAgg9
  z9 := Tryz.sizeOf9
  v9 := Tryz.zeroValue9
  t20 := Tryz.underlying20
  a20 := Tryz.isAgg20
  z20 := Tryz.sizeOf20
  v20 := Tryz.zeroValue20
  t37 := Tryz.underlying55
  a37 := Tryz.isAgg55
  z37 := Tryz.sizeOf55
  v37 := Tryz.zeroValue55
  t46 := Tryz.underlying110
  a46 := Tryz.isAgg110
  z46 := Tryz.sizeOf110
  v46 := Tryz.zeroValue110
  t51 := Tryz.underlying140
  a51 := Tryz.isAgg140
  z51 := Tryz.sizeOf140
  v51 := Tryz.zeroValue140
  t53 := Tryz.underlying142
  a53 := Tryz.isAgg142
  z53 := Tryz.sizeOf142
  v53 := Tryz.zeroValue142
  t171 := Tryz.underlying172
  a171 := Tryz.isAgg172
  z171 := Tryz.sizeOf172
  v171 := Tryz.zeroValue172
  t173 := Tryz.underlying174
  a173 := Tryz.isAgg174
  z173 := Tryz.sizeOf174
  v173 := Tryz.zeroValue174
  t212 := Tryz.underlying179
  a212 := Tryz.isAgg179
  z212 := Tryz.sizeOf179
  v212 := Tryz.zeroValue179
  t213 := Tryz.underlying180
  a213 := Tryz.isAgg180
  z213 := Tryz.sizeOf180
  t232 := Tryz.underlying186
  a232 := Tryz.isAgg186
  z232 := Tryz.sizeOf186
  v232 := Tryz.zeroValue186
  t233 := Tryz.underlying187
  a233 := Tryz.isAgg187
  z233 := Tryz.sizeOf187
  v233 := Tryz.zeroValue187
  g17 := by kernel_rfl
  g18 := by kernel_rfl
  g19 := by kernel_rfl }
open Go.RowKit Go.Sort Go.Lib in
/-- THE ROAD WITHOUT THE TABLE: 0 <= i < 100: NO PREMISE ON THE WORLD, AND THE WORLD IS AS IT WAS: a row that keeps its argument in that range need list no table ('laid = []'). (LAID: no walk: one application.) -/
theorem Tryz.strconv_Itoa_small (i : Nat) (hi : i < 100) (w : World) :
    Calls Tryz.prog 77 #[.int .i64 i] w fun e w' => e = .returned (.string ⟨(Lib.decDigits i).toArray⟩) ∧ w' = w := Any.strconv_Itoa_small Tryz.lays171 i hi w
def Tryz.lays217_ren : Go.Shelf.Ren := ⟨fun | 217 => 105 | 266 => 127 | n => n, fun | 9 => 9 | 5 => 5 | 3 => 3 | n => n, fun | n => n⟩
theorem Tryz.lays217 : Go.Proofs.Lays.n217 Tryz.prog Tryz.lays217_ren := {
  mixed := by kernel_rfl
  f217 := Tryz.func105.trans (congrArg some (by kernel_rfl))
  f266 := Tryz.func127.trans (congrArg some (by kernel_rfl))
  t3 := Tryz.underlying3
  a3 := Tryz.isAgg3
  z3 := Tryz.sizeOf3
  v3 := Tryz.zeroValue3
  t5 := Tryz.underlying5
  a5 := Tryz.isAgg5
  z5 := Tryz.sizeOf5
  v5 := Tryz.zeroValue5
  t9 := Tryz.underlying9
  a9 := Tryz.isAgg9
  z9 := Tryz.sizeOf9
  v9 := Tryz.zeroValue9 }
open Go.RowKit Go.Lib in
/-- internal/stringslite.IndexByte (what strings.IndexByte calls): IT RETURNS 'Lib.indexByte s c'; the world is as it was. (LAID: no walk: one application.) -/
theorem Tryz.stringslite_IndexByte (s : ByteArray) (c : Int) (w : World) :
    Calls Tryz.prog 105 #[.string s, .int .u8 c] w fun e w' => e = .returned (.int .i64 (Lib.indexByte s.data.toList c.toNat.toUInt8)) ∧ w' = w := Any.stringslite_IndexByte Tryz.lays217 s c w
def Tryz.lays224_ren : Go.Shelf.Ren := ⟨fun | 224 => 129 | n => n, fun | 3 => 3 | n => n, fun | n => n⟩
theorem Tryz.lays224 : Go.Proofs.Lays.n224 Tryz.prog Tryz.lays224_ren := {
  mixed := by kernel_rfl
  f224 := Tryz.func129.trans (congrArg some (by kernel_rfl))
  t3 := Tryz.underlying3
  a3 := Tryz.isAgg3
  z3 := Tryz.sizeOf3
  v3 := Tryz.zeroValue3 }
open Go.RowKit Go.Lib in
/-- internal/bytealg.Cutover: "Cutover reports the number of failures of IndexByte we should tolerate before switching over to Index. n is the number of bytes processed so far.": on amd64: (n + 16) / 8. (LAID: no walk: one application.) -/
theorem Tryz.bytealg_Cutover (n : Int) (h0 : 0 ≤ n) (h1 : n < 4611686018427387904) (w : World) :
    Calls Tryz.prog 129 #[.int .i64 n] w fun e w' => e = .returned (.int .i64 ((n + 16) / 8)) ∧ w' = w := Any.bytealg_Cutover Tryz.lays224 n h0 h1 w
def Tryz.lays314_ren : Go.Shelf.Ren := ⟨fun | 314 => 137 | n => n, fun | 9 => 9 | 51 => 140 | 3 => 3 | 4 => 4 | 5 => 5 | 46 => 110 | n => n, fun | n => n⟩
theorem Tryz.lays314 : Go.Proofs.Lays.n314 Tryz.prog Tryz.lays314_ren := {
  mixed := by kernel_rfl
  f314 := Tryz.func137.trans (congrArg some (by kernel_rfl))
  t3 := Tryz.underlying3
  a3 := Tryz.isAgg3
  z3 := Tryz.sizeOf3
  v3 := Tryz.zeroValue3
  t4 := Tryz.underlying4
  a4 := Tryz.isAgg4
  z4 := Tryz.sizeOf4
  v4 := Tryz.zeroValue4
  t5 := Tryz.underlying5
  a5 := Tryz.isAgg5
  z5 := Tryz.sizeOf5
  v5 := Tryz.zeroValue5
  t9 := Tryz.underlying9
  a9 := Tryz.isAgg9
  z9 := Tryz.sizeOf9
  v9 := Tryz.zeroValue9
  t46 := Tryz.underlying110
  a46 := Tryz.isAgg110
  z46 := Tryz.sizeOf110
  v46 := Tryz.zeroValue110
  t51 := Tryz.underlying140
  a51 := Tryz.isAgg140
  z51 := Tryz.sizeOf140
  v51 := Tryz.zeroValue140 }
open Go.RowKit Go.Lib in
/-- hashStr: "returns the hash and the appropriate multiplicative factor for use in Rabin-Karp algorithm": THE HASH OF ALL OF sep, AND 16777619 ^ len(sep), both in uint32. (LAID: no walk: one application.) -/
theorem Tryz.bytealg_hashStr (sep : ByteArray) (hs : sep.size < 4294967281) (w : World) :
    Calls Tryz.prog 137 #[.string sep] w fun e w' => e = .returned (.tuple #[.int .u32 (RK.H sep.data.toList % 4294967296), .int .u32 (16777619 ^ sep.size % 4294967296)]) ∧ w' = w := Any.bytealg_hashStr Tryz.lays314 sep hs w
def Tryz.lays267_ren : Go.Shelf.Ren := ⟨fun | 267 => 130 | 314 => 137 | n => n, fun | 9 => 9 | 3 => 3 | 146 => 170 | 51 => 140 | 4 => 4 | 5 => 5 | 46 => 110 | n => n, fun | n => n⟩
theorem Tryz.lays267 : Go.Proofs.Lays.n267 Tryz.prog Tryz.lays267_ren := {
  mixed := by kernel_rfl
  f267 := Tryz.func130.trans (congrArg some (by kernel_rfl))
  f314 := Tryz.func137.trans (congrArg some (by kernel_rfl))
  t3 := Tryz.underlying3
  a3 := Tryz.isAgg3
  z3 := Tryz.sizeOf3
  v3 := Tryz.zeroValue3
  t4 := Tryz.underlying4
  a4 := Tryz.isAgg4
  z4 := Tryz.sizeOf4
  v4 := Tryz.zeroValue4
  t5 := Tryz.underlying5
  a5 := Tryz.isAgg5
  z5 := Tryz.sizeOf5
  v5 := Tryz.zeroValue5
  t9 := Tryz.underlying9
  a9 := Tryz.isAgg9
  z9 := Tryz.sizeOf9
  v9 := Tryz.zeroValue9
  t46 := Tryz.underlying110
  a46 := Tryz.isAgg110
  z46 := Tryz.sizeOf110
  v46 := Tryz.zeroValue110
  t51 := Tryz.underlying140
  a51 := Tryz.isAgg140
  z51 := Tryz.sizeOf140
  v51 := Tryz.zeroValue140
  t146 := Tryz.underlying170
  a146 := Tryz.isAgg170
  z146 := Tryz.sizeOf170
  v146 := Tryz.zeroValue170 }
open Go.RowKit Go.Lib in
theorem Tryz.bytealg_IndexRabinKarp (s sep : ByteArray) (h1 : 1 ≤ sep.size) (h2 : sep.size ≤ s.size) (hs : s.size < 4294967281) (w : World) :
    Calls Tryz.prog 130 #[.string s, .string sep] w fun e w' => e = .returned (.int .i64 (Lib.index s.data.toList sep.data.toList)) ∧ w' = w := Any.bytealg_IndexRabinKarp Tryz.lays267 s sep h1 h2 hs w
def Tryz.lays219_ren : Go.Shelf.Ren := ⟨fun | 219 => 107 | 217 => 105 | 225 => 128 | 224 => 129 | 267 => 130 | 266 => 127 | 314 => 137 | n => n, fun | 9 => 9 | 3 => 3 | 4 => 4 | 5 => 5 | 46 => 110 | 146 => 170 | 51 => 140 | n => n, fun | 1 => 0 | n => n⟩
theorem Tryz.lays219 : Go.Proofs.Lays.n219 Tryz.prog Tryz.lays219_ren := {
  mixed := by kernel_rfl
  f217 := Tryz.func105.trans (congrArg some (by kernel_rfl))
  f219 := Tryz.func107.trans (congrArg some (by kernel_rfl))
  f224 := Tryz.func129.trans (congrArg some (by kernel_rfl))
  f225 := Tryz.func128.trans (congrArg some (by kernel_rfl))
  f266 := Tryz.func127.trans (congrArg some (by kernel_rfl))
  f267 := Tryz.func130.trans (congrArg some (by kernel_rfl))
  f314 := Tryz.func137.trans (congrArg some (by kernel_rfl))
  t3 := Tryz.underlying3
  a3 := Tryz.isAgg3
  z3 := Tryz.sizeOf3
  v3 := Tryz.zeroValue3
  t4 := Tryz.underlying4
  a4 := Tryz.isAgg4
  z4 := Tryz.sizeOf4
  v4 := Tryz.zeroValue4
  t5 := Tryz.underlying5
  a5 := Tryz.isAgg5
  z5 := Tryz.sizeOf5
  v5 := Tryz.zeroValue5
  t9 := Tryz.underlying9
  a9 := Tryz.isAgg9
  z9 := Tryz.sizeOf9
  v9 := Tryz.zeroValue9
  t46 := Tryz.underlying110
  a46 := Tryz.isAgg110
  z46 := Tryz.sizeOf110
  v46 := Tryz.zeroValue110
  t51 := Tryz.underlying140
  a51 := Tryz.isAgg140
  z51 := Tryz.sizeOf140
  v51 := Tryz.zeroValue140
  t146 := Tryz.underlying170
  a146 := Tryz.isAgg170
  z146 := Tryz.sizeOf170
  v146 := Tryz.zeroValue170
  g1 := by kernel_rfl }
open Go.RowKit Go.Lib in
/-- internal/stringslite.Index (what strings.Index calls) AT A substr OF ONE BYTE c: IT RETURNS 'Lib.indexByte s c'; the world is as it was. (LAID: no walk: one application.) -/
theorem Tryz.stringslite_Index_one (s : ByteArray) (c : UInt8) (w : World) :
    Calls Tryz.prog 107 #[.string s, .string ⟨#[c]⟩] w fun e w' => e = .returned (.int .i64 (Lib.indexByte s.data.toList c)) ∧ w' = w := Any.stringslite_Index_one Tryz.lays219 s c w
open Go.RowKit Go.Lib in
/-- internal/stringslite.Index (what strings.Index calls) AT A substr OF WHATEVER LENGTH: IT RETURNS 'Lib.index s substr'; the world is as it was. 'm': what internal/bytealg.MaxLen holds: whatever. (LAID: no walk: one application.) -/
theorem Tryz.stringslite_Index (s sub : ByteArray) (m : Int) (w : World) (hs : s.size < 4294967281) (hm : w.cell? ⟨0, 0, none⟩ = some (.int .i64 m)) :
    Calls Tryz.prog 107 #[.string s, .string sub] w fun e w' => e = .returned (.int .i64 (Lib.index s.data.toList sub.data.toList)) ∧ w' = w := Any.stringslite_Index Tryz.lays219 s sub m w hs hm
def Tryz.lays143_ren : Go.Shelf.Ren := ⟨fun | 143 => 76 | 219 => 107 | 217 => 105 | 225 => 128 | 224 => 129 | 267 => 130 | 266 => 127 | 314 => 137 | n => n, fun | 9 => 9 | 3 => 3 | 4 => 4 | 5 => 5 | 46 => 110 | 146 => 170 | 51 => 140 | n => n, fun | 1 => 0 | n => n⟩
theorem Tryz.lays143 : Go.Proofs.Lays.n143 Tryz.prog Tryz.lays143_ren := {
  mixed := by kernel_rfl
  f143 := Tryz.func76.trans (congrArg some (by kernel_rfl))
  f217 := Tryz.func105.trans (congrArg some (by kernel_rfl))
  f219 := Tryz.func107.trans (congrArg some (by kernel_rfl))
  f224 := Tryz.func129.trans (congrArg some (by kernel_rfl))
  f225 := Tryz.func128.trans (congrArg some (by kernel_rfl))
  f266 := Tryz.func127.trans (congrArg some (by kernel_rfl))
  f267 := Tryz.func130.trans (congrArg some (by kernel_rfl))
  f314 := Tryz.func137.trans (congrArg some (by kernel_rfl))
  t3 := Tryz.underlying3
  a3 := Tryz.isAgg3
  z3 := Tryz.sizeOf3
  v3 := Tryz.zeroValue3
  t4 := Tryz.underlying4
  a4 := Tryz.isAgg4
  z4 := Tryz.sizeOf4
  v4 := Tryz.zeroValue4
  t5 := Tryz.underlying5
  a5 := Tryz.isAgg5
  z5 := Tryz.sizeOf5
  v5 := Tryz.zeroValue5
  t9 := Tryz.underlying9
  a9 := Tryz.isAgg9
  z9 := Tryz.sizeOf9
  v9 := Tryz.zeroValue9
  t46 := Tryz.underlying110
  a46 := Tryz.isAgg110
  z46 := Tryz.sizeOf110
  v46 := Tryz.zeroValue110
  t51 := Tryz.underlying140
  a51 := Tryz.isAgg140
  z51 := Tryz.sizeOf140
  v51 := Tryz.zeroValue140
  t146 := Tryz.underlying170
  a146 := Tryz.isAgg170
  z146 := Tryz.sizeOf170
  v146 := Tryz.zeroValue170
  g1 := by kernel_rfl }
open Go.RowKit Go.Lib in
/-- strings.Index: "Index returns the index of the first instance of substr in s, or -1 if substr is not present in s.": AT A substr OF ONE BYTE c: IT RETURNS 'Lib.indexByte s c'; the world is as it was. (LAID: no walk: one application.) -/
theorem Tryz.strings_Index_one (s : ByteArray) (c : UInt8) (w : World) :
    Calls Tryz.prog 76 #[.string s, .string ⟨#[c]⟩] w fun e w' => e = .returned (.int .i64 (Lib.indexByte s.data.toList c)) ∧ w' = w := Any.strings_Index_one Tryz.lays143 s c w
open Go.RowKit Go.Lib in
/-- strings.Index: "Index returns the index of the first instance of substr in s, or -1 if substr is not present in s.": IT RETURNS 'Lib.index s substr'; the world is as it was. (LAID: no walk: one application.) -/
theorem Tryz.strings_Index (s sub : ByteArray) (m : Int) (w : World) (hs : s.size < 4294967281) (hm : w.cell? ⟨0, 0, none⟩ = some (.int .i64 m)) :
    Calls Tryz.prog 76 #[.string s, .string sub] w fun e w' => e = .returned (.int .i64 (Lib.index s.data.toList sub.data.toList)) ∧ w' = w := Any.strings_Index Tryz.lays143 s sub m w hs hm
def Tryz.lays144_ren : Go.Shelf.Ren := ⟨fun | 144 => 46 | 143 => 76 | 219 => 107 | 217 => 105 | 225 => 128 | 224 => 129 | 267 => 130 | 266 => 127 | 314 => 137 | n => n, fun | 9 => 9 | 4 => 4 | 3 => 3 | 5 => 5 | 46 => 110 | 146 => 170 | 51 => 140 | n => n, fun | 1 => 0 | n => n⟩
theorem Tryz.lays144 : Go.Proofs.Lays.n144 Tryz.prog Tryz.lays144_ren := {
  mixed := by kernel_rfl
  f143 := Tryz.func76.trans (congrArg some (by kernel_rfl))
  f144 := Tryz.func46.trans (congrArg some (by kernel_rfl))
  f217 := Tryz.func105.trans (congrArg some (by kernel_rfl))
  f219 := Tryz.func107.trans (congrArg some (by kernel_rfl))
  f224 := Tryz.func129.trans (congrArg some (by kernel_rfl))
  f225 := Tryz.func128.trans (congrArg some (by kernel_rfl))
  f266 := Tryz.func127.trans (congrArg some (by kernel_rfl))
  f267 := Tryz.func130.trans (congrArg some (by kernel_rfl))
  f314 := Tryz.func137.trans (congrArg some (by kernel_rfl))
  t3 := Tryz.underlying3
  a3 := Tryz.isAgg3
  z3 := Tryz.sizeOf3
  v3 := Tryz.zeroValue3
  t4 := Tryz.underlying4
  a4 := Tryz.isAgg4
  z4 := Tryz.sizeOf4
  v4 := Tryz.zeroValue4
  t5 := Tryz.underlying5
  a5 := Tryz.isAgg5
  z5 := Tryz.sizeOf5
  v5 := Tryz.zeroValue5
  t9 := Tryz.underlying9
  a9 := Tryz.isAgg9
  z9 := Tryz.sizeOf9
  v9 := Tryz.zeroValue9
  t46 := Tryz.underlying110
  a46 := Tryz.isAgg110
  z46 := Tryz.sizeOf110
  v46 := Tryz.zeroValue110
  t51 := Tryz.underlying140
  a51 := Tryz.isAgg140
  z51 := Tryz.sizeOf140
  v51 := Tryz.zeroValue140
  t146 := Tryz.underlying170
  a146 := Tryz.isAgg170
  z146 := Tryz.sizeOf170
  v146 := Tryz.zeroValue170
  g1 := by kernel_rfl }
open Go.RowKit Go.Lib in
/-- strings.Contains: "Contains reports whether substr is within s.": AT A substr OF ONE BYTE c: IT RETURNS 'decide (0 ≤ Lib.indexByte s c)'; the world is as it was. (LAID: no walk: one application.) -/
theorem Tryz.strings_Contains_one (s : ByteArray) (c : UInt8) (w : World) :
    Calls Tryz.prog 46 #[.string s, .string ⟨#[c]⟩] w fun e w' => e = .returned (.bool (decide (0 ≤ Lib.indexByte s.data.toList c))) ∧ w' = w := Any.strings_Contains_one Tryz.lays144 s c w
open Go.RowKit Go.Lib in
/-- strings.Contains: "Contains reports whether substr is within s.": IT RETURNS 'Lib.contains s substr'; the world is as it was. (LAID: no walk: one application.) -/
theorem Tryz.strings_Contains (s sub : ByteArray) (m : Int) (w : World) (hs : s.size < 4294967281) (hm : w.cell? ⟨0, 0, none⟩ = some (.int .i64 m)) :
    Calls Tryz.prog 46 #[.string s, .string sub] w fun e w' => e = .returned (.bool (Lib.contains s.data.toList sub.data.toList)) ∧ w' = w := Any.strings_Contains Tryz.lays144 s sub m w hs hm
def Tryz.lays220_ren : Go.Shelf.Ren := ⟨fun | 220 => 133 | 219 => 107 | 217 => 105 | 225 => 128 | 224 => 129 | 267 => 130 | 266 => 127 | 314 => 137 | n => n, fun | 9 => 9 | 4 => 4 | 3 => 3 | 5 => 5 | 46 => 110 | 146 => 170 | 51 => 140 | n => n, fun | 1 => 0 | n => n⟩
theorem Tryz.lays220 : Go.Proofs.Lays.n220 Tryz.prog Tryz.lays220_ren := {
  mixed := by kernel_rfl
  f217 := Tryz.func105.trans (congrArg some (by kernel_rfl))
  f219 := Tryz.func107.trans (congrArg some (by kernel_rfl))
  f220 := Tryz.func133.trans (congrArg some (by kernel_rfl))
  f224 := Tryz.func129.trans (congrArg some (by kernel_rfl))
  f225 := Tryz.func128.trans (congrArg some (by kernel_rfl))
  f266 := Tryz.func127.trans (congrArg some (by kernel_rfl))
  f267 := Tryz.func130.trans (congrArg some (by kernel_rfl))
  f314 := Tryz.func137.trans (congrArg some (by kernel_rfl))
  t3 := Tryz.underlying3
  a3 := Tryz.isAgg3
  z3 := Tryz.sizeOf3
  v3 := Tryz.zeroValue3
  t4 := Tryz.underlying4
  a4 := Tryz.isAgg4
  z4 := Tryz.sizeOf4
  v4 := Tryz.zeroValue4
  t5 := Tryz.underlying5
  a5 := Tryz.isAgg5
  z5 := Tryz.sizeOf5
  v5 := Tryz.zeroValue5
  t9 := Tryz.underlying9
  a9 := Tryz.isAgg9
  z9 := Tryz.sizeOf9
  v9 := Tryz.zeroValue9
  t46 := Tryz.underlying110
  a46 := Tryz.isAgg110
  z46 := Tryz.sizeOf110
  v46 := Tryz.zeroValue110
  t51 := Tryz.underlying140
  a51 := Tryz.isAgg140
  z51 := Tryz.sizeOf140
  v51 := Tryz.zeroValue140
  t146 := Tryz.underlying170
  a146 := Tryz.isAgg170
  z146 := Tryz.sizeOf170
  v146 := Tryz.zeroValue170
  g1 := by kernel_rfl }
open Go.RowKit Go.Lib in
/-- internal/stringslite.Cut (what strings.Cut calls): IT RETURNS 'Lib.cut s sep'; the world is as it was but for the count of draws. (LAID: no walk: one application.) -/
theorem Tryz.stringslite_Cut (s sep : ByteArray) (m : Int) (w : World) (hs : s.size < 4294967281) (hm : w.cell? ⟨0, 0, none⟩ = some (.int .i64 m)) :
    Calls Tryz.prog 133 #[.string s, .string sep] w fun e w' => e = .returned (.tuple #[.string ⟨(Lib.cut s.data.toList sep.data.toList).1.toArray⟩, .string ⟨(Lib.cut s.data.toList sep.data.toList).2.1.toArray⟩, .bool (Lib.cut s.data.toList sep.data.toList).2.2]) ∧ ∃ n, w' = w.drewN n := Any.stringslite_Cut Tryz.lays220 s sep m w hs hm
def Tryz.lays145_ren : Go.Shelf.Ren := ⟨fun | 145 => 116 | 220 => 133 | 219 => 107 | 217 => 105 | 225 => 128 | 224 => 129 | 267 => 130 | 266 => 127 | 314 => 137 | n => n, fun | 9 => 9 | 4 => 4 | 59 => 44 | 3 => 3 | 5 => 5 | 46 => 110 | 146 => 170 | 51 => 140 | n => n, fun | 1 => 0 | n => n⟩
theorem Tryz.lays145 : Go.Proofs.Lays.n145 Tryz.prog Tryz.lays145_ren := {
  mixed := by kernel_rfl
  f145 := Tryz.func116.trans (congrArg some (by kernel_rfl))
  f217 := Tryz.func105.trans (congrArg some (by kernel_rfl))
  f219 := Tryz.func107.trans (congrArg some (by kernel_rfl))
  f220 := Tryz.func133.trans (congrArg some (by kernel_rfl))
  f224 := Tryz.func129.trans (congrArg some (by kernel_rfl))
  f225 := Tryz.func128.trans (congrArg some (by kernel_rfl))
  f266 := Tryz.func127.trans (congrArg some (by kernel_rfl))
  f267 := Tryz.func130.trans (congrArg some (by kernel_rfl))
  f314 := Tryz.func137.trans (congrArg some (by kernel_rfl))
  t3 := Tryz.underlying3
  a3 := Tryz.isAgg3
  z3 := Tryz.sizeOf3
  v3 := Tryz.zeroValue3
  t4 := Tryz.underlying4
  a4 := Tryz.isAgg4
  z4 := Tryz.sizeOf4
  v4 := Tryz.zeroValue4
  t5 := Tryz.underlying5
  a5 := Tryz.isAgg5
  z5 := Tryz.sizeOf5
  v5 := Tryz.zeroValue5
  t9 := Tryz.underlying9
  a9 := Tryz.isAgg9
  z9 := Tryz.sizeOf9
  v9 := Tryz.zeroValue9
  t46 := Tryz.underlying110
  a46 := Tryz.isAgg110
  z46 := Tryz.sizeOf110
  v46 := Tryz.zeroValue110
  t51 := Tryz.underlying140
  a51 := Tryz.isAgg140
  z51 := Tryz.sizeOf140
  v51 := Tryz.zeroValue140
  t59 := Tryz.underlying44
  a59 := Tryz.isAgg44
  z59 := Tryz.sizeOf44
  v59 := Tryz.zeroValue44
  t146 := Tryz.underlying170
  a146 := Tryz.isAgg170
  z146 := Tryz.sizeOf170
  v146 := Tryz.zeroValue170
  g1 := by kernel_rfl }
open Go.RowKit Go.Lib in
/-- strings.Cut: "Cut slices s around the first instance of sep, returning the text before and after sep. The found result reports whether sep appears in s. If sep does not appear in s, cut returns s, "", false.": IT RETURNS 'Lib.cut s sep'; the world is as it was but for the count of draws. (LAID: no walk: one application.) -/
theorem Tryz.strings_Cut (s sep : ByteArray) (m : Int) (w : World) (hs : s.size < 4294967281) (hm : w.cell? ⟨0, 0, none⟩ = some (.int .i64 m)) :
    Calls Tryz.prog 116 #[.string s, .string sep] w fun e w' => e = .returned (.tuple #[.string ⟨(Lib.cut s.data.toList sep.data.toList).1.toArray⟩, .string ⟨(Lib.cut s.data.toList sep.data.toList).2.1.toArray⟩, .bool (Lib.cut s.data.toList sep.data.toList).2.2]) ∧ ∃ n, w' = w.drewN n := Any.strings_Cut Tryz.lays145 s sep m w hs hm
def Tryz.lays138_ren : Go.Shelf.Ren := ⟨fun | 138 => 84 | 195 => 111 | 218 => 112 | 143 => 76 | 219 => 107 | 217 => 105 | 225 => 128 | 224 => 129 | 267 => 130 | 266 => 127 | 314 => 137 | n => n, fun | 9 => 9 | 3 => 3 | 4 => 4 | 5 => 5 | 0 => 0 | 46 => 110 | 146 => 170 | 51 => 140 | n => n, fun | 1 => 0 | n => n⟩
theorem Tryz.lays138 : Go.Proofs.Lays.n138 Tryz.prog Tryz.lays138_ren := {
  mixed := by kernel_rfl
  f138 := Tryz.func84.trans (congrArg some (by kernel_rfl))
  f143 := Tryz.func76.trans (congrArg some (by kernel_rfl))
  f195 := Tryz.func111.trans (congrArg some (by kernel_rfl))
  f217 := Tryz.func105.trans (congrArg some (by kernel_rfl))
  f218 := Tryz.func112.trans (congrArg some (by kernel_rfl))
  f219 := Tryz.func107.trans (congrArg some (by kernel_rfl))
  f224 := Tryz.func129.trans (congrArg some (by kernel_rfl))
  f225 := Tryz.func128.trans (congrArg some (by kernel_rfl))
  f266 := Tryz.func127.trans (congrArg some (by kernel_rfl))
  f267 := Tryz.func130.trans (congrArg some (by kernel_rfl))
  f314 := Tryz.func137.trans (congrArg some (by kernel_rfl))
  t0 := Tryz.underlying0
  a0 := Tryz.isAgg0
  z0 := Tryz.sizeOf0
  v0 := Tryz.zeroValue0
  t3 := Tryz.underlying3
  a3 := Tryz.isAgg3
  z3 := Tryz.sizeOf3
  v3 := Tryz.zeroValue3
  t4 := Tryz.underlying4
  a4 := Tryz.isAgg4
  z4 := Tryz.sizeOf4
  v4 := Tryz.zeroValue4
  t5 := Tryz.underlying5
  a5 := Tryz.isAgg5
  z5 := Tryz.sizeOf5
  v5 := Tryz.zeroValue5
  t9 := Tryz.underlying9
  a9 := Tryz.isAgg9
  z9 := Tryz.sizeOf9
  v9 := Tryz.zeroValue9
  t46 := Tryz.underlying110
  a46 := Tryz.isAgg110
  z46 := Tryz.sizeOf110
  v46 := Tryz.zeroValue110
  t51 := Tryz.underlying140
  a51 := Tryz.isAgg140
  z51 := Tryz.sizeOf140
  v51 := Tryz.zeroValue140
  t146 := Tryz.underlying170
  a146 := Tryz.isAgg170
  z146 := Tryz.sizeOf170
  v146 := Tryz.zeroValue170
  g1 := by kernel_rfl }
open Go.RowKit Go.Lib in
/-- strings.Count AT A substr OF ONE BYTE ('hp'): "Count counts the number of non-overlapping instances of substr in s.": IT RETURNS 'Lib.countByte s (that byte)'; the world is as it was. ✋ NO CONTRACT HERE YET at an empty substr (utf8.RuneCountInString) or at a longer one (a loop over strings.Index). (LAID: no walk: one application.) -/
theorem Tryz.strings_Count_one (s : ByteArray) (c : UInt8) (w : World) :
    Calls Tryz.prog 84 #[.string s, .string ⟨#[c]⟩] w fun e w' => e = .returned (.int .i64 (Lib.countByte s.data.toList c)) ∧ w' = w := Any.strings_Count_one Tryz.lays138 s c w
open Go.RowKit Go.Lib in
/-- strings.Count AT A substr OF TWO BYTES OR MORE: "Count counts the number of non-overlapping instances of substr in s.": IT RETURNS 'Lib.count s substr'; the world is as it was. (LAID: no walk: one application.) -/
theorem Tryz.strings_Count (s sub : ByteArray) (m : Int) (w : World) (hs : s.size < 4294967281) (hm : w.cell? ⟨0, 0, none⟩ = some (.int .i64 m)) (h2 : 2 ≤ sub.size) :
    Calls Tryz.prog 84 #[.string s, .string sub] w fun e w' => e = .returned (.int .i64 (Lib.countB s sub)) ∧ w' = w := Any.strings_Count Tryz.lays138 s sub m w hs hm h2
def Tryz.laysM219_ren : Go.Shelf.Ren := ⟨fun | 219 => 107 | 217 => 105 | 225 => 128 | 224 => 129 | 267 => 130 | 266 => 127 | 314 => 137 | n => n, fun | 9 => 9 | 3 => 3 | 4 => 4 | 5 => 5 | 46 => 110 | 146 => 170 | 51 => 140 | n => n, fun | 1 => 0 | n => n⟩
theorem Tryz.laysM219 : Go.Proofs.LaysM.n219 Tryz.prog Tryz.laysM219_ren := {
  mixed := by kernel_rfl
  f217 := Tryz.func105.trans (congrArg some (by kernel_rfl))
  f219 := Tryz.func107.trans (congrArg some (by kernel_rfl))
  f224 := Tryz.func129.trans (congrArg some (by kernel_rfl))
  f225 := Tryz.func128.trans (congrArg some (by kernel_rfl))
  f266 := Tryz.func127.trans (congrArg some (by kernel_rfl))
  f267 := Tryz.func130.trans (congrArg some (by kernel_rfl))
  f314 := Tryz.func137.trans (congrArg some (by kernel_rfl))
  t3 := Tryz.underlying3
  a3 := Tryz.isAgg3
  z3 := Tryz.sizeOf3
  v3 := Tryz.zeroValue3
  t4 := Tryz.underlying4
  a4 := Tryz.isAgg4
  z4 := Tryz.sizeOf4
  v4 := Tryz.zeroValue4
  t5 := Tryz.underlying5
  a5 := Tryz.isAgg5
  z5 := Tryz.sizeOf5
  v5 := Tryz.zeroValue5
  t9 := Tryz.underlying9
  a9 := Tryz.isAgg9
  z9 := Tryz.sizeOf9
  v9 := Tryz.zeroValue9
  t46 := Tryz.underlying110
  a46 := Tryz.isAgg110
  z46 := Tryz.sizeOf110
  v46 := Tryz.zeroValue110
  t51 := Tryz.underlying140
  a51 := Tryz.isAgg140
  z51 := Tryz.sizeOf140
  v51 := Tryz.zeroValue140
  t146 := Tryz.underlying170
  a146 := Tryz.isAgg170
  z146 := Tryz.sizeOf170
  v146 := Tryz.zeroValue170
  g1 := by kernel_rfl
  i3 := by kernel_rfl
  i4 := by kernel_rfl
  i5 := by kernel_rfl
  i9 := by kernel_rfl
  i46 := by kernel_rfl
  i51 := by kernel_rfl
  i146 := by kernel_rfl
  m1 := by kernel_rfl
  s1_3 := fun w h => Go.Proofs.cell_of_shapedOpen_int (zero := #[.int .i64 0]) (t := 3) h (of_decide_eq_true (by kernel_rfl)) (by kernel_rfl) rfl (by kernel_rfl) (by kernel_rfl) Tryz.underlying3 }
open Go.RowKit Go.Lib in
theorem Tryz.stringslite_Index_shaped (s sub : ByteArray) (w : World) (h : w.ShapedOpen Tryz.prog) (hs : s.size < 4294967281) :
    Calls Tryz.prog 107 #[.string s, .string sub] w fun e w' => e = .returned (.int .i64 (Lib.index s.data.toList sub.data.toList)) ∧ w' = w := Any.stringslite_Index_shaped Tryz.laysM219 s sub w h hs
def Tryz.laysM143_ren : Go.Shelf.Ren := ⟨fun | 143 => 76 | 219 => 107 | 217 => 105 | 225 => 128 | 224 => 129 | 267 => 130 | 266 => 127 | 314 => 137 | n => n, fun | 9 => 9 | 3 => 3 | 4 => 4 | 5 => 5 | 46 => 110 | 146 => 170 | 51 => 140 | n => n, fun | 1 => 0 | n => n⟩
theorem Tryz.laysM143 : Go.Proofs.LaysM.n143 Tryz.prog Tryz.laysM143_ren := {
  mixed := by kernel_rfl
  f143 := Tryz.func76.trans (congrArg some (by kernel_rfl))
  f217 := Tryz.func105.trans (congrArg some (by kernel_rfl))
  f219 := Tryz.func107.trans (congrArg some (by kernel_rfl))
  f224 := Tryz.func129.trans (congrArg some (by kernel_rfl))
  f225 := Tryz.func128.trans (congrArg some (by kernel_rfl))
  f266 := Tryz.func127.trans (congrArg some (by kernel_rfl))
  f267 := Tryz.func130.trans (congrArg some (by kernel_rfl))
  f314 := Tryz.func137.trans (congrArg some (by kernel_rfl))
  t3 := Tryz.underlying3
  a3 := Tryz.isAgg3
  z3 := Tryz.sizeOf3
  v3 := Tryz.zeroValue3
  t4 := Tryz.underlying4
  a4 := Tryz.isAgg4
  z4 := Tryz.sizeOf4
  v4 := Tryz.zeroValue4
  t5 := Tryz.underlying5
  a5 := Tryz.isAgg5
  z5 := Tryz.sizeOf5
  v5 := Tryz.zeroValue5
  t9 := Tryz.underlying9
  a9 := Tryz.isAgg9
  z9 := Tryz.sizeOf9
  v9 := Tryz.zeroValue9
  t46 := Tryz.underlying110
  a46 := Tryz.isAgg110
  z46 := Tryz.sizeOf110
  v46 := Tryz.zeroValue110
  t51 := Tryz.underlying140
  a51 := Tryz.isAgg140
  z51 := Tryz.sizeOf140
  v51 := Tryz.zeroValue140
  t146 := Tryz.underlying170
  a146 := Tryz.isAgg170
  z146 := Tryz.sizeOf170
  v146 := Tryz.zeroValue170
  g1 := by kernel_rfl
  i3 := by kernel_rfl
  i4 := by kernel_rfl
  i5 := by kernel_rfl
  i9 := by kernel_rfl
  i46 := by kernel_rfl
  i51 := by kernel_rfl
  i146 := by kernel_rfl
  m1 := by kernel_rfl
  s1_3 := fun w h => Go.Proofs.cell_of_shapedOpen_int (zero := #[.int .i64 0]) (t := 3) h (of_decide_eq_true (by kernel_rfl)) (by kernel_rfl) rfl (by kernel_rfl) (by kernel_rfl) Tryz.underlying3 }
open Go.RowKit Go.Lib in
theorem Tryz.strings_Index_shaped (s sub : ByteArray) (w : World) (h : w.ShapedOpen Tryz.prog) (hs : s.size < 4294967281) :
    Calls Tryz.prog 76 #[.string s, .string sub] w fun e w' => e = .returned (.int .i64 (Lib.index s.data.toList sub.data.toList)) ∧ w' = w := Any.strings_Index_shaped Tryz.laysM143 s sub w h hs
def Tryz.laysM144_ren : Go.Shelf.Ren := ⟨fun | 144 => 46 | 143 => 76 | 219 => 107 | 217 => 105 | 225 => 128 | 224 => 129 | 267 => 130 | 266 => 127 | 314 => 137 | n => n, fun | 9 => 9 | 4 => 4 | 3 => 3 | 5 => 5 | 46 => 110 | 146 => 170 | 51 => 140 | n => n, fun | 1 => 0 | n => n⟩
theorem Tryz.laysM144 : Go.Proofs.LaysM.n144 Tryz.prog Tryz.laysM144_ren := {
  mixed := by kernel_rfl
  f143 := Tryz.func76.trans (congrArg some (by kernel_rfl))
  f144 := Tryz.func46.trans (congrArg some (by kernel_rfl))
  f217 := Tryz.func105.trans (congrArg some (by kernel_rfl))
  f219 := Tryz.func107.trans (congrArg some (by kernel_rfl))
  f224 := Tryz.func129.trans (congrArg some (by kernel_rfl))
  f225 := Tryz.func128.trans (congrArg some (by kernel_rfl))
  f266 := Tryz.func127.trans (congrArg some (by kernel_rfl))
  f267 := Tryz.func130.trans (congrArg some (by kernel_rfl))
  f314 := Tryz.func137.trans (congrArg some (by kernel_rfl))
  t3 := Tryz.underlying3
  a3 := Tryz.isAgg3
  z3 := Tryz.sizeOf3
  v3 := Tryz.zeroValue3
  t4 := Tryz.underlying4
  a4 := Tryz.isAgg4
  z4 := Tryz.sizeOf4
  v4 := Tryz.zeroValue4
  t5 := Tryz.underlying5
  a5 := Tryz.isAgg5
  z5 := Tryz.sizeOf5
  v5 := Tryz.zeroValue5
  t9 := Tryz.underlying9
  a9 := Tryz.isAgg9
  z9 := Tryz.sizeOf9
  v9 := Tryz.zeroValue9
  t46 := Tryz.underlying110
  a46 := Tryz.isAgg110
  z46 := Tryz.sizeOf110
  v46 := Tryz.zeroValue110
  t51 := Tryz.underlying140
  a51 := Tryz.isAgg140
  z51 := Tryz.sizeOf140
  v51 := Tryz.zeroValue140
  t146 := Tryz.underlying170
  a146 := Tryz.isAgg170
  z146 := Tryz.sizeOf170
  v146 := Tryz.zeroValue170
  g1 := by kernel_rfl
  i3 := by kernel_rfl
  i4 := by kernel_rfl
  i5 := by kernel_rfl
  i9 := by kernel_rfl
  i46 := by kernel_rfl
  i51 := by kernel_rfl
  i146 := by kernel_rfl
  m1 := by kernel_rfl
  s1_3 := fun w h => Go.Proofs.cell_of_shapedOpen_int (zero := #[.int .i64 0]) (t := 3) h (of_decide_eq_true (by kernel_rfl)) (by kernel_rfl) rfl (by kernel_rfl) (by kernel_rfl) Tryz.underlying3 }
open Go.RowKit Go.Lib in
theorem Tryz.strings_Contains_shaped (s sub : ByteArray) (w : World) (h : w.ShapedOpen Tryz.prog) (hs : s.size < 4294967281) :
    Calls Tryz.prog 46 #[.string s, .string sub] w fun e w' => e = .returned (.bool (Lib.contains s.data.toList sub.data.toList)) ∧ w' = w := Any.strings_Contains_shaped Tryz.laysM144 s sub w h hs
def Tryz.laysM220_ren : Go.Shelf.Ren := ⟨fun | 220 => 133 | 219 => 107 | 217 => 105 | 225 => 128 | 224 => 129 | 267 => 130 | 266 => 127 | 314 => 137 | n => n, fun | 9 => 9 | 4 => 4 | 3 => 3 | 5 => 5 | 46 => 110 | 146 => 170 | 51 => 140 | n => n, fun | 1 => 0 | n => n⟩
theorem Tryz.laysM220 : Go.Proofs.LaysM.n220 Tryz.prog Tryz.laysM220_ren := {
  mixed := by kernel_rfl
  f217 := Tryz.func105.trans (congrArg some (by kernel_rfl))
  f219 := Tryz.func107.trans (congrArg some (by kernel_rfl))
  f220 := Tryz.func133.trans (congrArg some (by kernel_rfl))
  f224 := Tryz.func129.trans (congrArg some (by kernel_rfl))
  f225 := Tryz.func128.trans (congrArg some (by kernel_rfl))
  f266 := Tryz.func127.trans (congrArg some (by kernel_rfl))
  f267 := Tryz.func130.trans (congrArg some (by kernel_rfl))
  f314 := Tryz.func137.trans (congrArg some (by kernel_rfl))
  t3 := Tryz.underlying3
  a3 := Tryz.isAgg3
  z3 := Tryz.sizeOf3
  v3 := Tryz.zeroValue3
  t4 := Tryz.underlying4
  a4 := Tryz.isAgg4
  z4 := Tryz.sizeOf4
  v4 := Tryz.zeroValue4
  t5 := Tryz.underlying5
  a5 := Tryz.isAgg5
  z5 := Tryz.sizeOf5
  v5 := Tryz.zeroValue5
  t9 := Tryz.underlying9
  a9 := Tryz.isAgg9
  z9 := Tryz.sizeOf9
  v9 := Tryz.zeroValue9
  t46 := Tryz.underlying110
  a46 := Tryz.isAgg110
  z46 := Tryz.sizeOf110
  v46 := Tryz.zeroValue110
  t51 := Tryz.underlying140
  a51 := Tryz.isAgg140
  z51 := Tryz.sizeOf140
  v51 := Tryz.zeroValue140
  t146 := Tryz.underlying170
  a146 := Tryz.isAgg170
  z146 := Tryz.sizeOf170
  v146 := Tryz.zeroValue170
  g1 := by kernel_rfl
  i3 := by kernel_rfl
  i4 := by kernel_rfl
  i5 := by kernel_rfl
  i9 := by kernel_rfl
  i46 := by kernel_rfl
  i51 := by kernel_rfl
  i146 := by kernel_rfl
  m1 := by kernel_rfl
  s1_3 := fun w h => Go.Proofs.cell_of_shapedOpen_int (zero := #[.int .i64 0]) (t := 3) h (of_decide_eq_true (by kernel_rfl)) (by kernel_rfl) rfl (by kernel_rfl) (by kernel_rfl) Tryz.underlying3 }
open Go.RowKit Go.Lib in
theorem Tryz.stringslite_Cut_shaped (s sep : ByteArray) (w : World) (h : w.ShapedOpen Tryz.prog) (hs : s.size < 4294967281) :
    Calls Tryz.prog 133 #[.string s, .string sep] w fun e w' => e = .returned (.tuple #[.string ⟨(Lib.cut s.data.toList sep.data.toList).1.toArray⟩, .string ⟨(Lib.cut s.data.toList sep.data.toList).2.1.toArray⟩, .bool (Lib.cut s.data.toList sep.data.toList).2.2]) ∧ ∃ n, w' = w.drewN n := Any.stringslite_Cut_shaped Tryz.laysM220 s sep w h hs
def Tryz.laysM145_ren : Go.Shelf.Ren := ⟨fun | 145 => 116 | 220 => 133 | 219 => 107 | 217 => 105 | 225 => 128 | 224 => 129 | 267 => 130 | 266 => 127 | 314 => 137 | n => n, fun | 9 => 9 | 4 => 4 | 59 => 44 | 3 => 3 | 5 => 5 | 46 => 110 | 146 => 170 | 51 => 140 | n => n, fun | 1 => 0 | n => n⟩
theorem Tryz.laysM145 : Go.Proofs.LaysM.n145 Tryz.prog Tryz.laysM145_ren := {
  mixed := by kernel_rfl
  f145 := Tryz.func116.trans (congrArg some (by kernel_rfl))
  f217 := Tryz.func105.trans (congrArg some (by kernel_rfl))
  f219 := Tryz.func107.trans (congrArg some (by kernel_rfl))
  f220 := Tryz.func133.trans (congrArg some (by kernel_rfl))
  f224 := Tryz.func129.trans (congrArg some (by kernel_rfl))
  f225 := Tryz.func128.trans (congrArg some (by kernel_rfl))
  f266 := Tryz.func127.trans (congrArg some (by kernel_rfl))
  f267 := Tryz.func130.trans (congrArg some (by kernel_rfl))
  f314 := Tryz.func137.trans (congrArg some (by kernel_rfl))
  t3 := Tryz.underlying3
  a3 := Tryz.isAgg3
  z3 := Tryz.sizeOf3
  v3 := Tryz.zeroValue3
  t4 := Tryz.underlying4
  a4 := Tryz.isAgg4
  z4 := Tryz.sizeOf4
  v4 := Tryz.zeroValue4
  t5 := Tryz.underlying5
  a5 := Tryz.isAgg5
  z5 := Tryz.sizeOf5
  v5 := Tryz.zeroValue5
  t9 := Tryz.underlying9
  a9 := Tryz.isAgg9
  z9 := Tryz.sizeOf9
  v9 := Tryz.zeroValue9
  t46 := Tryz.underlying110
  a46 := Tryz.isAgg110
  z46 := Tryz.sizeOf110
  v46 := Tryz.zeroValue110
  t51 := Tryz.underlying140
  a51 := Tryz.isAgg140
  z51 := Tryz.sizeOf140
  v51 := Tryz.zeroValue140
  t59 := Tryz.underlying44
  a59 := Tryz.isAgg44
  z59 := Tryz.sizeOf44
  v59 := Tryz.zeroValue44
  t146 := Tryz.underlying170
  a146 := Tryz.isAgg170
  z146 := Tryz.sizeOf170
  v146 := Tryz.zeroValue170
  g1 := by kernel_rfl
  i3 := by kernel_rfl
  i4 := by kernel_rfl
  i5 := by kernel_rfl
  i9 := by kernel_rfl
  i46 := by kernel_rfl
  i51 := by kernel_rfl
  i59 := by kernel_rfl
  i146 := by kernel_rfl
  m1 := by kernel_rfl
  s1_3 := fun w h => Go.Proofs.cell_of_shapedOpen_int (zero := #[.int .i64 0]) (t := 3) h (of_decide_eq_true (by kernel_rfl)) (by kernel_rfl) rfl (by kernel_rfl) (by kernel_rfl) Tryz.underlying3 }
open Go.RowKit Go.Lib in
theorem Tryz.strings_Cut_shaped (s sep : ByteArray) (w : World) (h : w.ShapedOpen Tryz.prog) (hs : s.size < 4294967281) :
    Calls Tryz.prog 116 #[.string s, .string sep] w fun e w' => e = .returned (.tuple #[.string ⟨(Lib.cut s.data.toList sep.data.toList).1.toArray⟩, .string ⟨(Lib.cut s.data.toList sep.data.toList).2.1.toArray⟩, .bool (Lib.cut s.data.toList sep.data.toList).2.2]) ∧ ∃ n, w' = w.drewN n := Any.strings_Cut_shaped Tryz.laysM145 s sep w h hs
def Tryz.laysM138_ren : Go.Shelf.Ren := ⟨fun | 138 => 84 | 195 => 111 | 218 => 112 | 143 => 76 | 219 => 107 | 217 => 105 | 225 => 128 | 224 => 129 | 267 => 130 | 266 => 127 | 314 => 137 | n => n, fun | 9 => 9 | 3 => 3 | 4 => 4 | 5 => 5 | 0 => 0 | 46 => 110 | 146 => 170 | 51 => 140 | n => n, fun | 1 => 0 | n => n⟩
theorem Tryz.laysM138 : Go.Proofs.LaysM.n138 Tryz.prog Tryz.laysM138_ren := {
  mixed := by kernel_rfl
  f138 := Tryz.func84.trans (congrArg some (by kernel_rfl))
  f143 := Tryz.func76.trans (congrArg some (by kernel_rfl))
  f195 := Tryz.func111.trans (congrArg some (by kernel_rfl))
  f217 := Tryz.func105.trans (congrArg some (by kernel_rfl))
  f218 := Tryz.func112.trans (congrArg some (by kernel_rfl))
  f219 := Tryz.func107.trans (congrArg some (by kernel_rfl))
  f224 := Tryz.func129.trans (congrArg some (by kernel_rfl))
  f225 := Tryz.func128.trans (congrArg some (by kernel_rfl))
  f266 := Tryz.func127.trans (congrArg some (by kernel_rfl))
  f267 := Tryz.func130.trans (congrArg some (by kernel_rfl))
  f314 := Tryz.func137.trans (congrArg some (by kernel_rfl))
  t0 := Tryz.underlying0
  a0 := Tryz.isAgg0
  z0 := Tryz.sizeOf0
  v0 := Tryz.zeroValue0
  t3 := Tryz.underlying3
  a3 := Tryz.isAgg3
  z3 := Tryz.sizeOf3
  v3 := Tryz.zeroValue3
  t4 := Tryz.underlying4
  a4 := Tryz.isAgg4
  z4 := Tryz.sizeOf4
  v4 := Tryz.zeroValue4
  t5 := Tryz.underlying5
  a5 := Tryz.isAgg5
  z5 := Tryz.sizeOf5
  v5 := Tryz.zeroValue5
  t9 := Tryz.underlying9
  a9 := Tryz.isAgg9
  z9 := Tryz.sizeOf9
  v9 := Tryz.zeroValue9
  t46 := Tryz.underlying110
  a46 := Tryz.isAgg110
  z46 := Tryz.sizeOf110
  v46 := Tryz.zeroValue110
  t51 := Tryz.underlying140
  a51 := Tryz.isAgg140
  z51 := Tryz.sizeOf140
  v51 := Tryz.zeroValue140
  t146 := Tryz.underlying170
  a146 := Tryz.isAgg170
  z146 := Tryz.sizeOf170
  v146 := Tryz.zeroValue170
  g1 := by kernel_rfl
  i0 := by kernel_rfl
  i3 := by kernel_rfl
  i4 := by kernel_rfl
  i5 := by kernel_rfl
  i9 := by kernel_rfl
  i46 := by kernel_rfl
  i51 := by kernel_rfl
  i146 := by kernel_rfl
  m1 := by kernel_rfl
  s1_3 := fun w h => Go.Proofs.cell_of_shapedOpen_int (zero := #[.int .i64 0]) (t := 3) h (of_decide_eq_true (by kernel_rfl)) (by kernel_rfl) rfl (by kernel_rfl) (by kernel_rfl) Tryz.underlying3 }
open Go.RowKit Go.Lib in
theorem Tryz.strings_Count_shaped (s sub : ByteArray) (w : World) (h : w.ShapedOpen Tryz.prog) (hs : s.size < 4294967281) (h2 : 2 ≤ sub.size) :
    Calls Tryz.prog 84 #[.string s, .string sub] w fun e w' => e = .returned (.int .i64 (Lib.countB s sub)) ∧ w' = w := Any.strings_Count_shaped Tryz.laysM138 s sub w h hs h2
open Go.RowKit Go.Lib in
/-- strings.Count at whatever sep that is not empty: the two roads under one statement. (LAID: no walk: one application.) -/
theorem Tryz.strings_Count_any (s sep : ByteArray) (m : Int) (w : World) (hs : s.size < 4294967281) (hm : w.cell? ⟨0, 0, none⟩ = some (.int .i64 m)) (h1 : 1 ≤ sep.size) :
    Calls Tryz.prog 84 #[.string s, .string sep] w fun e w' => e = .returned (.int .i64 (Lib.countB s sep)) ∧ w' = w := Any.strings_Count_any Tryz.lays138 s sep m w hs hm h1
def Tryz.lays221_ren : Go.Shelf.Ren := ⟨fun | 221 => 102 | 268 => 125 | 138 => 84 | 143 => 76 | 195 => 111 | 197 => 135 | 218 => 112 | 219 => 107 | 260 => 146 | 217 => 105 | 225 => 128 | 224 => 129 | 267 => 130 | 266 => 127 | 314 => 137 | n => n, fun | 9 => 9 | 3 => 3 | 31 => 81 | 4 => 4 | 0 => 0 | 105 => 167 | 21 => 21 | 5 => 5 | 46 => 110 | 119 => 182 | 139 => 185 | 138 => 184 | 146 => 170 | 51 => 140 | n => n, fun | 1 => 0 | 3 => 2 | 4 => 3 | n => n⟩
theorem Tryz.lays221 : Go.Proofs.Lays.n221 Tryz.prog Tryz.lays221_ren := {
  mixed := by kernel_rfl
  f138 := Tryz.func84.trans (congrArg some (by kernel_rfl))
  f143 := Tryz.func76.trans (congrArg some (by kernel_rfl))
  f195 := Tryz.func111.trans (congrArg some (by kernel_rfl))
  f197 := Tryz.func135.trans (congrArg some (by kernel_rfl))
  f217 := Tryz.func105.trans (congrArg some (by kernel_rfl))
  f218 := Tryz.func112.trans (congrArg some (by kernel_rfl))
  f219 := Tryz.func107.trans (congrArg some (by kernel_rfl))
  f221 := Tryz.func102.trans (congrArg some (by kernel_rfl))
  f224 := Tryz.func129.trans (congrArg some (by kernel_rfl))
  f225 := Tryz.func128.trans (congrArg some (by kernel_rfl))
  f260 := Tryz.func146.trans (congrArg some (by kernel_rfl))
  f266 := Tryz.func127.trans (congrArg some (by kernel_rfl))
  f267 := Tryz.func130.trans (congrArg some (by kernel_rfl))
  f268 := Tryz.func125.trans (congrArg some (by kernel_rfl))
  f314 := Tryz.func137.trans (congrArg some (by kernel_rfl))
  t0 := Tryz.underlying0
  a0 := Tryz.isAgg0
  z0 := Tryz.sizeOf0
  v0 := Tryz.zeroValue0
  t3 := Tryz.underlying3
  a3 := Tryz.isAgg3
  z3 := Tryz.sizeOf3
  v3 := Tryz.zeroValue3
  t4 := Tryz.underlying4
  a4 := Tryz.isAgg4
  z4 := Tryz.sizeOf4
  v4 := Tryz.zeroValue4
  t5 := Tryz.underlying5
  a5 := Tryz.isAgg5
  z5 := Tryz.sizeOf5
  v5 := Tryz.zeroValue5
  t9 := Tryz.underlying9
  a9 := Tryz.isAgg9
  z9 := Tryz.sizeOf9
  v9 := Tryz.zeroValue9
  t21 := Tryz.underlying21
  a21 := Tryz.isAgg21
  z21 := Tryz.sizeOf21
  v21 := Tryz.zeroValue21
  t31 := Tryz.underlying81
  a31 := Tryz.isAgg81
  z31 := Tryz.sizeOf81
  v31 := Tryz.zeroValue81
  t46 := Tryz.underlying110
  a46 := Tryz.isAgg110
  z46 := Tryz.sizeOf110
  v46 := Tryz.zeroValue110
  t51 := Tryz.underlying140
  a51 := Tryz.isAgg140
  z51 := Tryz.sizeOf140
  v51 := Tryz.zeroValue140
  t105 := Tryz.underlying167
  a105 := Tryz.isAgg167
  z105 := Tryz.sizeOf167
  v105 := Tryz.zeroValue167
  t119 := Tryz.underlying182
  a119 := Tryz.isAgg182
  z119 := Tryz.sizeOf182
  t138 := Tryz.underlying184
  a138 := Tryz.isAgg184
  z138 := Tryz.sizeOf184
  v138 := Tryz.zeroValue184
  t139 := Tryz.underlying185
  a139 := Tryz.isAgg185
  z139 := Tryz.sizeOf185
  v139 := Tryz.zeroValue185
  t146 := Tryz.underlying170
  a146 := Tryz.isAgg170
  z146 := Tryz.sizeOf170
  v146 := Tryz.zeroValue170
  g1 := by kernel_rfl
  g3 := by kernel_rfl
  g4 := by kernel_rfl }
open Go.RowKit Go.Lib in
theorem Tryz.strings_genSplit (s sep : ByteArray) (sv : Nat) (n : Int) (N : Nat) (m : Int) (w : World) (hs : s.size < 4294967281) (hm : w.cell? ⟨0, 0, none⟩ = some (.int .i64 m)) (h1 : 1 ≤ sep.size) (hsv : sv ≤ sep.size) (hn0 : n ≠ 0) (hn63 : n ≤ 9223372036854775807) (hN : (N : Int) = min (if n < 0 then (Lib.countB s sep : Int) + 1 else n) ((s.size : Int) + 1)) :
    Calls Tryz.prog 102 #[.string s, .string sep, .int .i64 sv, .int .i64 n] w fun e w' =>
      e = .returned (.slice (some ⟨w.heap.size, 0, none⟩) (Lib.splitB sep sv (N - 1) s).length N) ∧ w' = w.alloc (.cells (Lib.cellsOf (Lib.splitB sep sv (N - 1) s) N) 9) := Any.strings_genSplit Tryz.lays221 (by kernel_rfl) s sep sv n N m w hs hm h1 hsv hn0 hn63 hN
def Tryz.lays146_ren : Go.Shelf.Ren := ⟨fun | 146 => 66 | 221 => 102 | 268 => 125 | 138 => 84 | 143 => 76 | 195 => 111 | 197 => 135 | 218 => 112 | 219 => 107 | 260 => 146 | 217 => 105 | 225 => 128 | 224 => 129 | 267 => 130 | 266 => 127 | 314 => 137 | n => n, fun | 9 => 9 | 31 => 81 | 3 => 3 | 4 => 4 | 0 => 0 | 105 => 167 | 21 => 21 | 5 => 5 | 46 => 110 | 119 => 182 | 139 => 185 | 138 => 184 | 146 => 170 | 51 => 140 | n => n, fun | 1 => 0 | 3 => 2 | 4 => 3 | n => n⟩
theorem Tryz.lays146 : Go.Proofs.Lays.n146 Tryz.prog Tryz.lays146_ren := {
  mixed := by kernel_rfl
  f138 := Tryz.func84.trans (congrArg some (by kernel_rfl))
  f143 := Tryz.func76.trans (congrArg some (by kernel_rfl))
  f146 := Tryz.func66.trans (congrArg some (by kernel_rfl))
  f195 := Tryz.func111.trans (congrArg some (by kernel_rfl))
  f197 := Tryz.func135.trans (congrArg some (by kernel_rfl))
  f217 := Tryz.func105.trans (congrArg some (by kernel_rfl))
  f218 := Tryz.func112.trans (congrArg some (by kernel_rfl))
  f219 := Tryz.func107.trans (congrArg some (by kernel_rfl))
  f221 := Tryz.func102.trans (congrArg some (by kernel_rfl))
  f224 := Tryz.func129.trans (congrArg some (by kernel_rfl))
  f225 := Tryz.func128.trans (congrArg some (by kernel_rfl))
  f260 := Tryz.func146.trans (congrArg some (by kernel_rfl))
  f266 := Tryz.func127.trans (congrArg some (by kernel_rfl))
  f267 := Tryz.func130.trans (congrArg some (by kernel_rfl))
  f268 := Tryz.func125.trans (congrArg some (by kernel_rfl))
  f314 := Tryz.func137.trans (congrArg some (by kernel_rfl))
  t0 := Tryz.underlying0
  a0 := Tryz.isAgg0
  z0 := Tryz.sizeOf0
  v0 := Tryz.zeroValue0
  t3 := Tryz.underlying3
  a3 := Tryz.isAgg3
  z3 := Tryz.sizeOf3
  v3 := Tryz.zeroValue3
  t4 := Tryz.underlying4
  a4 := Tryz.isAgg4
  z4 := Tryz.sizeOf4
  v4 := Tryz.zeroValue4
  t5 := Tryz.underlying5
  a5 := Tryz.isAgg5
  z5 := Tryz.sizeOf5
  v5 := Tryz.zeroValue5
  t9 := Tryz.underlying9
  a9 := Tryz.isAgg9
  z9 := Tryz.sizeOf9
  v9 := Tryz.zeroValue9
  t21 := Tryz.underlying21
  a21 := Tryz.isAgg21
  z21 := Tryz.sizeOf21
  v21 := Tryz.zeroValue21
  t31 := Tryz.underlying81
  a31 := Tryz.isAgg81
  z31 := Tryz.sizeOf81
  v31 := Tryz.zeroValue81
  t46 := Tryz.underlying110
  a46 := Tryz.isAgg110
  z46 := Tryz.sizeOf110
  v46 := Tryz.zeroValue110
  t51 := Tryz.underlying140
  a51 := Tryz.isAgg140
  z51 := Tryz.sizeOf140
  v51 := Tryz.zeroValue140
  t105 := Tryz.underlying167
  a105 := Tryz.isAgg167
  z105 := Tryz.sizeOf167
  v105 := Tryz.zeroValue167
  t119 := Tryz.underlying182
  a119 := Tryz.isAgg182
  z119 := Tryz.sizeOf182
  t138 := Tryz.underlying184
  a138 := Tryz.isAgg184
  z138 := Tryz.sizeOf184
  v138 := Tryz.zeroValue184
  t139 := Tryz.underlying185
  a139 := Tryz.isAgg185
  z139 := Tryz.sizeOf185
  v139 := Tryz.zeroValue185
  t146 := Tryz.underlying170
  a146 := Tryz.isAgg170
  z146 := Tryz.sizeOf170
  v146 := Tryz.zeroValue170
  g1 := by kernel_rfl
  g3 := by kernel_rfl
  g4 := by kernel_rfl }
open Go.RowKit Go.Lib in
/-- strings.Split. (LAID: no walk: one application.) -/
theorem Tryz.strings_Split (s sep : ByteArray) (m : Int) (w : World) (hs : s.size < 4294967281) (hm : w.cell? ⟨0, 0, none⟩ = some (.int .i64 m)) (h1 : 1 ≤ sep.size) :
    Calls Tryz.prog 66 #[.string s, .string sep] w fun e w' =>
      e = .returned (.slice (some ⟨w.heap.size, 0, none⟩) (Lib.countB s sep + 1) (Lib.countB s sep + 1)) ∧ w' = w.alloc (.cells ((Lib.splitB sep 0 (Lib.countB s sep) s).map Value.string).toArray 9) := Any.strings_Split Tryz.lays146 (by kernel_rfl) s sep m w hs hm h1
def Tryz.laysM146_ren : Go.Shelf.Ren := ⟨fun | 146 => 66 | 221 => 102 | 268 => 125 | 138 => 84 | 143 => 76 | 195 => 111 | 197 => 135 | 218 => 112 | 219 => 107 | 260 => 146 | 217 => 105 | 225 => 128 | 224 => 129 | 267 => 130 | 266 => 127 | 314 => 137 | n => n, fun | 9 => 9 | 31 => 81 | 3 => 3 | 4 => 4 | 0 => 0 | 105 => 167 | 21 => 21 | 5 => 5 | 46 => 110 | 119 => 182 | 139 => 185 | 138 => 184 | 146 => 170 | 51 => 140 | n => n, fun | 1 => 0 | 3 => 2 | 4 => 3 | n => n⟩
theorem Tryz.laysM146 : Go.Proofs.LaysM.n146 Tryz.prog Tryz.laysM146_ren := {
  mixed := by kernel_rfl
  f138 := Tryz.func84.trans (congrArg some (by kernel_rfl))
  f143 := Tryz.func76.trans (congrArg some (by kernel_rfl))
  f146 := Tryz.func66.trans (congrArg some (by kernel_rfl))
  f195 := Tryz.func111.trans (congrArg some (by kernel_rfl))
  f197 := Tryz.func135.trans (congrArg some (by kernel_rfl))
  f217 := Tryz.func105.trans (congrArg some (by kernel_rfl))
  f218 := Tryz.func112.trans (congrArg some (by kernel_rfl))
  f219 := Tryz.func107.trans (congrArg some (by kernel_rfl))
  f221 := Tryz.func102.trans (congrArg some (by kernel_rfl))
  f224 := Tryz.func129.trans (congrArg some (by kernel_rfl))
  f225 := Tryz.func128.trans (congrArg some (by kernel_rfl))
  f260 := Tryz.func146.trans (congrArg some (by kernel_rfl))
  f266 := Tryz.func127.trans (congrArg some (by kernel_rfl))
  f267 := Tryz.func130.trans (congrArg some (by kernel_rfl))
  f268 := Tryz.func125.trans (congrArg some (by kernel_rfl))
  f314 := Tryz.func137.trans (congrArg some (by kernel_rfl))
  t0 := Tryz.underlying0
  a0 := Tryz.isAgg0
  z0 := Tryz.sizeOf0
  v0 := Tryz.zeroValue0
  t3 := Tryz.underlying3
  a3 := Tryz.isAgg3
  z3 := Tryz.sizeOf3
  v3 := Tryz.zeroValue3
  t4 := Tryz.underlying4
  a4 := Tryz.isAgg4
  z4 := Tryz.sizeOf4
  v4 := Tryz.zeroValue4
  t5 := Tryz.underlying5
  a5 := Tryz.isAgg5
  z5 := Tryz.sizeOf5
  v5 := Tryz.zeroValue5
  t9 := Tryz.underlying9
  a9 := Tryz.isAgg9
  z9 := Tryz.sizeOf9
  v9 := Tryz.zeroValue9
  t21 := Tryz.underlying21
  a21 := Tryz.isAgg21
  z21 := Tryz.sizeOf21
  v21 := Tryz.zeroValue21
  t31 := Tryz.underlying81
  a31 := Tryz.isAgg81
  z31 := Tryz.sizeOf81
  v31 := Tryz.zeroValue81
  t46 := Tryz.underlying110
  a46 := Tryz.isAgg110
  z46 := Tryz.sizeOf110
  v46 := Tryz.zeroValue110
  t51 := Tryz.underlying140
  a51 := Tryz.isAgg140
  z51 := Tryz.sizeOf140
  v51 := Tryz.zeroValue140
  t105 := Tryz.underlying167
  a105 := Tryz.isAgg167
  z105 := Tryz.sizeOf167
  v105 := Tryz.zeroValue167
  t119 := Tryz.underlying182
  a119 := Tryz.isAgg182
  z119 := Tryz.sizeOf182
  t138 := Tryz.underlying184
  a138 := Tryz.isAgg184
  z138 := Tryz.sizeOf184
  v138 := Tryz.zeroValue184
  t139 := Tryz.underlying185
  a139 := Tryz.isAgg185
  z139 := Tryz.sizeOf185
  v139 := Tryz.zeroValue185
  t146 := Tryz.underlying170
  a146 := Tryz.isAgg170
  z146 := Tryz.sizeOf170
  v146 := Tryz.zeroValue170
  g1 := by kernel_rfl
  g3 := by kernel_rfl
  g4 := by kernel_rfl
  i0 := by kernel_rfl
  i3 := by kernel_rfl
  i4 := by kernel_rfl
  i5 := by kernel_rfl
  i9 := by kernel_rfl
  i21 := by kernel_rfl
  i31 := by kernel_rfl
  i46 := by kernel_rfl
  i51 := by kernel_rfl
  i105 := by kernel_rfl
  i138 := by kernel_rfl
  i139 := by kernel_rfl
  i146 := by kernel_rfl
  m1 := by kernel_rfl
  s1_3 := fun w h => Go.Proofs.cell_of_shapedOpen_int (zero := #[.int .i64 0]) (t := 3) h (of_decide_eq_true (by kernel_rfl)) (by kernel_rfl) rfl (by kernel_rfl) (by kernel_rfl) Tryz.underlying3
  m3 := by kernel_rfl
  m4 := by kernel_rfl }
open Go.RowKit Go.Lib in
/-- strings.Split, sep not empty. (LAID: no walk: one application.) -/
theorem Tryz.strings_Split_shaped (s sep : ByteArray) (w : World) (h : w.ShapedOpen Tryz.prog) (hs : s.size < 4294967281) (h1 : 1 ≤ sep.size) :
    Calls Tryz.prog 66 #[.string s, .string sep] w fun e w' =>
      e = .returned (.slice (some ⟨w.heap.size, 0, none⟩) (Lib.countB s sep + 1) (Lib.countB s sep + 1)) ∧ w' = w.alloc (.cells ((Lib.splitB sep 0 (Lib.countB s sep) s).map Value.string).toArray 9) := Any.strings_Split_shaped Tryz.laysM146 s sep w h hs h1
def Tryz.lays197_ren : Go.Shelf.Ren := ⟨fun | 197 => 135 | 260 => 146 | n => n, fun | 9 => 9 | 21 => 21 | 3 => 3 | 4 => 4 | 5 => 5 | 105 => 167 | 119 => 182 | 0 => 0 | 46 => 110 | 139 => 185 | 138 => 184 | n => n, fun | 3 => 2 | 4 => 3 | n => n⟩
theorem Tryz.lays197 : Go.Proofs.Lays.n197 Tryz.prog Tryz.lays197_ren := {
  mixed := by kernel_rfl
  f197 := Tryz.func135.trans (congrArg some (by kernel_rfl))
  f260 := Tryz.func146.trans (congrArg some (by kernel_rfl))
  t0 := Tryz.underlying0
  a0 := Tryz.isAgg0
  z0 := Tryz.sizeOf0
  v0 := Tryz.zeroValue0
  t3 := Tryz.underlying3
  a3 := Tryz.isAgg3
  z3 := Tryz.sizeOf3
  v3 := Tryz.zeroValue3
  t4 := Tryz.underlying4
  a4 := Tryz.isAgg4
  z4 := Tryz.sizeOf4
  v4 := Tryz.zeroValue4
  t5 := Tryz.underlying5
  a5 := Tryz.isAgg5
  z5 := Tryz.sizeOf5
  v5 := Tryz.zeroValue5
  t9 := Tryz.underlying9
  a9 := Tryz.isAgg9
  z9 := Tryz.sizeOf9
  v9 := Tryz.zeroValue9
  t21 := Tryz.underlying21
  a21 := Tryz.isAgg21
  z21 := Tryz.sizeOf21
  v21 := Tryz.zeroValue21
  t46 := Tryz.underlying110
  a46 := Tryz.isAgg110
  z46 := Tryz.sizeOf110
  v46 := Tryz.zeroValue110
  t105 := Tryz.underlying167
  a105 := Tryz.isAgg167
  z105 := Tryz.sizeOf167
  v105 := Tryz.zeroValue167
  t119 := Tryz.underlying182
  a119 := Tryz.isAgg182
  z119 := Tryz.sizeOf182
  t138 := Tryz.underlying184
  a138 := Tryz.isAgg184
  z138 := Tryz.sizeOf184
  v138 := Tryz.zeroValue184
  t139 := Tryz.underlying185
  a139 := Tryz.isAgg185
  z139 := Tryz.sizeOf185
  v139 := Tryz.zeroValue185
  g3 := by kernel_rfl
  g4 := by kernel_rfl }
open Go.RowKit Go.Lib in
/-- unicode/utf8.DecodeRuneInString: "DecodeRuneInString is like DecodeRune but its input is a string.": ("DecodeRune unpacks the first UTF-8 encoding in p and returns the rune and its width in bytes."): WHERE s BEGINS WITH AN ASCII BYTE x: (x, 1). (LAID: no walk: one application.) -/
theorem Tryz.utf8_DecodeRuneInString_ascii (s : ByteArray) (x : UInt8) (w : World) (h0 : s.data.toList[0]? = some x) (hx : x.toNat < 128) :
    Calls Tryz.prog 135 #[.string s] w fun e w' => e = .returned (.tuple #[.int .i32 x.toNat, .int .i64 1]) ∧ w' = w := Any.utf8_DecodeRuneInString_ascii Tryz.lays197 s x w h0 hx
open Go.RowKit Go.Lib in
theorem Tryz.utf8_RuneCountInString_ascii (s : ByteArray) (w : World) (hs : s.size < 4294967281) (hascii : ∀ (j : Nat) b, s.data.toList[j]? = some b → b.toNat < 128) :
    Calls Tryz.prog 111 #[.string s] w fun e w' => e = .returned (.int .i64 s.size) ∧ w' = w.iter s s.size := Any.utf8_RuneCountInString_ascii Tryz.lays195 s w hs hascii
def Tryz.lays268_ren : Go.Shelf.Ren := ⟨fun | 268 => 125 | 195 => 111 | 197 => 135 | 260 => 146 | n => n, fun | 9 => 9 | 3 => 3 | 31 => 81 | 4 => 4 | 105 => 167 | 21 => 21 | 0 => 0 | 5 => 5 | 119 => 182 | 46 => 110 | 139 => 185 | 138 => 184 | n => n, fun | 3 => 2 | 4 => 3 | n => n⟩
theorem Tryz.lays268 : Go.Proofs.Lays.n268 Tryz.prog Tryz.lays268_ren := {
  mixed := by kernel_rfl
  f195 := Tryz.func111.trans (congrArg some (by kernel_rfl))
  f197 := Tryz.func135.trans (congrArg some (by kernel_rfl))
  f260 := Tryz.func146.trans (congrArg some (by kernel_rfl))
  f268 := Tryz.func125.trans (congrArg some (by kernel_rfl))
  t0 := Tryz.underlying0
  a0 := Tryz.isAgg0
  z0 := Tryz.sizeOf0
  v0 := Tryz.zeroValue0
  t3 := Tryz.underlying3
  a3 := Tryz.isAgg3
  z3 := Tryz.sizeOf3
  v3 := Tryz.zeroValue3
  t4 := Tryz.underlying4
  a4 := Tryz.isAgg4
  z4 := Tryz.sizeOf4
  v4 := Tryz.zeroValue4
  t5 := Tryz.underlying5
  a5 := Tryz.isAgg5
  z5 := Tryz.sizeOf5
  v5 := Tryz.zeroValue5
  t9 := Tryz.underlying9
  a9 := Tryz.isAgg9
  z9 := Tryz.sizeOf9
  v9 := Tryz.zeroValue9
  t21 := Tryz.underlying21
  a21 := Tryz.isAgg21
  z21 := Tryz.sizeOf21
  v21 := Tryz.zeroValue21
  t31 := Tryz.underlying81
  a31 := Tryz.isAgg81
  z31 := Tryz.sizeOf81
  v31 := Tryz.zeroValue81
  t46 := Tryz.underlying110
  a46 := Tryz.isAgg110
  z46 := Tryz.sizeOf110
  v46 := Tryz.zeroValue110
  t105 := Tryz.underlying167
  a105 := Tryz.isAgg167
  z105 := Tryz.sizeOf167
  v105 := Tryz.zeroValue167
  t119 := Tryz.underlying182
  a119 := Tryz.isAgg182
  z119 := Tryz.sizeOf182
  t138 := Tryz.underlying184
  a138 := Tryz.isAgg184
  z138 := Tryz.sizeOf184
  v138 := Tryz.zeroValue184
  t139 := Tryz.underlying185
  a139 := Tryz.isAgg185
  z139 := Tryz.sizeOf185
  v139 := Tryz.zeroValue185
  g3 := by kernel_rfl
  g4 := by kernel_rfl }
open Go.RowKit Go.Lib in
theorem Tryz.strings_explode_all (s : ByteArray) (n : Int) (w : World) (hn : n < 0) (hs : s.size < 4294967281) (hascii : ∀ (j : Nat) b, s.data.toList[j]? = some b → b.toNat < 128) :
    Calls Tryz.prog 125 #[.string s, .int .i64 n] w fun e w' =>
      e = .returned (.slice (some ⟨(w.iter s s.size).heap.size, 0, none⟩) s.size s.size) ∧ w' = (w.iter s s.size).alloc (.cells ((Lib.charsB s).map Value.string).toArray 9) := Any.strings_explode_all Tryz.lays268 (by kernel_rfl) s n w hn hs hascii
open Go.RowKit Go.Lib in
/-- strings.genSplit at sep == "", n < 0: 'return explode(s, n)'. (LAID: no walk: one application.) -/
theorem Tryz.strings_genSplit_chars (s sep : ByteArray) (sv n : Int) (w : World) (h0 : sep.size = 0) (hn : n < 0) (hs : s.size < 4294967281) (hascii : ∀ (j : Nat) b, s.data.toList[j]? = some b → b.toNat < 128) :
    Calls Tryz.prog 102 #[.string s, .string sep, .int .i64 sv, .int .i64 n] w fun e w' =>
      e = .returned (.slice (some ⟨(w.iter s s.size).heap.size, 0, none⟩) s.size s.size) ∧ w' = (w.iter s s.size).alloc (.cells ((Lib.charsB s).map Value.string).toArray 9) := Any.strings_genSplit_chars Tryz.lays221 (by kernel_rfl) s sep sv n w h0 hn hs hascii
open Go.RowKit Go.Lib in
/-- strings.Split(s, ""), s ASCII: a piece a byte. (LAID: no walk: one application.) -/
theorem Tryz.strings_Split_chars (s sep : ByteArray) (w : World) (h0 : sep.size = 0) (hs : s.size < 4294967281) (hascii : ∀ (j : Nat) b, s.data.toList[j]? = some b → b.toNat < 128) :
    Calls Tryz.prog 66 #[.string s, .string sep] w fun e w' =>
      e = .returned (.slice (some ⟨(w.iter s s.size).heap.size, 0, none⟩) s.size s.size) ∧ w' = (w.iter s s.size).alloc (.cells ((Lib.charsB s).map Value.string).toArray 9) := Any.strings_Split_chars Tryz.lays146 (by kernel_rfl) s sep w h0 hs hascii
def Tryz.lays260_ren : Go.Shelf.Ren := ⟨fun | 260 => 146 | n => n, fun | 9 => 9 | 21 => 21 | 3 => 3 | 4 => 4 | 5 => 5 | 119 => 182 | 0 => 0 | 46 => 110 | 139 => 185 | 138 => 184 | n => n, fun | 3 => 2 | 4 => 3 | n => n⟩
theorem Tryz.lays260 : Go.Proofs.Lays.n260 Tryz.prog Tryz.lays260_ren := {
  mixed := by kernel_rfl
  f260 := Tryz.func146.trans (congrArg some (by kernel_rfl))
  t0 := Tryz.underlying0
  a0 := Tryz.isAgg0
  z0 := Tryz.sizeOf0
  v0 := Tryz.zeroValue0
  t3 := Tryz.underlying3
  a3 := Tryz.isAgg3
  z3 := Tryz.sizeOf3
  v3 := Tryz.zeroValue3
  t4 := Tryz.underlying4
  a4 := Tryz.isAgg4
  z4 := Tryz.sizeOf4
  v4 := Tryz.zeroValue4
  t5 := Tryz.underlying5
  a5 := Tryz.isAgg5
  z5 := Tryz.sizeOf5
  v5 := Tryz.zeroValue5
  t9 := Tryz.underlying9
  a9 := Tryz.isAgg9
  z9 := Tryz.sizeOf9
  v9 := Tryz.zeroValue9
  t21 := Tryz.underlying21
  a21 := Tryz.isAgg21
  z21 := Tryz.sizeOf21
  v21 := Tryz.zeroValue21
  t46 := Tryz.underlying110
  a46 := Tryz.isAgg110
  z46 := Tryz.sizeOf110
  v46 := Tryz.zeroValue110
  t119 := Tryz.underlying182
  a119 := Tryz.isAgg182
  z119 := Tryz.sizeOf182
  t138 := Tryz.underlying184
  a138 := Tryz.isAgg184
  z138 := Tryz.sizeOf184
  v138 := Tryz.zeroValue184
  t139 := Tryz.underlying185
  a139 := Tryz.isAgg185
  z139 := Tryz.sizeOf185
  v139 := Tryz.zeroValue185
  g3 := by kernel_rfl
  g4 := by kernel_rfl }
open Go.RowKit Go.Lib in
theorem Tryz.utf8_decodeRuneInStringSlow (s : ByteArray) (w : World) (hT : Lib.Utf8Tabs 2 3 w) :
    Calls Tryz.prog 146 #[.string s] w fun e w' => e = .returned (.tuple #[.int .i32 (Lib.decodeGo s).1, .int .i64 (Lib.decodeGo s).2]) ∧ Below w.heap.size w w' := Any.utf8_decodeRuneInStringSlow Tryz.lays260 s w hT
open Go.RowKit Go.Lib in
/-- **unicode/utf8.DecodeRuneInString AT EVERY STRING.** (LAID: no walk: one application.) -/
theorem Tryz.utf8_DecodeRuneInString (s : ByteArray) (w : World) (hT : Lib.Utf8Tabs 2 3 w) :
    Calls Tryz.prog 135 #[.string s] w fun e w' => e = .returned (.tuple #[.int .i32 (Lib.decodeGo s).1, .int .i64 (Lib.decodeGo s).2]) ∧ Below w.heap.size w w' := Any.utf8_DecodeRuneInString Tryz.lays197 s w hT
end Go.Proofs.YtjgeoeeikfjmdaaGreatDoor
/- fields: what the functions compute that read numbers and texts. -/
namespace Go.Proofs.YtjgeoeeikfjmdaaGreatDoor
set_option linter.unnecessarySimpa false
set_option linter.unusedSimpArgs false
open Go.RowKit Fld
set_option linter.unusedVariables false

theorem indexByte0_c (l : List UInt8) (w : World) : Ret Tryz.prog 70 [str l, .int .u8 ((0 : Nat) : Int)] w fun v w' => v = .int .i64 (Lib.indexByte l 0) ∧ w' = w :=
  Ret.of_calls Tryz.func70 (by kernel_rfl) (Tryz.strings_IndexByte ⟨⟨l⟩⟩ 0 w)

theorem cut2_s (s : List UInt8) (a b : Nat) (hs : s.length ≤ 9223372036854775807) (w : World) :
    Ret Tryz.prog 119 [str s, .int .u8 a, .int .u8 b] w fun v w' => v = str (s.dropWhile (one a b)) ∧ w = w' := by
  refine Ret.enter Tryz.func119 rfl Tryz.ntmps119 (by kernel_rfl) rfl ?_
  refine KW.seq (KW.region ?_)
  refine OW.val rfl rfl (EX.assign rfl) ?_
  refine OW.nil ?_
  refine KW.seq (KW.block ?_)
  refine KW.loop1 (fun (l : List UInt8) => l.length ≤ s.length ∧ l.dropWhile (one a b) = s.dropWhile (one a b)) (fun (l : List UInt8) => [(0, str (l)), (1, .int .u8 ((a : Nat) : Int)), (2, .int .u8 ((b : Nat) : Int))]) (fun (l : List UInt8) => w) (fun (l : List UInt8) => l.length) (s) ⟨rfl, rfl, rfl, trivial⟩ rfl ?_ ?_
  · exact ⟨Nat.le_refl _, rfl⟩
  · rintro l ⟨hl, he⟩
    refine KW.seq (KW.seq ?_)
    refine KW.region ?_
    refine OW.val rfl rfl (EX.move rfl) ?_
    refine OW.val rfl rfl (EX.lenS Tryz.underlying9 rfl) ?_
    refine OW.val rfl rfl (by first | exact EX.gtrN (b := 0) rfl rfl | exact EX.gtrZ rfl rfl) ?_
    refine OW.val rfl rfl (EX.move rfl) ?_
    refine OW.splitD 10 rfl (fun h0 => ?_) (fun h0 => ?_)
    · obtain ⟨c, r, rfl⟩ := List.exists_cons_of_length_pos h0
      have hl' : r.length + 1 ≤ s.length := by simpa using hl
      refine OW.val rfl rfl (EX.move rfl) ?_
      refine OW.val rfl rfl (EX.indexS (i := 0) Tryz.underlying9 rfl rfl (List.getElem?_eq_getElem (by omega))) ?_
      refine OW.val rfl rfl (EX.move rfl) ?_
      refine OW.val rfl rfl (by first | exact EX.eqlN rfl rfl | exact EX.eqlZ rfl rfl) ?_
      refine OW.val rfl rfl (EX.move rfl) ?_
      refine OW.splitD 15 rfl (fun h1 => ?_) (fun h1 => ?_)
      · refine OW.pass rfl rfl ?_
        refine OW.pass rfl rfl ?_
        refine OW.pass rfl rfl ?_
        refine OW.pass rfl rfl ?_
        refine OW.val rfl rfl (EX.pickT rfl rfl) ?_
        refine OW.val rfl rfl (EX.pickT rfl rfl) ?_
        refine OW.nil ?_
        refine KW.condT rfl (KW.skip (KW.block (KW.region ?_)))
        refine OW.val rfl rfl (EX.move rfl) ?_
        refine OW.val rfl rfl (EX.sliceLE (i := 1) Tryz.underlying9 rfl rfl (by omega)) ?_
        refine OW.val rfl rfl (EX.assign rfl) ?_
        refine OW.nil ?_
        refine KW.leave ?_
        refine KW.back1 (r) ⟨rfl, rfl, rfl, trivial⟩ rfl ?_ (by simp)
        exact ⟨by omega, by rw [← he, List.dropWhile_cons_of_pos (by simp [one] at h1 ⊢; simp [h1])]⟩
      · refine OW.val rfl rfl (EX.move rfl) ?_
        refine OW.val rfl rfl (EX.indexS (i := 0) Tryz.underlying9 rfl rfl (List.getElem?_eq_getElem (by omega))) ?_
        refine OW.val rfl rfl (EX.move rfl) ?_
        refine OW.val rfl rfl (by first | exact EX.eqlN rfl rfl | exact EX.eqlZ rfl rfl) ?_
        refine OW.val rfl rfl (EX.pickF rfl rfl) ?_
        refine OW.val rfl rfl (EX.pickT rfl rfl) ?_
        refine OW.nil ?_
        refine KW.condD rfl (fun h2 => ?_) (fun h2 => ?_)
        · refine KW.skip (KW.block (KW.region ?_))
          refine OW.val rfl rfl (EX.move rfl) ?_
          refine OW.val rfl rfl (EX.sliceLE (i := 1) Tryz.underlying9 rfl rfl (by omega)) ?_
          refine OW.val rfl rfl (EX.assign rfl) ?_
          refine OW.nil ?_
          refine KW.leave ?_
          refine KW.back1 (r) ⟨rfl, rfl, rfl, trivial⟩ rfl ?_ (by simp)
          exact ⟨by omega, by rw [← he, List.dropWhile_cons_of_pos (by simp [one] at h2 ⊢; simp [h2])]⟩
        · refine KW.exit rfl (KW.seq (KW.region ?_))
          refine OW.val rfl rfl (EX.move rfl) ?_
          refine OW.val rfl rfl (EX.assign rfl) ?_
          refine OW.nil ?_
          refine KW.ret (ret1 rfl rfl ?_)
          rw [List.dropWhile_cons_of_neg (by simp [one] at h1 h2 ⊢; simp [h1, h2])] at he
          exact ⟨by rw [he], rfl⟩
    · refine OW.pass rfl rfl ?_
      refine OW.pass rfl rfl ?_
      refine OW.pass rfl rfl ?_
      refine OW.pass rfl rfl ?_
      refine OW.pass rfl rfl ?_
      refine OW.pass rfl rfl ?_
      refine OW.pass rfl rfl ?_
      refine OW.pass rfl rfl ?_
      refine OW.pass rfl rfl ?_
      refine OW.pass rfl rfl ?_
      refine OW.val rfl rfl (EX.pickF rfl rfl) ?_
      refine OW.nil ?_
      refine KW.condF rfl (KW.exit rfl (KW.seq (KW.region ?_)))
      refine OW.val rfl rfl (EX.move rfl) ?_
      refine OW.val rfl rfl (EX.assign rfl) ?_
      refine OW.nil ?_
      refine KW.ret (ret1 rfl rfl ?_)
      have : l = [] := List.eq_nil_of_length_eq_zero (by omega)
      subst this
      exact ⟨by rw [← he]; rfl, rfl⟩

theorem refNumber_s (s : List UInt8) (hs : s.length ≤ 140737488355328) (w : World) :
    Ret Tryz.prog 89 [str s] w fun v w' => v = .tuple #[.int .i64 ((num s).1 : Nat), .int .i64 ((num s).2 : Nat)] ∧ w = w' := by
  refine Ret.enter Tryz.func89 rfl Tryz.ntmps89 (by kernel_rfl) rfl ?_
  refine KW.seq (KW.region ?_)
  refine OW.val rfl rfl (EX.assign rfl) ?_
  refine OW.val rfl rfl (EX.assign rfl) ?_
  refine OW.nil ?_
  refine KW.seq (KW.region ?_)
  refine OW.val rfl rfl (EX.move rfl) ?_
  refine OW.call rfl rfl rfl (cut2_s s 32 32 (by omega) w) ?_
  rintro _ _ ⟨rfl, rfl⟩
  refine OW.val rfl rfl (EX.assign rfl) ?_
  refine OW.nil ?_
  refine KW.seq (KW.region ?_)
  refine OW.val rfl rfl (EX.assign rfl) ?_
  refine OW.nil ?_
  refine KW.seq ?_
  have h1 : (s.dropWhile (one 32 32)).length ≤ s.length := (List.dropWhile_suffix _).length_le
  generalize hs1 : s.dropWhile (one 32 32) = s1 at h1 ⊢
  refine KW.cut2 (fun (l : List UInt8) (n : Nat) => l.length ≤ s.length ∧ l = s1.dropWhile oct ∧ n = fold 8 0 (s1.takeWhile oct)) (fun (l : List UInt8) (n : Nat) => [(0, str (l)), (4, .int .i64 ((n : Nat) : Int))]) (fun (l : List UInt8) (n : Nat) => w) ?_ ?_
  · refine KW.block ?_
    refine KW.loop2 (fun (l : List UInt8) (n : Nat) => l.length ≤ s.length ∧ n ≤ 90071992547409920 + 255 ∧ l.dropWhile oct = s1.dropWhile oct ∧ fold 8 n (l.takeWhile oct) = fold 8 0 (s1.takeWhile oct)) (fun (l : List UInt8) (n : Nat) => [(0, str (l)), (4, .int .i64 ((n : Nat) : Int))]) (fun (l : List UInt8) (n : Nat) => w) (fun (l : List UInt8) (n : Nat) => l.length) (s1) (0) ⟨rfl, rfl, trivial⟩ rfl ?_ ?_
    · exact ⟨h1, by omega, rfl, rfl⟩
    · rintro l n ⟨hl, hn, he, hf⟩
      refine KW.seq (KW.seq ?_)
      refine KW.region ?_
      refine OW.val rfl rfl (EX.move rfl) ?_
      refine OW.val rfl rfl (EX.lenS Tryz.underlying9 rfl) ?_
      refine OW.val rfl rfl (by first | exact EX.gtrN (b := 0) rfl rfl | exact EX.gtrZ rfl rfl) ?_
      refine OW.val rfl rfl (EX.move rfl) ?_
      refine OW.splitD 10 rfl (fun h0 => ?_) (fun h0 => ?_)
      · obtain ⟨c, r, rfl⟩ := List.exists_cons_of_length_pos h0
        have hl' : r.length + 1 ≤ s.length := by simpa using hl
        have hc : c.toNat < 256 := c.toNat_lt
        have hc0 : (c :: r)[0].toNat = c.toNat := rfl
        refine OW.val rfl rfl (EX.move rfl) ?_
        refine OW.val rfl rfl (EX.indexS (i := 0) Tryz.underlying9 rfl rfl (List.getElem?_eq_getElem (by omega))) ?_
        refine OW.val rfl rfl (by first | exact EX.geqN (b := 48) rfl rfl | exact EX.geqZ rfl rfl) ?_
        refine OW.val rfl rfl (EX.pickT rfl rfl) ?_
        refine OW.val rfl rfl (EX.move rfl) ?_
        refine OW.splitD 15 rfl (fun h2 => ?_) (fun h2 => ?_)
        · refine OW.val rfl rfl (EX.move rfl) ?_
          refine OW.val rfl rfl (EX.indexS (i := 0) Tryz.underlying9 rfl rfl (List.getElem?_eq_getElem (by omega))) ?_
          refine OW.val rfl rfl (by first | exact EX.leqN (b := 55) rfl rfl | exact EX.leqZ rfl rfl) ?_
          refine OW.val rfl rfl (EX.pickT rfl rfl) ?_
          refine OW.nil ?_
          refine KW.condD rfl (fun h3 => ?_) (fun h3 => ?_)
          · have ho : oct c = true := by simp only [oct, Bool.and_eq_true, decide_eq_true_eq]; omega
            rw [List.takeWhile_cons_of_pos ho, fold] at hf
            rw [List.dropWhile_cons_of_pos ho] at he
            refine KW.skip (KW.block (KW.seq (KW.seq (KW.region ?_))))
            refine OW.val rfl rfl (EX.move rfl) ?_
            refine OW.val rfl rfl (by first | exact EX.leqN (b := 9007199254740992) rfl rfl | exact EX.leqZ rfl rfl) ?_
            refine OW.nil ?_
            refine KW.condD rfl (fun h4 => ?_) (fun h4 => ?_)
            · rw [if_pos h4] at hf
              refine KW.region ?_
              refine OW.val rfl rfl (EX.move rfl) ?_
              refine OW.val rfl rfl (by first | exact EX.mulN (a := 8) (m := 9223372036854775807) rfl rfl rfl (by omega) | exact EX.mulZ (m := 9223372036854775807) rfl rfl rfl rfl (by omega)) ?_
              refine OW.val rfl rfl (EX.move rfl) ?_
              refine OW.val rfl rfl (EX.indexS (i := 0) Tryz.underlying9 rfl rfl (List.getElem?_eq_getElem (by omega))) ?_
              refine OW.val rfl rfl (EX.subN (b := 48) (m := 255) rfl rfl rfl (by omega)) ?_
              refine OW.val rfl rfl (by first | exact EX.convN (m := 9223372036854775807) Tryz.underlying5 Tryz.underlying3 rfl rfl (by omega) | exact EX.convZ Tryz.underlying5 Tryz.underlying3 rfl) ?_
              refine OW.val rfl rfl (by first | exact EX.addN (m := 9223372036854775807) rfl rfl rfl (by omega) | exact EX.addZ (m := 9223372036854775807) rfl rfl rfl rfl (by omega)) ?_
              refine OW.val rfl rfl (EX.assign rfl) ?_
              refine OW.nil ?_
              refine KW.region ?_
              refine OW.val rfl rfl (EX.move rfl) ?_
              refine OW.val rfl rfl (EX.sliceLE (i := 1) Tryz.underlying9 rfl rfl (by omega)) ?_
              refine OW.val rfl rfl (EX.assign rfl) ?_
              refine OW.nil ?_
              refine KW.leave ?_
              refine KW.back2 (r) (8 * n + (c.toNat - 48)) ⟨rfl, rfl, trivial⟩ rfl ?_ (by simp)
              exact ⟨by omega, by omega, he, hf⟩
            · rw [if_neg h4] at hf
              refine KW.skip (KW.region ?_)
              refine OW.val rfl rfl (EX.move rfl) ?_
              refine OW.val rfl rfl (EX.sliceLE (i := 1) Tryz.underlying9 rfl rfl (by omega)) ?_
              refine OW.val rfl rfl (EX.assign rfl) ?_
              refine OW.nil ?_
              refine KW.leave ?_
              refine KW.back2 (r) (n) ⟨rfl, rfl, trivial⟩ rfl ?_ (by simp)
              exact ⟨by omega, by omega, he, hf⟩
          · have ho : ¬ oct c = true := by simp only [oct, Bool.and_eq_true, decide_eq_true_eq]; omega
            rw [List.dropWhile_cons_of_neg ho] at he
            rw [List.takeWhile_cons_of_neg ho] at hf
            refine KW.exit rfl ?_
            refine KW.meet2 (_) (n) ⟨rfl, rfl, trivial⟩ rfl ?_
            exact ⟨hl, he, hf⟩
        · have ho : ¬ oct c = true := by simp only [oct, Bool.and_eq_true, decide_eq_true_eq]; omega
          rw [List.dropWhile_cons_of_neg ho] at he
          rw [List.takeWhile_cons_of_neg ho] at hf
          refine OW.pass rfl rfl ?_
          refine OW.pass rfl rfl ?_
          refine OW.pass rfl rfl ?_
          refine OW.val rfl rfl (EX.pickF rfl rfl) ?_
          refine OW.nil ?_
          refine KW.condF rfl (KW.exit rfl ?_)
          refine KW.meet2 (_) (n) ⟨rfl, rfl, trivial⟩ rfl ?_
          exact ⟨hl, he, hf⟩
      · obtain rfl : l = [] := List.eq_nil_of_length_eq_zero (by omega)
        refine OW.pass rfl rfl ?_
        refine OW.pass rfl rfl ?_
        refine OW.pass rfl rfl ?_
        refine OW.val rfl rfl (EX.pickF rfl rfl) ?_
        refine OW.val rfl rfl (EX.move rfl) ?_
        refine OW.pass rfl rfl ?_
        refine OW.pass rfl rfl ?_
        refine OW.pass rfl rfl ?_
        refine OW.val rfl rfl (EX.pickF rfl rfl) ?_
        refine OW.nil ?_
        refine KW.condF rfl (KW.exit rfl ?_)
        refine KW.meet2 (_) (n) ⟨rfl, rfl, trivial⟩ rfl ?_
        exact ⟨by simp, he, hf⟩
  · rintro l n ⟨hl, rfl, rfl⟩
    refine KW.seq (KW.region ?_)
    refine OW.val rfl rfl (EX.move rfl) ?_
    refine OW.call rfl rfl rfl (cut2_s _ 32 0 (by omega) w) ?_
    rintro _ _ ⟨rfl, rfl⟩
    refine OW.val rfl rfl (EX.assign rfl) ?_
    refine OW.nil ?_
    refine KW.seq (KW.seq (KW.region ?_))
    refine OW.val rfl rfl (EX.move rfl) ?_
    refine OW.val rfl rfl (EX.neqS (r := []) rfl rfl) ?_
    refine OW.nil ?_
    refine KW.condD rfl (fun h5 => ?_) (fun h5 => ?_)
    · have hnum : num s = (0, 150) := by simp only [num, hs1]; rw [if_pos h5]
      refine KW.seq (KW.region ?_)
      refine OW.val rfl rfl (EX.assign rfl) ?_
      refine OW.val rfl rfl (EX.assign rfl) ?_
      refine OW.nil ?_
      refine KW.ret (ret2 rfl rfl rfl ?_)
      rw [hnum]
      exact ⟨rfl, rfl⟩
    · refine KW.skip (KW.seq (KW.seq (KW.region ?_)))
      refine OW.val rfl rfl (EX.move rfl) ?_
      refine OW.val rfl rfl (by first | exact EX.gtrN (b := 9007199254740992) rfl rfl | exact EX.gtrZ rfl rfl) ?_
      refine OW.nil ?_
      refine KW.condD rfl (fun h6 => ?_) (fun h6 => ?_)
      · have hnum : num s = (0, 3) := by simp only [num, hs1]; rw [if_neg h5, if_pos h6]
        refine KW.seq (KW.region ?_)
        refine OW.val rfl rfl (EX.assign rfl) ?_
        refine OW.val rfl rfl (EX.assign rfl) ?_
        refine OW.nil ?_
        refine KW.ret (ret2 rfl rfl rfl ?_)
        rw [hnum]
        exact ⟨rfl, rfl⟩
      · have hnum : num s = (fold 8 0 (s1.takeWhile oct), 0) := by simp only [num, hs1]; rw [if_neg h5, if_neg h6]
        refine KW.skip (KW.seq (KW.region ?_))
        refine OW.val rfl rfl (EX.move rfl) ?_
        refine OW.val rfl rfl (EX.assign rfl) ?_
        refine OW.val rfl rfl (EX.assign rfl) ?_
        refine OW.nil ?_
        refine KW.ret (ret2 rfl rfl rfl ?_)
        rw [hnum]
        exact ⟨rfl, rfl⟩

/-- the function that goes over bytes, at any function value -/
theorem over_c (s : List UInt8) (hs : s.length ≤ 140737488355328) (bi bs fid : Nat) (cs : List Value) (p : UInt8 → Bool) (J : Nat → World → Prop) (S : List Nat) (hbi : bi ∉ S) (hbs : bs ∉ S) (hne : bi ≠ bs)
    (hstep : ∀ j w (h : j < s.length), J j w → Ret Tryz.prog fid ([.int .u8 ((s[j]'h).toNat : Int)] ++ cs) w fun v w' => v = .bool (p (s[j]'h)) ∧ Mo w w' S ∧ J (if p (s[j]'h) then j + 1 else j) w')
    (hset : ∀ j w w', J j w → Mo w w' [bi] → J j w')
    (i : Nat) (hi : i ≤ s.length) (w : World) (hB : Bk w bi 3 [.int .i64 (i : Int)]) (hS : Bk w bs 9 [str s]) (hJ : J i w) :
    Ret Tryz.prog 142 [.func (.func fid) #[] cs.toArray, .pointer (some ⟨bi, 0, none⟩), .pointer (some ⟨bs, 0, none⟩)] w fun v w' =>
      v = .tuple #[] ∧ ∃ i' : Nat, i' ≤ s.length ∧ s.drop i' = (s.drop i).dropWhile p ∧ Bk w' bi 3 [.int .i64 (i' : Int)] ∧ Bk w' bs 9 [str s] ∧ J i' w' ∧ Mo w w' (bi :: S) := by
  refine Ret.enter Tryz.func142 rfl Tryz.ntmps142 (by kernel_rfl) rfl ?_
  refine KW.block ?_
  refine KW.loop2 (fun (j : Nat) (wr : World) => j ≤ s.length ∧ (s.drop j).dropWhile p = (s.drop i).dropWhile p ∧ Bk wr bi 3 [.int .i64 (j : Int)] ∧ Bk wr bs 9 [str s] ∧ J j wr ∧ Mo w wr (bi :: S)) (fun (j : Nat) (wr : World) => [(0, .func (.func fid) #[] cs.toArray), (1, .pointer (some ⟨bi, 0, none⟩)), (2, .pointer (some ⟨bs, 0, none⟩))]) (fun (j : Nat) (wr : World) => wr) (fun (j : Nat) (wr : World) => s.length - j) (i) (w) ⟨rfl, rfl, rfl, trivial⟩ rfl ?_ ?_
  · exact ⟨hi, rfl, hB, hS, hJ, Mo.refl _ _⟩
  · rintro j wr ⟨hj, hd, hB, hS, hJ, hm⟩
    refine KW.seq (KW.seq ?_)
    refine KW.region ?_
    refine OW.val rfl rfl (EX.load Tryz.underlying3 rfl rfl (hB.cell_of rfl)) ?_
    refine OW.val rfl rfl (EX.load Tryz.underlying9 rfl rfl (hS.cell_of rfl)) ?_
    refine OW.val rfl rfl (EX.lenS Tryz.underlying9 rfl) ?_
    refine OW.val rfl rfl (by first | exact EX.lssN rfl rfl | exact EX.lssZ rfl rfl) ?_
    refine OW.val rfl rfl (EX.move rfl) ?_
    refine OW.splitD 8 rfl (fun h1 => ?_) (fun h1 => ?_)
    · refine OW.val rfl rfl (EX.move rfl) ?_
      refine OW.val rfl rfl (EX.load Tryz.underlying9 rfl rfl (hS.cell_of rfl)) ?_
      refine OW.val rfl rfl (EX.load Tryz.underlying3 rfl rfl (hB.cell_of rfl)) ?_
      refine OW.val rfl rfl (EX.indexS Tryz.underlying9 rfl rfl (List.getElem?_eq_getElem (by omega))) ?_
      refine OW.callV rfl rfl rfl rfl rfl (hstep j wr h1 hJ) ?_
      rintro _ w1 ⟨rfl, hm1, hJ1⟩
      refine OW.val rfl rfl (EX.pickT rfl rfl) ?_
      refine OW.nil ?_
      have hB1 := hB.mo hm1 hbi
      have hS1 := hS.mo hm1 hbs
      refine KW.cond rfl (fun h2 => ?_) (fun h2 => ?_)
      · rw [if_pos h2] at hJ1
        refine KW.skip (KW.block (KW.region ?_))
        refine OW.val rfl rfl (EX.load Tryz.underlying3 rfl rfl (hB1.cell_of rfl)) ?_
        refine OW.val rfl rfl (by first | exact EX.addN (b := 1) (m := 9223372036854775807) rfl rfl rfl (by omega) | exact EX.addZ (m := 9223372036854775807) rfl rfl rfl rfl (by omega)) ?_
        refine OW.storeB rfl ti3 rfl rfl (by first | rfl | assumption | exact Own.one (by assumption)) (hB1) (by simp) ?_
        rintro w2 hB2 hm2
        refine OW.nil ?_
        refine KW.leave ?_
        refine KW.back2 (j + 1) (w2) ⟨rfl, rfl, rfl, trivial⟩ rfl ?_ (by omega)
        refine ⟨by omega, ?_, hB2, hS1.mo hm2 (by simp; omega), hset _ _ _ hJ1 hm2, (hm.trans (hm1.mono (fun k hk => by simp [hk]))).trans (hm2.mono (by simp))⟩
        rw [← hd, drop_cons s j h1, List.dropWhile_cons_of_pos h2]
      · rw [if_neg (by simp [h2])] at hJ1
        refine KW.exit rfl ?_
        refine KW.done (ret0 rfl ?_)
        refine ⟨rfl, j, by omega, ?_, hB1, hS1, hJ1, hm.trans (hm1.mono (fun k hk => by simp [hk]))⟩
        rw [← hd, drop_cons s j h1, List.dropWhile_cons_of_neg (by simp [h2])]
    · refine OW.pass rfl rfl ?_
      refine OW.pass rfl rfl ?_
      refine OW.pass rfl rfl ?_
      refine OW.pass rfl rfl ?_
      refine OW.pass rfl rfl ?_
      refine OW.val rfl rfl (EX.pickF rfl rfl) ?_
      refine OW.nil ?_
      refine KW.condF rfl (KW.exit rfl ?_)
      refine KW.done (ret0 rfl ?_)
      obtain rfl : j = s.length := by omega
      refine ⟨rfl, s.length, by omega, ?_, hB, hS, hJ, hm⟩
      rw [← hd]; simp

theorem sp_c (c : UInt8) (w : World) : Ret Tryz.prog 143 [.int .u8 (c.toNat : Int)] w fun v w' => v = .bool (one 32 32 c) ∧ w = w' := by
  refine Ret.enter Tryz.func143 rfl Tryz.ntmps143 (by kernel_rfl) rfl ?_
  refine KW.seq (KW.region ?_)
  refine OW.val rfl rfl (EX.assign rfl) ?_
  refine OW.nil ?_
  refine KW.seq (KW.region ?_)
  refine OW.val rfl rfl (EX.move rfl) ?_
  refine OW.val rfl rfl (by first | exact EX.eqlN (b := 32) rfl rfl | exact EX.eqlZ rfl rfl) ?_
  refine OW.val rfl rfl (EX.assign rfl) ?_
  refine OW.nil ?_
  refine KW.ret (ret1 rfl rfl ?_)
  exact ⟨by simp [one], rfl⟩
theorem nul_c (c : UInt8) (w : World) : Ret Tryz.prog 145 [.int .u8 (c.toNat : Int)] w fun v w' => v = .bool (one 32 0 c) ∧ w = w' := by
  refine Ret.enter Tryz.func145 rfl Tryz.ntmps145 (by kernel_rfl) rfl ?_
  refine KW.seq (KW.region ?_)
  refine OW.val rfl rfl (EX.assign rfl) ?_
  refine OW.nil ?_
  refine KW.seq ?_
  refine KW.region ?_
  refine OW.val rfl rfl (EX.move rfl) ?_
  refine OW.val rfl rfl (by first | exact EX.eqlN (b := 32) rfl rfl | exact EX.eqlZ rfl rfl) ?_
  refine OW.val rfl rfl (EX.move rfl) ?_
  refine OW.splitD 5 rfl (fun h1 => ?_) (fun h1 => ?_)
  · refine OW.pass rfl rfl ?_
    refine OW.pass rfl rfl ?_
    refine OW.val rfl rfl (EX.pickT rfl rfl) ?_
    refine OW.val rfl rfl (EX.assign rfl) ?_
    refine OW.nil ?_
    refine KW.ret (ret1 rfl rfl ?_)
    exact ⟨by simp [one, h1], rfl⟩
  · refine OW.val rfl rfl (EX.move rfl) ?_
    refine OW.val rfl rfl (by first | exact EX.eqlN (b := 0) rfl rfl | exact EX.eqlZ rfl rfl) ?_
    refine OW.val rfl rfl (EX.pickF rfl rfl) ?_
    refine OW.val rfl rfl (EX.assign rfl) ?_
    refine OW.nil ?_
    refine KW.ret (ret1 rfl rfl ?_)
    exact ⟨by simp [one, h1], rfl⟩
theorem oct_c (c : UInt8) (bb bn : Nat) (hne : bb ≠ bn) (n : Nat) (hn : n ≤ 90071992547409920 + 255) (w : World) (hB : Bk w bb 4 [.bool (decide (9007199254740992 < n))]) (hN : Bk w bn 3 [.int .i64 (n : Int)]) :
    Ret Tryz.prog 144 [.int .u8 (c.toNat : Int), .pointer (some ⟨bb, 0, none⟩), .pointer (some ⟨bn, 0, none⟩)] w fun v w' => v = .bool (oct c) ∧ Mo w w' [bb, bn] ∧
      ∃ m : Nat, m = (if oct c = true then (if n ≤ 9007199254740992 then 8 * n + (c.toNat - 48) else n) else n) ∧ Bk w' bb 4 [.bool (decide (9007199254740992 < m))] ∧ Bk w' bn 3 [.int .i64 (m : Int)] := by
  have hc : c.toNat < 256 := c.toNat_lt
  refine Ret.enter Tryz.func144 rfl Tryz.ntmps144 (by kernel_rfl) rfl ?_
  refine KW.seq (KW.region ?_)
  refine OW.val rfl rfl (EX.assign rfl) ?_
  refine OW.nil ?_
  refine KW.seq (KW.seq ?_)
  refine KW.region ?_
  refine OW.val rfl rfl (EX.move rfl) ?_
  refine OW.val rfl rfl (by first | exact EX.lssN (b := 48) rfl rfl | exact EX.lssZ rfl rfl) ?_
  refine OW.val rfl rfl (EX.move rfl) ?_
  refine OW.splitD 7 rfl (fun h1 => ?_) (fun h1 => ?_)
  · have ho : oct c = false := by simp only [oct, Bool.and_eq_false_iff, decide_eq_false_iff_not]; omega
    refine OW.pass rfl rfl ?_
    refine OW.pass rfl rfl ?_
    refine OW.val rfl rfl (EX.pickT rfl rfl) ?_
    refine OW.nil ?_
    refine KW.condT rfl (KW.seq (KW.region ?_))
    refine OW.val rfl rfl (EX.assign rfl) ?_
    refine OW.nil ?_
    refine KW.ret (ret1 rfl rfl ?_)
    rw [ho]
    exact ⟨rfl, Mo.refl _ _, n, rfl, hB, hN⟩
  · refine OW.val rfl rfl (EX.move rfl) ?_
    refine OW.val rfl rfl (by first | exact EX.gtrN (b := 55) rfl rfl | exact EX.gtrZ rfl rfl) ?_
    refine OW.val rfl rfl (EX.pickF rfl rfl) ?_
    refine OW.nil ?_
    refine KW.condD rfl (fun h2 => ?_) (fun h2 => ?_)
    · have ho : oct c = false := by simp only [oct, Bool.and_eq_false_iff, decide_eq_false_iff_not]; omega
      refine KW.seq (KW.region ?_)
      refine OW.val rfl rfl (EX.assign rfl) ?_
      refine OW.nil ?_
      refine KW.ret (ret1 rfl rfl ?_)
      rw [ho]
      exact ⟨rfl, Mo.refl _ _, n, rfl, hB, hN⟩
    · have ho : oct c = true := by simp only [oct, Bool.and_eq_true, decide_eq_true_eq]; omega
      refine KW.skip (KW.seq (KW.seq (KW.region ?_)))
      refine OW.val rfl rfl (EX.load Tryz.underlying4 rfl rfl (hB.cell_of rfl)) ?_
      refine OW.val rfl rfl (by first | exact EX.notD rfl | exact EX.notB rfl) ?_
      refine OW.nil ?_
      refine KW.condD rfl (fun h3 => ?_) (fun h3 => ?_)
      · refine KW.seq (KW.region ?_)
        refine OW.val rfl rfl (EX.load Tryz.underlying3 rfl rfl (hN.cell_of rfl)) ?_
        refine OW.val rfl rfl (by first | exact EX.mulN (a := 8) (m := 9223372036854775807) rfl rfl rfl (by omega) | exact EX.mulZ (m := 9223372036854775807) rfl rfl rfl rfl (by omega)) ?_
        refine OW.val rfl rfl (EX.move rfl) ?_
        refine OW.val rfl rfl (EX.subN (b := 48) (m := 255) rfl rfl rfl (by omega)) ?_
        refine OW.val rfl rfl (by first | exact EX.convN (m := 9223372036854775807) Tryz.underlying5 Tryz.underlying3 rfl rfl (by omega) | exact EX.convZ Tryz.underlying5 Tryz.underlying3 rfl) ?_
        refine OW.val rfl rfl (by first | exact EX.addN (m := 9223372036854775807) rfl rfl rfl (by omega) | exact EX.addZ (m := 9223372036854775807) rfl rfl rfl rfl (by omega)) ?_
        refine OW.storeB rfl ti3 rfl rfl (by first | rfl | assumption | exact Own.one (by assumption)) (hN) (by simp) ?_
        rintro w1 hN1 hm1
        refine OW.nil ?_
        refine KW.region ?_
        have hB1 := hB.mo hm1 (by simp; omega)
        refine OW.val rfl rfl (EX.load Tryz.underlying3 rfl rfl (hN1.cell_of rfl)) ?_
        refine OW.val rfl rfl (by first | exact EX.gtrN (b := 9007199254740992) rfl rfl | exact EX.gtrZ rfl rfl) ?_
        refine OW.storeB rfl ti4 rfl rfl (by first | rfl | assumption | exact Own.one (by assumption)) (hB1) (by simp) ?_
        rintro w2 hB2 hm2
        refine OW.nil ?_
        refine KW.seq (KW.region ?_)
        refine OW.val rfl rfl (EX.assign rfl) ?_
        refine OW.nil ?_
        refine KW.ret (ret1 rfl rfl ?_)
        refine ⟨by rw [ho], (hm1.mono (by simp)).trans (hm2.mono (by simp)), _, rfl, ?_, ?_⟩
        · rw [if_pos ho, if_pos (by omega)]; exact hB2
        · rw [if_pos ho, if_pos (by omega)]; exact hN1.mo hm2 (by simp; omega)
      · refine KW.skip (KW.seq (KW.region ?_))
        refine OW.val rfl rfl (EX.assign rfl) ?_
        refine OW.nil ?_
        refine KW.ret (ret1 rfl rfl ?_)
        refine ⟨by rw [ho], Mo.refl _ _, n, ?_, hB, hN⟩
        rw [if_pos ho, if_neg (by omega)]

theorem dropWhile_dropWhile_take (l : List UInt8) (p : UInt8 → Bool) : (l.dropWhile p).takeWhile p = [] := by
  cases h : l.dropWhile p with
  | nil => rfl
  | cons c r =>
    have := List.head_dropWhile_not p (l := l) (by rw [h]; simp)
    simp only [h, List.head_cons] at this
    rw [List.takeWhile_cons_of_neg (by simp [this])]
theorem number_s (s : List UInt8) (hs : s.length ≤ 140737488355328) (w : World) :
    Ret Tryz.prog 132 [str s] w fun v w' => v = .tuple #[.int .i64 ((num s).1 : Nat), .int .i64 ((num s).2 : Nat)] ∧ Ext w w' := by
  refine Ret.enter Tryz.func132 rfl Tryz.ntmps132 (by kernel_rfl) rfl ?_
  refine KW.seq (KW.region ?_)
  refine OW.boxB rfl rfl rfl rfl ?_
  rintro bs w1 hge1 hS1 hx1
  refine OW.val rfl rfl (EX.assign rfl) ?_
  refine OW.val rfl rfl (EX.assign rfl) ?_
  refine OW.nil ?_
  refine KW.seq (KW.region ?_)
  refine OW.allocB (l := [.int .i64 0]) rfl rfl ti3 rfl ?_
  rintro bi w2 hge2 hB2 hx2
  have l1 := hS1.lt
  refine OW.storeB rfl ti3 rfl rfl (by first | rfl | assumption | exact Own.one (by assumption)) (hB2) (by simp) ?_
  rintro w3 hB3 hm3
  refine OW.nil ?_
  refine KW.seq (KW.region ?_)
  refine OW.val rfl rfl (EX.makeFunc rfl rfl) ?_
  refine OW.val rfl rfl (EX.assign rfl) ?_
  refine OW.nil ?_
  refine KW.seq (KW.region ?_)
  refine OW.val rfl rfl (EX.move rfl) ?_
  have hS3 := (hS1.ext hx2).mo hm3 (by simp; omega)
  have e3 : Ext w w3 := below_mo (hx1.trans hx2) hm3 (by have := hx1.size; have := hx2.size; omega) (by simp; have := hx1.size; omega)
  have z2 := hx2.size
  have z1 := hx1.size
  have z3 := hm3.size
  have l2 := hB2.lt
  refine OW.callV rfl rfl rfl rfl rfl (over_c s hs bi bs _ [] (one 32 32) (fun _ _ => True) [] (by simp) (by simp) (by omega) (fun j w hj _ => (sp_c _ w).mono fun v w' ⟨h1, h2⟩ => ⟨h1, h2 ▸ Mo.refl _ _, trivial⟩) (fun _ _ _ _ _ => trivial) 0 (by omega) w3 hB3 hS3 trivial) ?_
  rintro _ w4 ⟨rfl, i4, hi4, hd4, hB4, hS4, _, hm4⟩
  refine OW.nil ?_
  refine KW.seq (KW.region ?_)
  have e4 : Ext w w4 := below_mo e3 hm4 (by omega) (by simp; omega)
  have z4 := hm4.size
  refine OW.allocB (l := [.int .i64 0]) rfl rfl ti3 rfl ?_
  rintro bn w5 hge5 hN5 hx5
  refine OW.allocB (l := [.bool false]) rfl rfl ti4 rfl ?_
  rintro bb w6 hge6 hO6 hx6
  have l5 := hN5.lt
  have l6 := hO6.lt
  have z5 := hx5.size
  have z6 := hx6.size
  refine OW.storeB rfl ti3 rfl rfl (by first | rfl | assumption | exact Own.one (by assumption)) (hN5.ext hx6) (by simp) ?_
  rintro w7 hN7 hm7
  have hO7 := hO6.mo hm7 (by simp; omega)
  refine OW.storeB rfl ti4 rfl rfl (by first | rfl | assumption | exact Own.one (by assumption)) (hO7) (by simp) ?_
  rintro w8 hO8 hm8
  refine OW.nil ?_
  refine KW.seq (KW.region ?_)
  refine OW.val rfl rfl (EX.move rfl) ?_
  refine OW.val rfl rfl (EX.makeFunc rfl rfl) ?_
  have z7 := hm7.size
  have z8 := hm8.size
  have hN8 := hN7.mo hm8 (by simp; omega)
  have hB8 := (((hB4.ext hx5).ext hx6).mo hm7 (by simp; have := hB4.lt; omega)).mo hm8 (by simp; have := hB4.lt; omega)
  have hS8 := (((hS4.ext hx5).ext hx6).mo hm7 (by simp; have := hS4.lt; omega)).mo hm8 (by simp; have := hS4.lt; omega)
  have e8 : Ext w w8 := below_mo (below_mo ((e4.trans hx5).trans hx6) hm7 (by omega) (by simp; omega)) hm8 (by omega) (by simp; omega)
  have hov := over_c s hs bi bs 144 [.pointer (some ⟨bb, 0, none⟩), .pointer (some ⟨bn, 0, none⟩)] oct (fun j w => ∃ n : Nat, n ≤ 90071992547409920 + 255 ∧ fold 8 n ((s.drop j).takeWhile oct) = fold 8 0 ((s.drop i4).takeWhile oct) ∧ Bk w bb 4 [.bool (decide (9007199254740992 < n))] ∧ Bk w bn 3 [.int .i64 (n : Int)]) [bb, bn] (by simp; have := hB4.lt; omega) (by simp; have := hS4.lt; omega) (by omega)
    (fun j w hj ⟨n, hn, hf, hb, hi⟩ => (oct_c (s[j]) bb bn (by omega) n hn w hb hi).mono fun v w' ⟨h1, h2, m, hm, h3, h4⟩ => by
      have hc : (s[j]).toNat < 256 := (s[j]).toNat_lt
      refine ⟨h1, h2, m, by rw [hm]; split <;> (try split) <;> omega, ?_, h3, h4⟩
      rw [← hf, drop_cons s j hj]
      by_cases ho : oct s[j] = true
      · rw [if_pos ho] at hm ⊢
        rw [List.takeWhile_cons_of_pos ho, fold, hm]
      · rw [if_neg ho] at hm ⊢
        rw [hm, drop_cons s j hj])
    (fun j w w' ⟨n, hn, hf, hb, hi⟩ hm => ⟨n, hn, hf, hb.mo hm (by simp; have := hB4.lt; omega), hi.mo hm (by simp; have := hB4.lt; omega)⟩)
    i4 hi4 w8 hB8 hS8 ⟨0, by omega, rfl, by simpa using hO8, by simpa using hN8⟩
  refine OW.callV rfl rfl rfl rfl rfl (hov) ?_
  rintro _ w9 ⟨rfl, i9, hi9, hd9, hB9, hS9, ⟨n, hn, hf, hO9, hN9⟩, hm9⟩
  refine OW.nil ?_
  refine KW.seq (KW.region ?_)
  refine OW.val rfl rfl (EX.move rfl) ?_
  have z9 := hm9.size
  have e9 : Ext w w9 := below_mo e8 hm9 (by omega) (by simp; omega)
  refine OW.callV rfl rfl rfl rfl rfl (over_c s hs bi bs _ [] (one 32 0) (fun _ _ => True) [] (by simp) (by simp) (by omega) (fun j w hj _ => (nul_c _ w).mono fun v w' ⟨h1, h2⟩ => ⟨h1, h2 ▸ Mo.refl _ _, trivial⟩) (fun _ _ _ _ _ => trivial) i9 hi9 w9 hB9 hS9 trivial) ?_
  rintro _ w10 ⟨rfl, i10, hi10, hd10, hB10, hS10, _, hm10⟩
  refine OW.nil ?_
  refine KW.seq (KW.seq (KW.region ?_))
  have e10 : Ext w w10 := below_mo e9 hm10 (by omega) (by simp; omega)
  have hO10 := hO9.mo hm10 (by simp; omega)
  have hN10 := hN9.mo hm10 (by simp; omega)
  refine OW.val rfl rfl (EX.load Tryz.underlying3 rfl rfl (hB10.cell_of rfl)) ?_
  refine OW.val rfl rfl (EX.load Tryz.underlying9 rfl rfl (hS10.cell_of rfl)) ?_
  refine OW.val rfl rfl (EX.lenS Tryz.underlying9 rfl) ?_
  refine OW.val rfl rfl (by first | exact EX.lssN rfl rfl | exact EX.lssZ rfl rfl) ?_
  refine OW.nil ?_
  rw [hd9, dropWhile_dropWhile_take] at hf
  simp only [fold] at hf
  rw [List.drop_zero] at hd4
  have hne : (((s.dropWhile (one 32 32)).dropWhile oct).dropWhile (one 32 0) ≠ []) ↔ i10 < s.length := by
    rw [← hd4, ← hd9, ← hd10]
    simp
  refine KW.condD rfl (fun h5 => ?_) (fun h5 => ?_)
  · have hnum : num s = (0, 150) := by simp only [num]; rw [if_pos (hne.2 h5)]
    refine KW.seq (KW.region ?_)
    refine OW.val rfl rfl (EX.assign rfl) ?_
    refine OW.val rfl rfl (EX.assign rfl) ?_
    refine OW.nil ?_
    refine KW.ret (ret2 rfl rfl rfl ?_)
    rw [hnum]
    exact ⟨rfl, e10⟩
  · refine KW.skip (KW.seq (KW.seq (KW.region ?_)))
    refine OW.val rfl rfl (EX.load Tryz.underlying4 rfl rfl (hO10.cell_of rfl)) ?_
    refine OW.nil ?_
    refine KW.condD rfl (fun h6 => ?_) (fun h6 => ?_)
    · have hnum : num s = (0, 3) := by simp only [num]; rw [if_neg (fun h => h5 (hne.1 h)), ← hd4, ← hf, if_pos h6]
      refine KW.seq (KW.region ?_)
      refine OW.val rfl rfl (EX.assign rfl) ?_
      refine OW.val rfl rfl (EX.assign rfl) ?_
      refine OW.nil ?_
      refine KW.ret (ret2 rfl rfl rfl ?_)
      rw [hnum]
      exact ⟨rfl, e10⟩
    · have hnum : num s = (n, 0) := by simp only [num]; rw [if_neg (fun h => h5 (hne.1 h)), ← hd4, ← hf, if_neg h6]
      refine KW.skip (KW.seq (KW.region ?_))
      refine OW.val rfl rfl (EX.load Tryz.underlying3 rfl rfl (hN10.cell_of rfl)) ?_
      refine OW.val rfl rfl (EX.assign rfl) ?_
      refine OW.val rfl rfl (EX.assign rfl) ?_
      refine OW.nil ?_
      refine KW.ret (ret2 rfl rfl rfl ?_)
      rw [hnum]
      exact ⟨rfl, e10⟩
end Go.Proofs.YtjgeoeeikfjmdaaGreatDoor
