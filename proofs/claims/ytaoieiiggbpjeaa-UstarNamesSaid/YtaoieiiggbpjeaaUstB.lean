/-
  ustar: headers are laid, by the program.
-/
import Derived.Test.YtaoieiiggbpjeaaUstA
import Derived.Test.YtaoieiiggbpjeaaPthI
namespace Go.Proofs.Ytaoieiiggbpjeaa
open Go.RowKit Fld Ust
set_option linter.unusedVariables false
set_option linter.unusedSimpArgs false

def _root_.Go.Proofs.Ytaoieiiggbpjeaa.Ust.Hd.cells (h : Hd) : List Value := [str h.path, .int .i64 h.size, .int .u8 (h.kind : Int), .int .i64 h.mode, .int .i64 h.time, str h.link, str h.n0, str h.n1, .int .i64 h.i0, .int .i64 h.i1]
def I64 (n : Int) : Prop := -9223372036854775808 ≤ n ∧ n ≤ 9223372036854775807
structure _root_.Go.Proofs.Ytaoieiiggbpjeaa.Ust.Hd.Ok (h : Hd) : Prop where
  kind : h.kind ≤ 255
  path : h.path.length ≤ 140737488351232
  link : h.link.length ≤ 140737488351232
  n0 : h.n0.length ≤ 140737488351232
  n1 : h.n1.length ≤ 140737488351232
  size : I64 h.size
  mode : I64 h.mode
  time : I64 h.time
  i0 : I64 h.i0
  i1 : I64 h.i1
/-! ### In plain words -/
theorem fieldT_ok {s : List UInt8} {n m : Nat} (h : mayT s m) (hm : m ≤ n) (hn : n ≤ 512) : fieldT s (n : Int) (m : Int) = (lay s n, 0) := by
  have h1 := h.1
  unfold fieldT
  rw [if_neg (by omega), text_yes (by omega) (by rw [not_or, Classical.not_not]; exact ⟨by omega, cut_none h.2⟩)]
  simp [lay]
theorem fieldT_no {s : List UInt8} {n m : Nat} (h : ¬ mayT s m) (hn : n ≤ 512) : (fieldT s (n : Int) (m : Int)).2 ≠ 0 := by
  unfold fieldT
  simp only
  split
  · decide
  · rename_i h1
    rw [text_no (by omega) (.inr fun e => h ⟨by omega, (cut_eq_iff s).1 e⟩)]
    decide
theorem octal_may {n : Int} {k : Nat} (hk : 1 ≤ k) (hk2 : k ≤ 19) {m : Int} (h : mayN n m) (hm : m < ((8 ^ k : Nat) : Int)) : octal n ((k + 1 : Nat) : Int) = (oc n k, 0) := by
  obtain ⟨a, rfl⟩ := Int.eq_ofNat_of_zero_le h.1
  have := div_zero h hm
  rw [octal_yes hk hk2 (by simpa using this)]
  rfl
theorem octal_not {n : Int} {k : Nat} (hk : 1 ≤ k) (hk2 : k ≤ 19) {m : Int} (h : ¬ mayN n m) (hm : m + 1 = ((8 ^ k : Nat) : Int)) : (octal n ((k + 1 : Nat) : Int)).2 ≠ 0 := by
  rw [octal_no hk hk2]
  · decide
  · by_cases h0 : n < 0
    · exact .inl h0
    · refine .inr fun hz => h ⟨by omega, ?_⟩
      obtain ⟨a, rfl⟩ := Int.eq_ofNat_of_zero_le (show 0 ≤ n by omega)
      have h2 : (((a / 8 ^ k : Nat)) : Int) = 0 := by simpa using hz
      have h3 : a / 8 ^ k = 0 := by exact_mod_cast h2
      have h4 : a < 8 ^ k := by
        rcases Nat.div_eq_zero_iff.1 h3 with h | h
        · exact absurd h (Nat.pos_iff_ne_zero.1 (Nat.pow_pos (by decide)))
        · exact h
      omega
def L1 (h : Hd) (name : List UInt8) : List Fd := [fieldT name 100 100, octal h.mode 8, octal h.i0 8, octal h.i1 8, octal h.size 12, octal h.time 12, fieldT [] 8 8]
def L2 (h : Hd) (pre : List UInt8) : List Fd := [([UInt8.ofNat h.kind], 0), fieldT h.link 100 100, (magic, 0), fieldT h.n0 32 31, fieldT h.n1 32 31, octal 0 8, octal 0 8, fieldT pre 155 155, fieldT [] 12 12]
theorem fieldT_nil (n : Nat) (h : n ≤ 512) : fieldT [] (n : Int) (n : Int) = (nul n, 0) := by
  rw [fieldT_ok (s := []) (n := n) (m := n) ⟨by simp, by simp⟩ (Nat.le_refl _) h]
  simp [lay]
theorem joinF_yes {h : Hd} (hm : May h) {pre name : List UInt8} (hn : name.length ≤ 100) (hp : pre.length ≤ 155) (zn : (0 : UInt8) ∉ name) (zp : (0 : UInt8) ∉ pre) :
    joinF (L1 h name) = ((headL h name).flatten ++ nul 8, true) ∧ joinF (L2 h pre) = ((tailL h pre).flatten, true) := by
  have a1 := fieldT_ok (s := name) (n := 100) (m := 100) ⟨hn, zn⟩ (by decide) (by decide)
  have a2 := octal_may (k := 7) (by decide) (by decide) hm.mode (by decide)
  have a3 := octal_may (k := 7) (by decide) (by decide) hm.i0 (by decide)
  have a4 := octal_may (k := 7) (by decide) (by decide) hm.i1 (by decide)
  have a5 := octal_may (k := 11) (by decide) (by decide) hm.size (by decide)
  have a6 := octal_may (k := 11) (by decide) (by decide) hm.time (by decide)
  have a7 := fieldT_nil 8 (by decide)
  have b1 := fieldT_ok (s := h.link) (n := 100) (m := 100) hm.link (by decide) (by decide)
  have b2 := fieldT_ok (s := h.n0) (n := 32) (m := 31) hm.n0 (by decide) (by decide)
  have b3 := fieldT_ok (s := h.n1) (n := 32) (m := 31) hm.n1 (by decide) (by decide)
  have b4 := octal_may (n := 0) (m := 0) (k := 7) (by decide) (by decide) ⟨by decide, by decide⟩ (by decide)
  have b5 := fieldT_ok (s := pre) (n := 155) (m := 155) ⟨hp, zp⟩ (by decide) (by decide)
  have b6 := fieldT_nil 12 (by decide)
  have e1 : L1 h name = [(lay name 100, 0), (oc h.mode 7, 0), (oc h.i0 7, 0), (oc h.i1 7, 0), (oc h.size 11, 0), (oc h.time 11, 0), (nul 8, 0)] := by
    rw [← a1, ← a2, ← a3, ← a4, ← a5, ← a6, ← a7]; rfl
  have e2 : L2 h pre = [([UInt8.ofNat h.kind], 0), (lay h.link 100, 0), (magic, 0), (lay h.n0 32, 0), (lay h.n1 32, 0), (oc 0 7, 0), (oc 0 7, 0), (lay pre 155, 0), (nul 12, 0)] := by
    rw [← b1, ← b2, ← b3, ← b4, ← b5, ← b6]; rfl
  constructor
  · rw [e1]
    unfold joinF
    rw [if_pos (by simp)]
    simp [headL]
  · rw [e2]
    unfold joinF
    rw [if_pos (by simp)]
    simp [tailL]
theorem joinF_two {l : List Fd} (h : (joinF l).2 = true) : ∀ f ∈ l, f.2 = 0 := by
  unfold joinF at h
  split at h
  · assumption
  · cases h
theorem joinF_no {h : Hd} {pre name : List UInt8} (hk : mayK h.kind) (hz : (0 : UInt8) ∉ h.path) (h1 : (joinF (L1 h name)).2 = true) (h2 : (joinF (L2 h pre)).2 = true) : May h := by
  have g1 := joinF_two h1
  have g2 := joinF_two h2
  have p : ∀ {n : Int} {k : Nat} {m : Int}, 1 ≤ k → k ≤ 19 → m + 1 = ((8 ^ k : Nat) : Int) → (octal n ((k + 1 : Nat) : Int)).2 = 0 → mayN n m := fun hk hk2 hm hz => Classical.byContradiction fun hn => octal_not hk hk2 hn hm hz
  have q : ∀ {s : List UInt8} {n m : Nat}, n ≤ 512 → (fieldT s (n : Int) (m : Int)).2 = 0 → mayT s m := fun hn hz => Classical.byContradiction fun h => fieldT_no h hn hz
  exact ⟨hk, hz, q (n := 100) (by decide) (g2 _ (by simp [L2])), q (n := 32) (by decide) (g2 (fieldT h.n0 32 31) (by simp [L2])), q (n := 32) (by decide) (g2 (fieldT h.n1 32 31) (by simp [L2])),
    p (k := 7) (by decide) (by decide) (by decide) (g1 (octal h.mode 8) (by simp [L1])), p (k := 7) (by decide) (by decide) (by decide) (g1 (octal h.i0 8) (by simp [L1])), p (k := 7) (by decide) (by decide) (by decide) (g1 (octal h.i1 8) (by simp [L1])),
    p (k := 11) (by decide) (by decide) (by decide) (g1 (octal h.size 12) (by simp [L1])), p (k := 11) (by decide) (by decide) (by decide) (g1 (octal h.time 12) (by simp [L1]))⟩
/-- what joined asks -/
structure FdOk (f : Fd) : Prop where
  ne : f.2 = 0 → f.1 ≠ []
  len : f.1.length ≤ 1000
theorem fdOk_text {s : List UInt8} {n : Nat} {m : Int} (h0 : 1 ≤ n) : FdOk (fieldT s (n : Int) m) := by
  refine ⟨fun h e => ?_, ?_⟩
  · unfold fieldT at h e
    simp only at h e
    split at h
    · exact absurd h (by decide)
    · have := (text_ok h).2
      rw [e] at this
      simp at this
      omega
  · have := text_len s n
    show (text s n).1.length ≤ 1000
    omega
theorem fdOk_octal (n : Int) (m : Nat) (hm : 2 ≤ m) : FdOk (octal n (m : Int)) := by
  refine ⟨fun h e => ?_, ?_⟩
  · unfold octal at h e
    split at h
    · exact absurd h (by decide)
    · rename_i h1
      rw [if_neg h1] at e
      split at h
      · exact absurd h (by decide)
      · rename_i h2
        rw [if_neg h2] at e
        simp at e
  · have := octal_len n m
    omega
theorem l1_ok (h : Hd) (name : List UInt8) : ∀ f ∈ L1 h name, FdOk f := by
  intro f hf
  simp only [L1, List.mem_cons, List.not_mem_nil, or_false] at hf
  rcases hf with rfl | rfl | rfl | rfl | rfl | rfl | rfl
  · exact fdOk_text (n := 100) (by decide)
  · exact fdOk_octal _ 8 (by decide)
  · exact fdOk_octal _ 8 (by decide)
  · exact fdOk_octal _ 8 (by decide)
  · exact fdOk_octal _ 12 (by decide)
  · exact fdOk_octal _ 12 (by decide)
  · exact fdOk_text (n := 8) (by decide)
theorem l2_ok (h : Hd) (pre : List UInt8) : ∀ f ∈ L2 h pre, FdOk f := by
  intro f hf
  simp only [L2, List.mem_cons, List.not_mem_nil, or_false] at hf
  rcases hf with rfl | rfl | rfl | rfl | rfl | rfl | rfl | rfl | rfl
  · exact ⟨fun _ => by simp, by simp⟩
  · exact fdOk_text (n := 100) (by decide)
  · exact ⟨fun _ => by decide, by decide⟩
  · exact fdOk_text (n := 32) (by decide)
  · exact fdOk_text (n := 32) (by decide)
  · exact fdOk_octal _ 8 (by decide)
  · exact fdOk_octal _ 8 (by decide)
  · exact fdOk_text (n := 155) (by decide)
  · exact fdOk_text (n := 12) (by decide)
theorem oneB {w : World} {b k : Nat} {T : TypeId} (h : Bk w b T [.int .u8 (k : Int)]) (hk : k ≤ 255) : Sl w w.heap.size (some ⟨b, 0, none⟩) (bytesV [UInt8.ofNat k]) := by
  have e : bytesV [UInt8.ofNat k] = [.int .u8 (k : Int)] := by
    have : (UInt8.ofNat k).toNat = k := by simp; omega
    simp [bytesV, this]
  rw [e]
  exact h.sl
/-! ### The library -/
theorem contains_c (c : Nat) (hc : c ≤ 255) (w : World) : Ret Try.prog 17 [str [48, 53, 120, 103], str [UInt8.ofNat c]] w fun v w' => v = .bool (decide (mayK c)) ∧ w = w' := by
  refine (Ret.of_calls Try.func17 (by kernel_rfl) (Try.strings_Contains_one ⟨#[48, 53, 120, 103]⟩ (UInt8.ofNat c) w)).mono ?_
  rintro v w' ⟨rfl, rfl⟩
  refine ⟨congrArg Value.bool (decide_eq_decide.2 ?_), rfl⟩
  have e : (UInt8.ofNat c).toNat = c := by simp; omega
  have key : UInt8.ofNat c ∈ ([48, 53, 120, 103] : List UInt8) ↔ mayK c := by
    unfold mayK
    simp only [List.mem_cons, List.not_mem_nil, or_false, ← UInt8.toNat_inj, e]
    rfl
  rcases indexByte_lt [48, 53, 120, 103] (UInt8.ofNat c) with ⟨h1, h2⟩ | ⟨i, h1, _, _, h2⟩
  · rw [show (⟨#[48, 53, 120, 103]⟩ : ByteArray).data.toList = [48, 53, 120, 103] from rfl, h1]
    exact ⟨fun h => absurd h (by decide), fun h => absurd (key.2 h) h2⟩
  · rw [show (⟨#[48, 53, 120, 103]⟩ : ByteArray).data.toList = [48, 53, 120, 103] from rfl, h1]
    exact ⟨fun _ => key.1 h2, fun _ => by omega⟩
set_option maxRecDepth 20000 in
theorem encode_s (h : Hd) (ho : h.Ok) (w : World) : Ret Try.prog 9 [.agg h.cells.toArray] w fun v w' => v = .tuple #[str (encH h).1, .int .i64 (((encH h).2 : Nat) : Int)] ∧ Ext w w' := by
  have hk := ho.kind
  have hpl := ho.path
  have q1 := ho.size
  have q2 := ho.mode
  have q3 := ho.time
  have q4 := ho.i0
  have q5 := ho.i1
  unfold I64 at q1 q2 q3 q4 q5
  refine Ret.enter Try.func9 rfl Try.ntmps9 (by kernel_rfl) rfl ?_
  refine KW.seq (KW.region ?_)
  refine OW.boxS rfl rfl rfl ?_
  rintro hb w0 hge0 hb0 hx0
  refine OW.val rfl rfl (EX.assign rfl) ?_
  refine OW.val rfl rfl (EX.assign rfl) ?_
  refine OW.nil ?_
  refine KW.seq (KW.region ?_)
  refine OW.val rfl rfl (EX.fieldAddr (off := 0) Try.underlying25 rfl rfl ti9 rfl rfl) ?_
  replace hb0 : Bk w0 hb 25 h.cells := hb0
  refine OW.val rfl rfl (EX.load Try.underlying9 rfl rfl (hb0.cell_of rfl)) ?_
  refine OW.call rfl rfl rfl (psplit_s h.path (by omega) w0) ?_
  rintro _ w1 ⟨r, rfl, hr, hx1⟩
  refine OW.val rfl rfl (EX.move rfl) ?_
  refine OW.val rfl rfl (EX.extract rfl rfl) ?_
  refine OW.val rfl rfl (EX.extract rfl rfl) ?_
  refine OW.val rfl rfl (EX.extract rfl rfl) ?_
  refine OW.val rfl rfl (EX.assign rfl) ?_
  refine OW.val rfl rfl (EX.assign rfl) ?_
  refine OW.val rfl rfl (EX.assign rfl) ?_
  refine OW.nil ?_
  refine KW.seq (KW.seq ?_)
  obtain rfl := split_val hr
  have x1 := hx0.trans hx1
  have hb1 := hb0.ext hx1
  rcases hs1 : (splitP h.path).2.2 with _ | _
  · skip
    have e : encH h = ([], 140) := by unfold encH; rw [if_pos (.inl hs1)]
    refine KW.region ?_
    refine OW.val rfl rfl (EX.move rfl) ?_
    refine OW.val rfl rfl (by first | exact EX.notD rfl | exact EX.notB rfl) ?_
    refine OW.val rfl rfl (EX.move rfl) ?_
    refine OW.pass rfl rfl ?_
    refine OW.pass rfl rfl ?_
    refine OW.pass rfl rfl ?_
    refine OW.val rfl rfl (EX.pickT rfl rfl) ?_
    refine OW.nil ?_
    refine KW.condT rfl (KW.seq (KW.region ?_))
    refine OW.val rfl rfl (EX.assign rfl) ?_
    refine OW.val rfl rfl (EX.assign rfl) ?_
    refine OW.nil ?_
    refine KW.ret (ret2 rfl rfl rfl ?_)
    rw [e]
    exact ⟨rfl, x1⟩
  · skip
    refine KW.region ?_
    refine OW.val rfl rfl (EX.move rfl) ?_
    refine OW.val rfl rfl (by first | exact EX.notD rfl | exact EX.notB rfl) ?_
    refine OW.val rfl rfl (EX.move rfl) ?_
    refine OW.val rfl rfl (EX.fieldAddr (off := 0) Try.underlying25 rfl rfl ti9 rfl rfl) ?_
    refine OW.val rfl rfl (EX.load Try.underlying9 rfl rfl (hb1.cell_of rfl)) ?_
    refine OW.val rfl rfl (EX.eqlS (r := []) rfl rfl) ?_
    refine OW.val rfl rfl (EX.pickF rfl rfl) ?_
    refine OW.nil ?_
    refine KW.condD rfl (fun hnil => ?_) (fun hnil => ?_)
    · have e : encH h = ([], 140) := by unfold encH; rw [if_pos (.inr hnil)]
      refine KW.seq (KW.region ?_)
      refine OW.val rfl rfl (EX.assign rfl) ?_
      refine OW.val rfl rfl (EX.assign rfl) ?_
      refine OW.nil ?_
      refine KW.ret (ret2 rfl rfl rfl ?_)
      rw [e]
      exact ⟨rfl, x1⟩
    · obtain ⟨p1, p2, p3, p4, p5, p6, p7⟩ := splitP_ok hs1 hnil
      have hno : ¬ ((splitP h.path).2.2 = false ∨ h.path = []) := by rw [hs1]; simp [hnil]
      have eno : ¬ May h → encH h = ([], 160) := fun hm => by unfold encH; rw [if_neg hno, if_neg hm]
      have eyes : May h → encH h = (hdText h, 0) := fun hm => by unfold encH; rw [if_neg hno, if_pos hm]
      refine KW.skip (KW.seq (KW.seq ?_))
      refine KW.region ?_
      refine OW.val rfl rfl (EX.fieldAddr (off := 2) Try.underlying25 rfl rfl ti5 rfl rfl) ?_
      refine OW.val rfl rfl (EX.load Try.underlying5 rfl rfl (hb1.cell_of rfl)) ?_
      refine OW.buildB 1 rfl rfl Try.underlying38 ti5 rfl rfl rfl rfl (by first | rfl | (simp only [List.all_cons, List.all_nil, Bool.and_true, Bool.and_eq_true]; assumption)) (by decide) ?_
      rintro kb w2 hge2 hk2 hx2
      have x2 := x1.trans hx2
      have hb2 := hb1.ext hx2
      refine OW.val rfl rfl (EX.strOf Try.underlying38 Try.underlying5 Try.underlying9 rfl (oneB hk2 hk) (rfl)) ?_
      refine OW.call rfl rfl rfl (contains_c h.kind hk w2) ?_
      rintro _ _ ⟨rfl, rfl⟩
      refine OW.val rfl rfl (by first | exact EX.notD rfl | exact EX.notB rfl) ?_
      refine OW.val rfl rfl (EX.move rfl) ?_
      refine OW.splitD 34 rfl (fun hmk => ?_) (fun hmk => ?_)
      · have hmk' : ¬ mayK h.kind := by simpa using hmk
        refine OW.pass rfl rfl ?_
        refine OW.pass rfl rfl ?_
        refine OW.pass rfl rfl ?_
        refine OW.pass rfl rfl ?_
        refine OW.val rfl rfl (EX.pickT rfl rfl) ?_
        refine OW.nil ?_
        refine KW.condT rfl (KW.seq (KW.region ?_))
        refine OW.val rfl rfl (EX.assign rfl) ?_
        refine OW.val rfl rfl (EX.assign rfl) ?_
        refine OW.nil ?_
        refine KW.ret (ret2 rfl rfl rfl ?_)
        rw [eno fun hm => hmk' hm.kind]
        exact ⟨rfl, x2⟩
      · have hmk' : mayK h.kind := by simpa using hmk
        refine OW.val rfl rfl (EX.fieldAddr (off := 0) Try.underlying25 rfl rfl ti9 rfl rfl) ?_
        refine OW.val rfl rfl (EX.load Try.underlying9 rfl rfl (hb2.cell_of rfl)) ?_
        refine OW.call rfl rfl rfl (indexByte0_c h.path w2) ?_
        rintro _ w3 ⟨rfl, rfl⟩
        refine OW.val rfl rfl (by first | exact EX.geqN (b := 0) rfl rfl | exact EX.geqZ rfl rfl) ?_
        refine OW.val rfl rfl (EX.pickF rfl rfl) ?_
        refine OW.nil ?_
        have hix := indexByte_lt h.path 0
        refine KW.condD rfl (fun hz => ?_) (fun hz => ?_)
        · have hz' : (0 : UInt8) ∈ h.path := by
            rcases hix with ⟨q, _⟩ | ⟨_, _, _, _, q⟩
            · omega
            · exact q
          refine KW.seq (KW.region ?_)
          refine OW.val rfl rfl (EX.assign rfl) ?_
          refine OW.val rfl rfl (EX.assign rfl) ?_
          refine OW.nil ?_
          refine KW.ret (ret2 rfl rfl rfl ?_)
          rw [eno fun hm => hm.path hz']
          exact ⟨rfl, x2⟩
        · have hz' : (0 : UInt8) ∉ h.path := by
            rcases hix with ⟨_, q⟩ | ⟨_, q, _⟩
            · exact q
            · omega
          have nl := l1_ok h (splitP h.path).2.1
          have nl2 := l2_ok h (splitP h.path).1
          refine KW.skip (KW.seq ?_)
          refine KW.cut1 (fun (wr : World) => Ext w wr ∧ Bk wr hb 25 h.cells) (fun (wr : World) => [(1, .pointer (some ⟨hb, 0, none⟩)), (4, str ((splitP h.path).1)), (7, str ((joinF (L1 h (splitP h.path).2.1)).1)), (6, .bool (joinF (L1 h (splitP h.path).2.1)).2)]) (fun (wr : World) => wr) ?_ ?_
          · skip
            refine KW.regionG (N := 27) (fun w' => Ext w w' ∧ Bk w' hb 25 h.cells) (by kernel_rfl) rfl ?_
            have hS : (fun w' => Ext w w' ∧ Bk w' hb 25 h.cells) w3.drew := ⟨x2.trans (Ext.drew w3), hb2.drew⟩
            refine GW.val 0 rfl (by kernel_rfl) (by kernel_rfl) (by kernel_rfl) rfl rfl hS (fun w' hS' => EX.move rfl) ?_
            refine GW.val 2 rfl (by kernel_rfl) (by kernel_rfl) (by kernel_rfl) rfl rfl hS (fun w' hS' => EX.fieldAddr (off := 3) Try.underlying25 rfl rfl ti3 rfl rfl) ?_
            refine GW.val 3 rfl (by kernel_rfl) (by kernel_rfl) (by kernel_rfl) rfl rfl hS (fun w' hS' => EX.load Try.underlying3 rfl rfl (hS'.2.cell_of rfl)) ?_
            refine GW.val 5 rfl (by kernel_rfl) (by kernel_rfl) (by kernel_rfl) rfl rfl hS (fun w' hS' => EX.fieldAddr (off := 8) Try.underlying25 rfl rfl ti23 rfl rfl) ?_
            refine GW.val 6 rfl (by kernel_rfl) (by kernel_rfl) (by kernel_rfl) rfl rfl hS (fun w' hS' => by first | exact EX.indexAddrA0 (i := 0) Try.underlying23 ti3 rfl rfl (by omega) | exact EX.indexAddrA1 (i := 0) Try.underlying23 ti3 rfl rfl (by omega)) ?_
            refine GW.val 7 rfl (by kernel_rfl) (by kernel_rfl) (by kernel_rfl) rfl rfl hS (fun w' hS' => EX.load Try.underlying3 rfl rfl (hS'.2.cell_of rfl)) ?_
            refine GW.val 9 rfl (by kernel_rfl) (by kernel_rfl) (by kernel_rfl) rfl rfl hS (fun w' hS' => EX.fieldAddr (off := 8) Try.underlying25 rfl rfl ti23 rfl rfl) ?_
            refine GW.val 10 rfl (by kernel_rfl) (by kernel_rfl) (by kernel_rfl) rfl rfl hS (fun w' hS' => by first | exact EX.indexAddrA0 (i := 1) Try.underlying23 ti3 rfl rfl (by omega) | exact EX.indexAddrA1 (i := 1) Try.underlying23 ti3 rfl rfl (by omega)) ?_
            refine GW.val 11 rfl (by kernel_rfl) (by kernel_rfl) (by kernel_rfl) rfl rfl hS (fun w' hS' => EX.load Try.underlying3 rfl rfl (hS'.2.cell_of rfl)) ?_
            refine GW.val 13 rfl (by kernel_rfl) (by kernel_rfl) (by kernel_rfl) rfl rfl hS (fun w' hS' => EX.fieldAddr (off := 1) Try.underlying25 rfl rfl ti3 rfl rfl) ?_
            refine GW.val 14 rfl (by kernel_rfl) (by kernel_rfl) (by kernel_rfl) rfl rfl hS (fun w' hS' => EX.load Try.underlying3 rfl rfl (hS'.2.cell_of rfl)) ?_
            refine GW.val 16 rfl (by kernel_rfl) (by kernel_rfl) (by kernel_rfl) rfl rfl hS (fun w' hS' => EX.fieldAddr (off := 4) Try.underlying25 rfl rfl ti3 rfl rfl) ?_
            refine GW.val 17 rfl (by kernel_rfl) (by kernel_rfl) (by kernel_rfl) rfl rfl hS (fun w' hS' => EX.load Try.underlying3 rfl rfl (hS'.2.cell_of rfl)) ?_
            refine GW.call 1 rfl (by kernel_rfl) rfl rfl rfl (utext_s (splitP h.path).2.1 (by omega) ((100 : Nat) : Int) (by decide) (by decide) ((100 : Nat) : Int) w3.drew) ?_
            rintro _ w1 ⟨rfl, hx1⟩
            refine ⟨⟨hS.1.trans hx1, hS.2.ext hx1⟩, fun hS => ?_⟩
            refine GW.call 4 rfl (by kernel_rfl) rfl rfl rfl (unumber_s h.mode q2.1 q2.2 ((8 : Nat) : Int) (by decide) (by decide) w1) ?_
            rintro _ w4 ⟨rfl, hx4⟩
            refine ⟨⟨hS.1.trans hx4, hS.2.ext hx4⟩, fun hS => ?_⟩
            refine GW.call 8 rfl (by kernel_rfl) rfl rfl rfl (unumber_s h.i0 q4.1 q4.2 ((8 : Nat) : Int) (by decide) (by decide) w4) ?_
            rintro _ w8 ⟨rfl, hx8⟩
            refine ⟨⟨hS.1.trans hx8, hS.2.ext hx8⟩, fun hS => ?_⟩
            refine GW.call 12 rfl (by kernel_rfl) rfl rfl rfl (unumber_s h.i1 q5.1 q5.2 ((8 : Nat) : Int) (by decide) (by decide) w8) ?_
            rintro _ w12 ⟨rfl, hx12⟩
            refine ⟨⟨hS.1.trans hx12, hS.2.ext hx12⟩, fun hS => ?_⟩
            refine GW.call 15 rfl (by kernel_rfl) rfl rfl rfl (unumber_s h.size q1.1 q1.2 ((12 : Nat) : Int) (by decide) (by decide) w12) ?_
            rintro _ w15 ⟨rfl, hx15⟩
            refine ⟨⟨hS.1.trans hx15, hS.2.ext hx15⟩, fun hS => ?_⟩
            refine GW.call 18 rfl (by kernel_rfl) rfl rfl rfl (unumber_s h.time q3.1 q3.2 ((12 : Nat) : Int) (by decide) (by decide) w15) ?_
            rintro _ w18 ⟨rfl, hx18⟩
            refine ⟨⟨hS.1.trans hx18, hS.2.ext hx18⟩, fun hS => ?_⟩
            refine GW.call 19 rfl (by kernel_rfl) rfl rfl rfl (utext_s [] (by simp) ((8 : Nat) : Int) (by decide) (by decide) ((8 : Nat) : Int) w18) ?_
            rintro _ w19 ⟨rfl, hx19⟩
            refine ⟨⟨hS.1.trans hx19, hS.2.ext hx19⟩, fun hS => ?_⟩
            refine GW.buildG 20 7 ((L1 h (splitP h.path).2.1).map fdV) rfl (by kernel_rfl) rfl rfl Try.underlying66 ti48 rfl (by decide) rfl rfl rfl (by first | (intro v hv; obtain ⟨f, hf, rfl⟩ := List.mem_map.1 hv; rfl) | simp) (by decide) ?_
            rintro sb w20 hge20 h20 hx20
            refine ⟨⟨hS.1.trans hx20, hS.2.ext hx20⟩, fun hS => ?_⟩
            refine GW.call 21 rfl (by kernel_rfl) rfl rfl rfl (joined_s (L1 h (splitP h.path).2.1) (fun f hf => (nl f hf).ne) (fun f hf => (nl f hf).len) (by simp [L1]) (some ⟨sb, 0, none⟩) 7 _ w20 (by have hh := h20.sl; rw [← List.flatMap_def] at hh; exact hh)) ?_
            rintro _ w21 ⟨rfl, hx21⟩
            refine ⟨⟨hS.1.trans hx21, hS.2.ext hx21⟩, fun hS => ?_⟩
            have h20 := h20.ext hx21
            refine GW.val 22 rfl (by kernel_rfl) (by kernel_rfl) (by kernel_rfl) rfl rfl hS (fun w' hS' => EX.move rfl) ?_
            refine GW.val 23 rfl (by kernel_rfl) (by kernel_rfl) (by kernel_rfl) rfl rfl hS (fun w' hS' => EX.extract rfl rfl) ?_
            refine GW.val 24 rfl (by kernel_rfl) (by kernel_rfl) (by kernel_rfl) rfl rfl hS (fun w' hS' => EX.extract rfl rfl) ?_
            refine GW.val 25 rfl (by kernel_rfl) (by kernel_rfl) (by kernel_rfl) rfl rfl hS (fun w' hS' => EX.assign rfl) ?_
            refine GW.val 26 rfl (by kernel_rfl) (by kernel_rfl) (by kernel_rfl) rfl rfl hS (fun w' hS' => EX.assign rfl) ?_
            refine GW.done (by kernel_rfl) ?_
            refine KW.meet1 w21 ⟨rfl, rfl, rfl, rfl, trivial⟩ rfl ?_
            exact hS
          · rintro wr ⟨xr, hbr⟩
            refine KW.seq ?_
            refine KW.cut1 (fun (wq : World) => Ext w wq) (fun (wq : World) => [(6, .bool (joinF (L1 h (splitP h.path).2.1)).2), (7, str ((joinF (L1 h (splitP h.path).2.1)).1)), (8, str ((joinF (L2 h (splitP h.path).1)).1)), (9, .bool (joinF (L2 h (splitP h.path).1)).2)]) (fun (wq : World) => wq) ?_ ?_
            · skip
              refine KW.regionG (N := 29) (fun w' => Ext w w' ∧ Bk w' hb 25 h.cells) (by kernel_rfl) rfl ?_
              have hS : (fun w' => Ext w w' ∧ Bk w' hb 25 h.cells) wr.drew := ⟨xr.trans (Ext.drew wr), hbr.drew⟩
              refine GW.val 0 rfl (by kernel_rfl) (by kernel_rfl) (by kernel_rfl) rfl rfl hS (fun w' hS' => EX.fieldAddr (off := 2) Try.underlying25 rfl rfl ti5 rfl rfl) ?_
              refine GW.val 1 rfl (by kernel_rfl) (by kernel_rfl) (by kernel_rfl) rfl rfl hS (fun w' hS' => EX.load Try.underlying5 rfl rfl (hS'.2.cell_of rfl)) ?_
              refine GW.val 5 rfl (by kernel_rfl) (by kernel_rfl) (by kernel_rfl) rfl rfl hS (fun w' hS' => EX.fieldAddr (off := 5) Try.underlying25 rfl rfl ti9 rfl rfl) ?_
              refine GW.val 6 rfl (by kernel_rfl) (by kernel_rfl) (by kernel_rfl) rfl rfl hS (fun w' hS' => EX.load Try.underlying9 rfl rfl (hS'.2.cell_of rfl)) ?_
              refine GW.val 8 rfl (by kernel_rfl) (by kernel_rfl) (by kernel_rfl) rfl rfl hS (fun w' hS' => EX.buildS (pl := [(0, 1), (1, 1)]) (ks := [0]) (is := [0]) (zs := [str [], .int .i64 0]) Try.underlying48 ti48 (by kernel_rfl) rfl rfl rfl (by first | rfl | (simp only [List.all_cons, List.all_nil, Bool.and_true, Bool.true_and, Bool.and_eq_true, Value.oneCell']; repeat (first | assumption | exact Own.one (by assumption) | constructor))) (by simp only [setAll, List.set_cons_zero, List.set_cons_succ]; rfl)) ?_
              refine GW.val 9 rfl (by kernel_rfl) (by kernel_rfl) (by kernel_rfl) rfl rfl hS (fun w' hS' => EX.fieldAddr (off := 6) Try.underlying25 rfl rfl ti22 rfl rfl) ?_
              refine GW.val 10 rfl (by kernel_rfl) (by kernel_rfl) (by kernel_rfl) rfl rfl hS (fun w' hS' => by first | exact EX.indexAddrA0 (i := 0) Try.underlying22 ti9 rfl rfl (by omega) | exact EX.indexAddrA1 (i := 0) Try.underlying22 ti9 rfl rfl (by omega)) ?_
              refine GW.val 11 rfl (by kernel_rfl) (by kernel_rfl) (by kernel_rfl) rfl rfl hS (fun w' hS' => EX.load Try.underlying9 rfl rfl (hS'.2.cell_of rfl)) ?_
              refine GW.val 13 rfl (by kernel_rfl) (by kernel_rfl) (by kernel_rfl) rfl rfl hS (fun w' hS' => EX.fieldAddr (off := 6) Try.underlying25 rfl rfl ti22 rfl rfl) ?_
              refine GW.val 14 rfl (by kernel_rfl) (by kernel_rfl) (by kernel_rfl) rfl rfl hS (fun w' hS' => by first | exact EX.indexAddrA0 (i := 1) Try.underlying22 ti9 rfl rfl (by omega) | exact EX.indexAddrA1 (i := 1) Try.underlying22 ti9 rfl rfl (by omega)) ?_
              refine GW.val 15 rfl (by kernel_rfl) (by kernel_rfl) (by kernel_rfl) rfl rfl hS (fun w' hS' => EX.load Try.underlying9 rfl rfl (hS'.2.cell_of rfl)) ?_
              refine GW.val 19 rfl (by kernel_rfl) (by kernel_rfl) (by kernel_rfl) rfl rfl hS (fun w' hS' => EX.move rfl) ?_
              refine GW.two 2 7 (by kernel_rfl) ?_ ?_
              · refine GO.buildB 2 1 rfl rfl rfl Try.underlying38 ti5 rfl rfl rfl rfl rfl (by decide) ?_
                rintro gb w2 hge2 h2 hx2
                refine ⟨⟨hS.1.trans hx2, hS.2.ext hx2⟩, fun hS => ?_⟩
                refine GW.strong (fun w' => Ext w w' ∧ Bk w' hb 25 h.cells ∧ Bk w' gb 5 [.int .u8 (h.kind : Int)]) (fun _ h => ⟨h.1, h.2.1⟩) ?_
                replace hS := (⟨hS.1, hS.2, h2⟩ : (fun w' => Ext w w' ∧ Bk w' hb 25 h.cells ∧ Bk w' gb 5 [.int .u8 (h.kind : Int)]) w2)
                refine GW.val 3 rfl (by kernel_rfl) (by kernel_rfl) (by kernel_rfl) rfl rfl hS (fun w' hS' => EX.strOf Try.underlying38 Try.underlying5 Try.underlying9 rfl (oneB hS'.2.2 hk) rfl) ?_
                refine GW.val 4 rfl (by kernel_rfl) (by kernel_rfl) (by kernel_rfl) rfl rfl hS (fun w' hS' => EX.buildS (pl := [(0, 1), (1, 1)]) (ks := [0]) (is := [0]) (zs := [str [], .int .i64 0]) Try.underlying48 ti48 (by kernel_rfl) rfl rfl rfl (by first | rfl | (simp only [List.all_cons, List.all_nil, Bool.and_true, Bool.true_and, Bool.and_eq_true, Value.oneCell']; repeat (first | assumption | exact Own.one (by assumption) | constructor))) (by simp only [setAll, List.set_cons_zero, List.set_cons_succ]; rfl)) ?_
                refine GW.call 7 rfl (by kernel_rfl) rfl rfl rfl (utext_s h.link (by have := ho.link; omega) ((100 : Nat) : Int) (by decide) (by decide) ((100 : Nat) : Int) w2) ?_
                rintro _ w7 ⟨rfl, hx7⟩
                refine ⟨⟨hS.1.trans hx7, hS.2.1.ext hx7, hS.2.2.ext hx7⟩, fun hS => ?_⟩
                refine GW.call 12 rfl (by kernel_rfl) rfl rfl rfl (utext_s h.n0 (by have := ho.n0; omega) ((32 : Nat) : Int) (by decide) (by decide) ((31 : Nat) : Int) w7) ?_
                rintro _ w12 ⟨rfl, hx12⟩
                refine ⟨⟨hS.1.trans hx12, hS.2.1.ext hx12, hS.2.2.ext hx12⟩, fun hS => ?_⟩
                refine GW.call 16 rfl (by kernel_rfl) rfl rfl rfl (utext_s h.n1 (by have := ho.n1; omega) ((32 : Nat) : Int) (by decide) (by decide) ((31 : Nat) : Int) w12) ?_
                rintro _ w16 ⟨rfl, hx16⟩
                refine ⟨⟨hS.1.trans hx16, hS.2.1.ext hx16, hS.2.2.ext hx16⟩, fun hS => ?_⟩
                refine GW.call 17 rfl (by kernel_rfl) rfl rfl rfl (unumber_s 0 (by decide) (by decide) ((8 : Nat) : Int) (by decide) (by decide) w16) ?_
                rintro _ w17 ⟨rfl, hx17⟩
                refine ⟨⟨hS.1.trans hx17, hS.2.1.ext hx17, hS.2.2.ext hx17⟩, fun hS => ?_⟩
                refine GW.call 18 rfl (by kernel_rfl) rfl rfl rfl (unumber_s 0 (by decide) (by decide) ((8 : Nat) : Int) (by decide) (by decide) w17) ?_
                rintro _ w18 ⟨rfl, hx18⟩
                refine ⟨⟨hS.1.trans hx18, hS.2.1.ext hx18, hS.2.2.ext hx18⟩, fun hS => ?_⟩
                refine GW.call 20 rfl (by kernel_rfl) rfl rfl rfl (utext_s (splitP h.path).1 (by omega) ((155 : Nat) : Int) (by decide) (by decide) ((155 : Nat) : Int) w18) ?_
                rintro _ w20 ⟨rfl, hx20⟩
                refine ⟨⟨hS.1.trans hx20, hS.2.1.ext hx20, hS.2.2.ext hx20⟩, fun hS => ?_⟩
                refine GW.call 21 rfl (by kernel_rfl) rfl rfl rfl (utext_s [] (by simp) ((12 : Nat) : Int) (by decide) (by decide) ((12 : Nat) : Int) w20) ?_
                rintro _ w21 ⟨rfl, hx21⟩
                refine ⟨⟨hS.1.trans hx21, hS.2.1.ext hx21, hS.2.2.ext hx21⟩, fun hS => ?_⟩
                refine GW.buildG 22 9 ((L2 h (splitP h.path).1).map fdV) rfl (by kernel_rfl) rfl rfl Try.underlying66 ti48 rfl (by decide) rfl rfl rfl (by first | (intro v hv; obtain ⟨f, hf, rfl⟩ := List.mem_map.1 hv; rfl) | simp) (by decide) ?_
                rintro sb w22 hge22 h22 hx22
                refine ⟨⟨hS.1.trans hx22, hS.2.1.ext hx22, hS.2.2.ext hx22⟩, fun hS => ?_⟩
                refine GW.call 23 rfl (by kernel_rfl) rfl rfl rfl (joined_s (L2 h (splitP h.path).1) (fun f hf => (nl2 f hf).ne) (fun f hf => (nl2 f hf).len) (by simp [L2]) (some ⟨sb, 0, none⟩) 9 _ w22 (by have hh := h22.sl; rw [← List.flatMap_def] at hh; exact hh)) ?_
                rintro _ w23 ⟨rfl, hx23⟩
                refine ⟨⟨hS.1.trans hx23, hS.2.1.ext hx23, hS.2.2.ext hx23⟩, fun hS => ?_⟩
                have h22 := h22.ext hx23
                refine GW.val 24 rfl (by kernel_rfl) (by kernel_rfl) (by kernel_rfl) rfl rfl hS (fun w' hS' => EX.move rfl) ?_
                refine GW.val 25 rfl (by kernel_rfl) (by kernel_rfl) (by kernel_rfl) rfl rfl hS (fun w' hS' => EX.extract rfl rfl) ?_
                refine GW.val 26 rfl (by kernel_rfl) (by kernel_rfl) (by kernel_rfl) rfl rfl hS (fun w' hS' => EX.extract rfl rfl) ?_
                refine GW.val 27 rfl (by kernel_rfl) (by kernel_rfl) (by kernel_rfl) rfl rfl hS (fun w' hS' => EX.assign rfl) ?_
                refine GW.val 28 rfl (by kernel_rfl) (by kernel_rfl) (by kernel_rfl) rfl rfl hS (fun w' hS' => EX.assign rfl) ?_
                refine GW.done (by kernel_rfl) ?_
                refine KW.meet1 w23 ⟨rfl, rfl, rfl, rfl, trivial⟩ rfl ?_
                exact hS.1
              · refine GO.call 7 rfl rfl rfl rfl (utext_s h.link (by have := ho.link; omega) ((100 : Nat) : Int) (by decide) (by decide) ((100 : Nat) : Int) wr.drew) ?_
                rintro _ w7 ⟨rfl, hx7⟩
                refine ⟨⟨hS.1.trans hx7, hS.2.ext hx7⟩, fun hS => ?_⟩
                refine GW.two 2 12 (by kernel_rfl) ?_ ?_
                · refine GO.buildB 2 1 rfl rfl rfl Try.underlying38 ti5 rfl rfl rfl rfl rfl (by decide) ?_
                  rintro gb w2 hge2 h2 hx2
                  refine ⟨⟨hS.1.trans hx2, hS.2.ext hx2⟩, fun hS => ?_⟩
                  refine GW.strong (fun w' => Ext w w' ∧ Bk w' hb 25 h.cells ∧ Bk w' gb 5 [.int .u8 (h.kind : Int)]) (fun _ h => ⟨h.1, h.2.1⟩) ?_
                  replace hS := (⟨hS.1, hS.2, h2⟩ : (fun w' => Ext w w' ∧ Bk w' hb 25 h.cells ∧ Bk w' gb 5 [.int .u8 (h.kind : Int)]) w2)
                  refine GW.val 3 rfl (by kernel_rfl) (by kernel_rfl) (by kernel_rfl) rfl rfl hS (fun w' hS' => EX.strOf Try.underlying38 Try.underlying5 Try.underlying9 rfl (oneB hS'.2.2 hk) rfl) ?_
                  refine GW.val 4 rfl (by kernel_rfl) (by kernel_rfl) (by kernel_rfl) rfl rfl hS (fun w' hS' => EX.buildS (pl := [(0, 1), (1, 1)]) (ks := [0]) (is := [0]) (zs := [str [], .int .i64 0]) Try.underlying48 ti48 (by kernel_rfl) rfl rfl rfl (by first | rfl | (simp only [List.all_cons, List.all_nil, Bool.and_true, Bool.true_and, Bool.and_eq_true, Value.oneCell']; repeat (first | assumption | exact Own.one (by assumption) | constructor))) (by simp only [setAll, List.set_cons_zero, List.set_cons_succ]; rfl)) ?_
                  refine GW.call 12 rfl (by kernel_rfl) rfl rfl rfl (utext_s h.n0 (by have := ho.n0; omega) ((32 : Nat) : Int) (by decide) (by decide) ((31 : Nat) : Int) w2) ?_
                  rintro _ w12 ⟨rfl, hx12⟩
                  refine ⟨⟨hS.1.trans hx12, hS.2.1.ext hx12, hS.2.2.ext hx12⟩, fun hS => ?_⟩
                  refine GW.call 16 rfl (by kernel_rfl) rfl rfl rfl (utext_s h.n1 (by have := ho.n1; omega) ((32 : Nat) : Int) (by decide) (by decide) ((31 : Nat) : Int) w12) ?_
                  rintro _ w16 ⟨rfl, hx16⟩
                  refine ⟨⟨hS.1.trans hx16, hS.2.1.ext hx16, hS.2.2.ext hx16⟩, fun hS => ?_⟩
                  refine GW.call 17 rfl (by kernel_rfl) rfl rfl rfl (unumber_s 0 (by decide) (by decide) ((8 : Nat) : Int) (by decide) (by decide) w16) ?_
                  rintro _ w17 ⟨rfl, hx17⟩
                  refine ⟨⟨hS.1.trans hx17, hS.2.1.ext hx17, hS.2.2.ext hx17⟩, fun hS => ?_⟩
                  refine GW.call 18 rfl (by kernel_rfl) rfl rfl rfl (unumber_s 0 (by decide) (by decide) ((8 : Nat) : Int) (by decide) (by decide) w17) ?_
                  rintro _ w18 ⟨rfl, hx18⟩
                  refine ⟨⟨hS.1.trans hx18, hS.2.1.ext hx18, hS.2.2.ext hx18⟩, fun hS => ?_⟩
                  refine GW.call 20 rfl (by kernel_rfl) rfl rfl rfl (utext_s (splitP h.path).1 (by omega) ((155 : Nat) : Int) (by decide) (by decide) ((155 : Nat) : Int) w18) ?_
                  rintro _ w20 ⟨rfl, hx20⟩
                  refine ⟨⟨hS.1.trans hx20, hS.2.1.ext hx20, hS.2.2.ext hx20⟩, fun hS => ?_⟩
                  refine GW.call 21 rfl (by kernel_rfl) rfl rfl rfl (utext_s [] (by simp) ((12 : Nat) : Int) (by decide) (by decide) ((12 : Nat) : Int) w20) ?_
                  rintro _ w21 ⟨rfl, hx21⟩
                  refine ⟨⟨hS.1.trans hx21, hS.2.1.ext hx21, hS.2.2.ext hx21⟩, fun hS => ?_⟩
                  refine GW.buildG 22 9 ((L2 h (splitP h.path).1).map fdV) rfl (by kernel_rfl) rfl rfl Try.underlying66 ti48 rfl (by decide) rfl rfl rfl (by first | (intro v hv; obtain ⟨f, hf, rfl⟩ := List.mem_map.1 hv; rfl) | simp) (by decide) ?_
                  rintro sb w22 hge22 h22 hx22
                  refine ⟨⟨hS.1.trans hx22, hS.2.1.ext hx22, hS.2.2.ext hx22⟩, fun hS => ?_⟩
                  refine GW.call 23 rfl (by kernel_rfl) rfl rfl rfl (joined_s (L2 h (splitP h.path).1) (fun f hf => (nl2 f hf).ne) (fun f hf => (nl2 f hf).len) (by simp [L2]) (some ⟨sb, 0, none⟩) 9 _ w22 (by have hh := h22.sl; rw [← List.flatMap_def] at hh; exact hh)) ?_
                  rintro _ w23 ⟨rfl, hx23⟩
                  refine ⟨⟨hS.1.trans hx23, hS.2.1.ext hx23, hS.2.2.ext hx23⟩, fun hS => ?_⟩
                  have h22 := h22.ext hx23
                  refine GW.val 24 rfl (by kernel_rfl) (by kernel_rfl) (by kernel_rfl) rfl rfl hS (fun w' hS' => EX.move rfl) ?_
                  refine GW.val 25 rfl (by kernel_rfl) (by kernel_rfl) (by kernel_rfl) rfl rfl hS (fun w' hS' => EX.extract rfl rfl) ?_
                  refine GW.val 26 rfl (by kernel_rfl) (by kernel_rfl) (by kernel_rfl) rfl rfl hS (fun w' hS' => EX.extract rfl rfl) ?_
                  refine GW.val 27 rfl (by kernel_rfl) (by kernel_rfl) (by kernel_rfl) rfl rfl hS (fun w' hS' => EX.assign rfl) ?_
                  refine GW.val 28 rfl (by kernel_rfl) (by kernel_rfl) (by kernel_rfl) rfl rfl hS (fun w' hS' => EX.assign rfl) ?_
                  refine GW.done (by kernel_rfl) ?_
                  refine KW.meet1 w23 ⟨rfl, rfl, rfl, rfl, trivial⟩ rfl ?_
                  exact hS.1
                · refine GO.call 12 rfl rfl rfl rfl (utext_s h.n0 (by have := ho.n0; omega) ((32 : Nat) : Int) (by decide) (by decide) ((31 : Nat) : Int) w7) ?_
                  rintro _ w12 ⟨rfl, hx12⟩
                  refine ⟨⟨hS.1.trans hx12, hS.2.ext hx12⟩, fun hS => ?_⟩
                  refine GW.two 2 16 (by kernel_rfl) ?_ ?_
                  · refine GO.buildB 2 1 rfl rfl rfl Try.underlying38 ti5 rfl rfl rfl rfl rfl (by decide) ?_
                    rintro gb w2 hge2 h2 hx2
                    refine ⟨⟨hS.1.trans hx2, hS.2.ext hx2⟩, fun hS => ?_⟩
                    refine GW.strong (fun w' => Ext w w' ∧ Bk w' hb 25 h.cells ∧ Bk w' gb 5 [.int .u8 (h.kind : Int)]) (fun _ h => ⟨h.1, h.2.1⟩) ?_
                    replace hS := (⟨hS.1, hS.2, h2⟩ : (fun w' => Ext w w' ∧ Bk w' hb 25 h.cells ∧ Bk w' gb 5 [.int .u8 (h.kind : Int)]) w2)
                    refine GW.val 3 rfl (by kernel_rfl) (by kernel_rfl) (by kernel_rfl) rfl rfl hS (fun w' hS' => EX.strOf Try.underlying38 Try.underlying5 Try.underlying9 rfl (oneB hS'.2.2 hk) rfl) ?_
                    refine GW.val 4 rfl (by kernel_rfl) (by kernel_rfl) (by kernel_rfl) rfl rfl hS (fun w' hS' => EX.buildS (pl := [(0, 1), (1, 1)]) (ks := [0]) (is := [0]) (zs := [str [], .int .i64 0]) Try.underlying48 ti48 (by kernel_rfl) rfl rfl rfl (by first | rfl | (simp only [List.all_cons, List.all_nil, Bool.and_true, Bool.true_and, Bool.and_eq_true, Value.oneCell']; repeat (first | assumption | exact Own.one (by assumption) | constructor))) (by simp only [setAll, List.set_cons_zero, List.set_cons_succ]; rfl)) ?_
                    refine GW.call 16 rfl (by kernel_rfl) rfl rfl rfl (utext_s h.n1 (by have := ho.n1; omega) ((32 : Nat) : Int) (by decide) (by decide) ((31 : Nat) : Int) w2) ?_
                    rintro _ w16 ⟨rfl, hx16⟩
                    refine ⟨⟨hS.1.trans hx16, hS.2.1.ext hx16, hS.2.2.ext hx16⟩, fun hS => ?_⟩
                    refine GW.call 17 rfl (by kernel_rfl) rfl rfl rfl (unumber_s 0 (by decide) (by decide) ((8 : Nat) : Int) (by decide) (by decide) w16) ?_
                    rintro _ w17 ⟨rfl, hx17⟩
                    refine ⟨⟨hS.1.trans hx17, hS.2.1.ext hx17, hS.2.2.ext hx17⟩, fun hS => ?_⟩
                    refine GW.call 18 rfl (by kernel_rfl) rfl rfl rfl (unumber_s 0 (by decide) (by decide) ((8 : Nat) : Int) (by decide) (by decide) w17) ?_
                    rintro _ w18 ⟨rfl, hx18⟩
                    refine ⟨⟨hS.1.trans hx18, hS.2.1.ext hx18, hS.2.2.ext hx18⟩, fun hS => ?_⟩
                    refine GW.call 20 rfl (by kernel_rfl) rfl rfl rfl (utext_s (splitP h.path).1 (by omega) ((155 : Nat) : Int) (by decide) (by decide) ((155 : Nat) : Int) w18) ?_
                    rintro _ w20 ⟨rfl, hx20⟩
                    refine ⟨⟨hS.1.trans hx20, hS.2.1.ext hx20, hS.2.2.ext hx20⟩, fun hS => ?_⟩
                    refine GW.call 21 rfl (by kernel_rfl) rfl rfl rfl (utext_s [] (by simp) ((12 : Nat) : Int) (by decide) (by decide) ((12 : Nat) : Int) w20) ?_
                    rintro _ w21 ⟨rfl, hx21⟩
                    refine ⟨⟨hS.1.trans hx21, hS.2.1.ext hx21, hS.2.2.ext hx21⟩, fun hS => ?_⟩
                    refine GW.buildG 22 9 ((L2 h (splitP h.path).1).map fdV) rfl (by kernel_rfl) rfl rfl Try.underlying66 ti48 rfl (by decide) rfl rfl rfl (by first | (intro v hv; obtain ⟨f, hf, rfl⟩ := List.mem_map.1 hv; rfl) | simp) (by decide) ?_
                    rintro sb w22 hge22 h22 hx22
                    refine ⟨⟨hS.1.trans hx22, hS.2.1.ext hx22, hS.2.2.ext hx22⟩, fun hS => ?_⟩
                    refine GW.call 23 rfl (by kernel_rfl) rfl rfl rfl (joined_s (L2 h (splitP h.path).1) (fun f hf => (nl2 f hf).ne) (fun f hf => (nl2 f hf).len) (by simp [L2]) (some ⟨sb, 0, none⟩) 9 _ w22 (by have hh := h22.sl; rw [← List.flatMap_def] at hh; exact hh)) ?_
                    rintro _ w23 ⟨rfl, hx23⟩
                    refine ⟨⟨hS.1.trans hx23, hS.2.1.ext hx23, hS.2.2.ext hx23⟩, fun hS => ?_⟩
                    have h22 := h22.ext hx23
                    refine GW.val 24 rfl (by kernel_rfl) (by kernel_rfl) (by kernel_rfl) rfl rfl hS (fun w' hS' => EX.move rfl) ?_
                    refine GW.val 25 rfl (by kernel_rfl) (by kernel_rfl) (by kernel_rfl) rfl rfl hS (fun w' hS' => EX.extract rfl rfl) ?_
                    refine GW.val 26 rfl (by kernel_rfl) (by kernel_rfl) (by kernel_rfl) rfl rfl hS (fun w' hS' => EX.extract rfl rfl) ?_
                    refine GW.val 27 rfl (by kernel_rfl) (by kernel_rfl) (by kernel_rfl) rfl rfl hS (fun w' hS' => EX.assign rfl) ?_
                    refine GW.val 28 rfl (by kernel_rfl) (by kernel_rfl) (by kernel_rfl) rfl rfl hS (fun w' hS' => EX.assign rfl) ?_
                    refine GW.done (by kernel_rfl) ?_
                    refine KW.meet1 w23 ⟨rfl, rfl, rfl, rfl, trivial⟩ rfl ?_
                    exact hS.1
                  · refine GO.call 16 rfl rfl rfl rfl (utext_s h.n1 (by have := ho.n1; omega) ((32 : Nat) : Int) (by decide) (by decide) ((31 : Nat) : Int) w12) ?_
                    rintro _ w16 ⟨rfl, hx16⟩
                    refine ⟨⟨hS.1.trans hx16, hS.2.ext hx16⟩, fun hS => ?_⟩
                    refine GW.two 2 17 (by kernel_rfl) ?_ ?_
                    · refine GO.buildB 2 1 rfl rfl rfl Try.underlying38 ti5 rfl rfl rfl rfl rfl (by decide) ?_
                      rintro gb w2 hge2 h2 hx2
                      refine ⟨⟨hS.1.trans hx2, hS.2.ext hx2⟩, fun hS => ?_⟩
                      refine GW.strong (fun w' => Ext w w' ∧ Bk w' hb 25 h.cells ∧ Bk w' gb 5 [.int .u8 (h.kind : Int)]) (fun _ h => ⟨h.1, h.2.1⟩) ?_
                      replace hS := (⟨hS.1, hS.2, h2⟩ : (fun w' => Ext w w' ∧ Bk w' hb 25 h.cells ∧ Bk w' gb 5 [.int .u8 (h.kind : Int)]) w2)
                      refine GW.val 3 rfl (by kernel_rfl) (by kernel_rfl) (by kernel_rfl) rfl rfl hS (fun w' hS' => EX.strOf Try.underlying38 Try.underlying5 Try.underlying9 rfl (oneB hS'.2.2 hk) rfl) ?_
                      refine GW.val 4 rfl (by kernel_rfl) (by kernel_rfl) (by kernel_rfl) rfl rfl hS (fun w' hS' => EX.buildS (pl := [(0, 1), (1, 1)]) (ks := [0]) (is := [0]) (zs := [str [], .int .i64 0]) Try.underlying48 ti48 (by kernel_rfl) rfl rfl rfl (by first | rfl | (simp only [List.all_cons, List.all_nil, Bool.and_true, Bool.true_and, Bool.and_eq_true, Value.oneCell']; repeat (first | assumption | exact Own.one (by assumption) | constructor))) (by simp only [setAll, List.set_cons_zero, List.set_cons_succ]; rfl)) ?_
                      refine GW.call 17 rfl (by kernel_rfl) rfl rfl rfl (unumber_s 0 (by decide) (by decide) ((8 : Nat) : Int) (by decide) (by decide) w2) ?_
                      rintro _ w17 ⟨rfl, hx17⟩
                      refine ⟨⟨hS.1.trans hx17, hS.2.1.ext hx17, hS.2.2.ext hx17⟩, fun hS => ?_⟩
                      refine GW.call 18 rfl (by kernel_rfl) rfl rfl rfl (unumber_s 0 (by decide) (by decide) ((8 : Nat) : Int) (by decide) (by decide) w17) ?_
                      rintro _ w18 ⟨rfl, hx18⟩
                      refine ⟨⟨hS.1.trans hx18, hS.2.1.ext hx18, hS.2.2.ext hx18⟩, fun hS => ?_⟩
                      refine GW.call 20 rfl (by kernel_rfl) rfl rfl rfl (utext_s (splitP h.path).1 (by omega) ((155 : Nat) : Int) (by decide) (by decide) ((155 : Nat) : Int) w18) ?_
                      rintro _ w20 ⟨rfl, hx20⟩
                      refine ⟨⟨hS.1.trans hx20, hS.2.1.ext hx20, hS.2.2.ext hx20⟩, fun hS => ?_⟩
                      refine GW.call 21 rfl (by kernel_rfl) rfl rfl rfl (utext_s [] (by simp) ((12 : Nat) : Int) (by decide) (by decide) ((12 : Nat) : Int) w20) ?_
                      rintro _ w21 ⟨rfl, hx21⟩
                      refine ⟨⟨hS.1.trans hx21, hS.2.1.ext hx21, hS.2.2.ext hx21⟩, fun hS => ?_⟩
                      refine GW.buildG 22 9 ((L2 h (splitP h.path).1).map fdV) rfl (by kernel_rfl) rfl rfl Try.underlying66 ti48 rfl (by decide) rfl rfl rfl (by first | (intro v hv; obtain ⟨f, hf, rfl⟩ := List.mem_map.1 hv; rfl) | simp) (by decide) ?_
                      rintro sb w22 hge22 h22 hx22
                      refine ⟨⟨hS.1.trans hx22, hS.2.1.ext hx22, hS.2.2.ext hx22⟩, fun hS => ?_⟩
                      refine GW.call 23 rfl (by kernel_rfl) rfl rfl rfl (joined_s (L2 h (splitP h.path).1) (fun f hf => (nl2 f hf).ne) (fun f hf => (nl2 f hf).len) (by simp [L2]) (some ⟨sb, 0, none⟩) 9 _ w22 (by have hh := h22.sl; rw [← List.flatMap_def] at hh; exact hh)) ?_
                      rintro _ w23 ⟨rfl, hx23⟩
                      refine ⟨⟨hS.1.trans hx23, hS.2.1.ext hx23, hS.2.2.ext hx23⟩, fun hS => ?_⟩
                      have h22 := h22.ext hx23
                      refine GW.val 24 rfl (by kernel_rfl) (by kernel_rfl) (by kernel_rfl) rfl rfl hS (fun w' hS' => EX.move rfl) ?_
                      refine GW.val 25 rfl (by kernel_rfl) (by kernel_rfl) (by kernel_rfl) rfl rfl hS (fun w' hS' => EX.extract rfl rfl) ?_
                      refine GW.val 26 rfl (by kernel_rfl) (by kernel_rfl) (by kernel_rfl) rfl rfl hS (fun w' hS' => EX.extract rfl rfl) ?_
                      refine GW.val 27 rfl (by kernel_rfl) (by kernel_rfl) (by kernel_rfl) rfl rfl hS (fun w' hS' => EX.assign rfl) ?_
                      refine GW.val 28 rfl (by kernel_rfl) (by kernel_rfl) (by kernel_rfl) rfl rfl hS (fun w' hS' => EX.assign rfl) ?_
                      refine GW.done (by kernel_rfl) ?_
                      refine KW.meet1 w23 ⟨rfl, rfl, rfl, rfl, trivial⟩ rfl ?_
                      exact hS.1
                    · refine GO.call 17 rfl rfl rfl rfl (unumber_s 0 (by decide) (by decide) ((8 : Nat) : Int) (by decide) (by decide) w16) ?_
                      rintro _ w17 ⟨rfl, hx17⟩
                      refine ⟨⟨hS.1.trans hx17, hS.2.ext hx17⟩, fun hS => ?_⟩
                      refine GW.two 2 18 (by kernel_rfl) ?_ ?_
                      · refine GO.buildB 2 1 rfl rfl rfl Try.underlying38 ti5 rfl rfl rfl rfl rfl (by decide) ?_
                        rintro gb w2 hge2 h2 hx2
                        refine ⟨⟨hS.1.trans hx2, hS.2.ext hx2⟩, fun hS => ?_⟩
                        refine GW.strong (fun w' => Ext w w' ∧ Bk w' hb 25 h.cells ∧ Bk w' gb 5 [.int .u8 (h.kind : Int)]) (fun _ h => ⟨h.1, h.2.1⟩) ?_
                        replace hS := (⟨hS.1, hS.2, h2⟩ : (fun w' => Ext w w' ∧ Bk w' hb 25 h.cells ∧ Bk w' gb 5 [.int .u8 (h.kind : Int)]) w2)
                        refine GW.val 3 rfl (by kernel_rfl) (by kernel_rfl) (by kernel_rfl) rfl rfl hS (fun w' hS' => EX.strOf Try.underlying38 Try.underlying5 Try.underlying9 rfl (oneB hS'.2.2 hk) rfl) ?_
                        refine GW.val 4 rfl (by kernel_rfl) (by kernel_rfl) (by kernel_rfl) rfl rfl hS (fun w' hS' => EX.buildS (pl := [(0, 1), (1, 1)]) (ks := [0]) (is := [0]) (zs := [str [], .int .i64 0]) Try.underlying48 ti48 (by kernel_rfl) rfl rfl rfl (by first | rfl | (simp only [List.all_cons, List.all_nil, Bool.and_true, Bool.true_and, Bool.and_eq_true, Value.oneCell']; repeat (first | assumption | exact Own.one (by assumption) | constructor))) (by simp only [setAll, List.set_cons_zero, List.set_cons_succ]; rfl)) ?_
                        refine GW.call 18 rfl (by kernel_rfl) rfl rfl rfl (unumber_s 0 (by decide) (by decide) ((8 : Nat) : Int) (by decide) (by decide) w2) ?_
                        rintro _ w18 ⟨rfl, hx18⟩
                        refine ⟨⟨hS.1.trans hx18, hS.2.1.ext hx18, hS.2.2.ext hx18⟩, fun hS => ?_⟩
                        refine GW.call 20 rfl (by kernel_rfl) rfl rfl rfl (utext_s (splitP h.path).1 (by omega) ((155 : Nat) : Int) (by decide) (by decide) ((155 : Nat) : Int) w18) ?_
                        rintro _ w20 ⟨rfl, hx20⟩
                        refine ⟨⟨hS.1.trans hx20, hS.2.1.ext hx20, hS.2.2.ext hx20⟩, fun hS => ?_⟩
                        refine GW.call 21 rfl (by kernel_rfl) rfl rfl rfl (utext_s [] (by simp) ((12 : Nat) : Int) (by decide) (by decide) ((12 : Nat) : Int) w20) ?_
                        rintro _ w21 ⟨rfl, hx21⟩
                        refine ⟨⟨hS.1.trans hx21, hS.2.1.ext hx21, hS.2.2.ext hx21⟩, fun hS => ?_⟩
                        refine GW.buildG 22 9 ((L2 h (splitP h.path).1).map fdV) rfl (by kernel_rfl) rfl rfl Try.underlying66 ti48 rfl (by decide) rfl rfl rfl (by first | (intro v hv; obtain ⟨f, hf, rfl⟩ := List.mem_map.1 hv; rfl) | simp) (by decide) ?_
                        rintro sb w22 hge22 h22 hx22
                        refine ⟨⟨hS.1.trans hx22, hS.2.1.ext hx22, hS.2.2.ext hx22⟩, fun hS => ?_⟩
                        refine GW.call 23 rfl (by kernel_rfl) rfl rfl rfl (joined_s (L2 h (splitP h.path).1) (fun f hf => (nl2 f hf).ne) (fun f hf => (nl2 f hf).len) (by simp [L2]) (some ⟨sb, 0, none⟩) 9 _ w22 (by have hh := h22.sl; rw [← List.flatMap_def] at hh; exact hh)) ?_
                        rintro _ w23 ⟨rfl, hx23⟩
                        refine ⟨⟨hS.1.trans hx23, hS.2.1.ext hx23, hS.2.2.ext hx23⟩, fun hS => ?_⟩
                        have h22 := h22.ext hx23
                        refine GW.val 24 rfl (by kernel_rfl) (by kernel_rfl) (by kernel_rfl) rfl rfl hS (fun w' hS' => EX.move rfl) ?_
                        refine GW.val 25 rfl (by kernel_rfl) (by kernel_rfl) (by kernel_rfl) rfl rfl hS (fun w' hS' => EX.extract rfl rfl) ?_
                        refine GW.val 26 rfl (by kernel_rfl) (by kernel_rfl) (by kernel_rfl) rfl rfl hS (fun w' hS' => EX.extract rfl rfl) ?_
                        refine GW.val 27 rfl (by kernel_rfl) (by kernel_rfl) (by kernel_rfl) rfl rfl hS (fun w' hS' => EX.assign rfl) ?_
                        refine GW.val 28 rfl (by kernel_rfl) (by kernel_rfl) (by kernel_rfl) rfl rfl hS (fun w' hS' => EX.assign rfl) ?_
                        refine GW.done (by kernel_rfl) ?_
                        refine KW.meet1 w23 ⟨rfl, rfl, rfl, rfl, trivial⟩ rfl ?_
                        exact hS.1
                      · refine GO.call 18 rfl rfl rfl rfl (unumber_s 0 (by decide) (by decide) ((8 : Nat) : Int) (by decide) (by decide) w17) ?_
                        rintro _ w18 ⟨rfl, hx18⟩
                        refine ⟨⟨hS.1.trans hx18, hS.2.ext hx18⟩, fun hS => ?_⟩
                        refine GW.two 2 20 (by kernel_rfl) ?_ ?_
                        · refine GO.buildB 2 1 rfl rfl rfl Try.underlying38 ti5 rfl rfl rfl rfl rfl (by decide) ?_
                          rintro gb w2 hge2 h2 hx2
                          refine ⟨⟨hS.1.trans hx2, hS.2.ext hx2⟩, fun hS => ?_⟩
                          refine GW.strong (fun w' => Ext w w' ∧ Bk w' hb 25 h.cells ∧ Bk w' gb 5 [.int .u8 (h.kind : Int)]) (fun _ h => ⟨h.1, h.2.1⟩) ?_
                          replace hS := (⟨hS.1, hS.2, h2⟩ : (fun w' => Ext w w' ∧ Bk w' hb 25 h.cells ∧ Bk w' gb 5 [.int .u8 (h.kind : Int)]) w2)
                          refine GW.val 3 rfl (by kernel_rfl) (by kernel_rfl) (by kernel_rfl) rfl rfl hS (fun w' hS' => EX.strOf Try.underlying38 Try.underlying5 Try.underlying9 rfl (oneB hS'.2.2 hk) rfl) ?_
                          refine GW.val 4 rfl (by kernel_rfl) (by kernel_rfl) (by kernel_rfl) rfl rfl hS (fun w' hS' => EX.buildS (pl := [(0, 1), (1, 1)]) (ks := [0]) (is := [0]) (zs := [str [], .int .i64 0]) Try.underlying48 ti48 (by kernel_rfl) rfl rfl rfl (by first | rfl | (simp only [List.all_cons, List.all_nil, Bool.and_true, Bool.true_and, Bool.and_eq_true, Value.oneCell']; repeat (first | assumption | exact Own.one (by assumption) | constructor))) (by simp only [setAll, List.set_cons_zero, List.set_cons_succ]; rfl)) ?_
                          refine GW.call 20 rfl (by kernel_rfl) rfl rfl rfl (utext_s (splitP h.path).1 (by omega) ((155 : Nat) : Int) (by decide) (by decide) ((155 : Nat) : Int) w2) ?_
                          rintro _ w20 ⟨rfl, hx20⟩
                          refine ⟨⟨hS.1.trans hx20, hS.2.1.ext hx20, hS.2.2.ext hx20⟩, fun hS => ?_⟩
                          refine GW.call 21 rfl (by kernel_rfl) rfl rfl rfl (utext_s [] (by simp) ((12 : Nat) : Int) (by decide) (by decide) ((12 : Nat) : Int) w20) ?_
                          rintro _ w21 ⟨rfl, hx21⟩
                          refine ⟨⟨hS.1.trans hx21, hS.2.1.ext hx21, hS.2.2.ext hx21⟩, fun hS => ?_⟩
                          refine GW.buildG 22 9 ((L2 h (splitP h.path).1).map fdV) rfl (by kernel_rfl) rfl rfl Try.underlying66 ti48 rfl (by decide) rfl rfl rfl (by first | (intro v hv; obtain ⟨f, hf, rfl⟩ := List.mem_map.1 hv; rfl) | simp) (by decide) ?_
                          rintro sb w22 hge22 h22 hx22
                          refine ⟨⟨hS.1.trans hx22, hS.2.1.ext hx22, hS.2.2.ext hx22⟩, fun hS => ?_⟩
                          refine GW.call 23 rfl (by kernel_rfl) rfl rfl rfl (joined_s (L2 h (splitP h.path).1) (fun f hf => (nl2 f hf).ne) (fun f hf => (nl2 f hf).len) (by simp [L2]) (some ⟨sb, 0, none⟩) 9 _ w22 (by have hh := h22.sl; rw [← List.flatMap_def] at hh; exact hh)) ?_
                          rintro _ w23 ⟨rfl, hx23⟩
                          refine ⟨⟨hS.1.trans hx23, hS.2.1.ext hx23, hS.2.2.ext hx23⟩, fun hS => ?_⟩
                          have h22 := h22.ext hx23
                          refine GW.val 24 rfl (by kernel_rfl) (by kernel_rfl) (by kernel_rfl) rfl rfl hS (fun w' hS' => EX.move rfl) ?_
                          refine GW.val 25 rfl (by kernel_rfl) (by kernel_rfl) (by kernel_rfl) rfl rfl hS (fun w' hS' => EX.extract rfl rfl) ?_
                          refine GW.val 26 rfl (by kernel_rfl) (by kernel_rfl) (by kernel_rfl) rfl rfl hS (fun w' hS' => EX.extract rfl rfl) ?_
                          refine GW.val 27 rfl (by kernel_rfl) (by kernel_rfl) (by kernel_rfl) rfl rfl hS (fun w' hS' => EX.assign rfl) ?_
                          refine GW.val 28 rfl (by kernel_rfl) (by kernel_rfl) (by kernel_rfl) rfl rfl hS (fun w' hS' => EX.assign rfl) ?_
                          refine GW.done (by kernel_rfl) ?_
                          refine KW.meet1 w23 ⟨rfl, rfl, rfl, rfl, trivial⟩ rfl ?_
                          exact hS.1
                        · refine GO.call 20 rfl rfl rfl rfl (utext_s (splitP h.path).1 (by omega) ((155 : Nat) : Int) (by decide) (by decide) ((155 : Nat) : Int) w18) ?_
                          rintro _ w20 ⟨rfl, hx20⟩
                          refine ⟨⟨hS.1.trans hx20, hS.2.ext hx20⟩, fun hS => ?_⟩
                          refine GW.two 2 21 (by kernel_rfl) ?_ ?_
                          · refine GO.buildB 2 1 rfl rfl rfl Try.underlying38 ti5 rfl rfl rfl rfl rfl (by decide) ?_
                            rintro gb w2 hge2 h2 hx2
                            refine ⟨⟨hS.1.trans hx2, hS.2.ext hx2⟩, fun hS => ?_⟩
                            refine GW.strong (fun w' => Ext w w' ∧ Bk w' hb 25 h.cells ∧ Bk w' gb 5 [.int .u8 (h.kind : Int)]) (fun _ h => ⟨h.1, h.2.1⟩) ?_
                            replace hS := (⟨hS.1, hS.2, h2⟩ : (fun w' => Ext w w' ∧ Bk w' hb 25 h.cells ∧ Bk w' gb 5 [.int .u8 (h.kind : Int)]) w2)
                            refine GW.val 3 rfl (by kernel_rfl) (by kernel_rfl) (by kernel_rfl) rfl rfl hS (fun w' hS' => EX.strOf Try.underlying38 Try.underlying5 Try.underlying9 rfl (oneB hS'.2.2 hk) rfl) ?_
                            refine GW.val 4 rfl (by kernel_rfl) (by kernel_rfl) (by kernel_rfl) rfl rfl hS (fun w' hS' => EX.buildS (pl := [(0, 1), (1, 1)]) (ks := [0]) (is := [0]) (zs := [str [], .int .i64 0]) Try.underlying48 ti48 (by kernel_rfl) rfl rfl rfl (by first | rfl | (simp only [List.all_cons, List.all_nil, Bool.and_true, Bool.true_and, Bool.and_eq_true, Value.oneCell']; repeat (first | assumption | exact Own.one (by assumption) | constructor))) (by simp only [setAll, List.set_cons_zero, List.set_cons_succ]; rfl)) ?_
                            refine GW.call 21 rfl (by kernel_rfl) rfl rfl rfl (utext_s [] (by simp) ((12 : Nat) : Int) (by decide) (by decide) ((12 : Nat) : Int) w2) ?_
                            rintro _ w21 ⟨rfl, hx21⟩
                            refine ⟨⟨hS.1.trans hx21, hS.2.1.ext hx21, hS.2.2.ext hx21⟩, fun hS => ?_⟩
                            refine GW.buildG 22 9 ((L2 h (splitP h.path).1).map fdV) rfl (by kernel_rfl) rfl rfl Try.underlying66 ti48 rfl (by decide) rfl rfl rfl (by first | (intro v hv; obtain ⟨f, hf, rfl⟩ := List.mem_map.1 hv; rfl) | simp) (by decide) ?_
                            rintro sb w22 hge22 h22 hx22
                            refine ⟨⟨hS.1.trans hx22, hS.2.1.ext hx22, hS.2.2.ext hx22⟩, fun hS => ?_⟩
                            refine GW.call 23 rfl (by kernel_rfl) rfl rfl rfl (joined_s (L2 h (splitP h.path).1) (fun f hf => (nl2 f hf).ne) (fun f hf => (nl2 f hf).len) (by simp [L2]) (some ⟨sb, 0, none⟩) 9 _ w22 (by have hh := h22.sl; rw [← List.flatMap_def] at hh; exact hh)) ?_
                            rintro _ w23 ⟨rfl, hx23⟩
                            refine ⟨⟨hS.1.trans hx23, hS.2.1.ext hx23, hS.2.2.ext hx23⟩, fun hS => ?_⟩
                            have h22 := h22.ext hx23
                            refine GW.val 24 rfl (by kernel_rfl) (by kernel_rfl) (by kernel_rfl) rfl rfl hS (fun w' hS' => EX.move rfl) ?_
                            refine GW.val 25 rfl (by kernel_rfl) (by kernel_rfl) (by kernel_rfl) rfl rfl hS (fun w' hS' => EX.extract rfl rfl) ?_
                            refine GW.val 26 rfl (by kernel_rfl) (by kernel_rfl) (by kernel_rfl) rfl rfl hS (fun w' hS' => EX.extract rfl rfl) ?_
                            refine GW.val 27 rfl (by kernel_rfl) (by kernel_rfl) (by kernel_rfl) rfl rfl hS (fun w' hS' => EX.assign rfl) ?_
                            refine GW.val 28 rfl (by kernel_rfl) (by kernel_rfl) (by kernel_rfl) rfl rfl hS (fun w' hS' => EX.assign rfl) ?_
                            refine GW.done (by kernel_rfl) ?_
                            refine KW.meet1 w23 ⟨rfl, rfl, rfl, rfl, trivial⟩ rfl ?_
                            exact hS.1
                          · refine GO.call 21 rfl rfl rfl rfl (utext_s [] (by simp) ((12 : Nat) : Int) (by decide) (by decide) ((12 : Nat) : Int) w20) ?_
                            rintro _ w21 ⟨rfl, hx21⟩
                            refine ⟨⟨hS.1.trans hx21, hS.2.ext hx21⟩, fun hS => ?_⟩
                            refine GW.buildB 2 1 rfl (by kernel_rfl) rfl rfl Try.underlying38 ti5 rfl rfl rfl rfl rfl (by decide) ?_
                            rintro gb w2 hge2 h2 hx2
                            refine ⟨⟨hS.1.trans hx2, hS.2.ext hx2⟩, fun hS => ?_⟩
                            refine GW.strong (fun w' => Ext w w' ∧ Bk w' hb 25 h.cells ∧ Bk w' gb 5 [.int .u8 (h.kind : Int)]) (fun _ h => ⟨h.1, h.2.1⟩) ?_
                            replace hS := (⟨hS.1, hS.2, h2⟩ : (fun w' => Ext w w' ∧ Bk w' hb 25 h.cells ∧ Bk w' gb 5 [.int .u8 (h.kind : Int)]) w2)
                            refine GW.val 3 rfl (by kernel_rfl) (by kernel_rfl) (by kernel_rfl) rfl rfl hS (fun w' hS' => EX.strOf Try.underlying38 Try.underlying5 Try.underlying9 rfl (oneB hS'.2.2 hk) rfl) ?_
                            refine GW.val 4 rfl (by kernel_rfl) (by kernel_rfl) (by kernel_rfl) rfl rfl hS (fun w' hS' => EX.buildS (pl := [(0, 1), (1, 1)]) (ks := [0]) (is := [0]) (zs := [str [], .int .i64 0]) Try.underlying48 ti48 (by kernel_rfl) rfl rfl rfl (by first | rfl | (simp only [List.all_cons, List.all_nil, Bool.and_true, Bool.true_and, Bool.and_eq_true, Value.oneCell']; repeat (first | assumption | exact Own.one (by assumption) | constructor))) (by simp only [setAll, List.set_cons_zero, List.set_cons_succ]; rfl)) ?_
                            refine GW.buildG 22 9 ((L2 h (splitP h.path).1).map fdV) rfl (by kernel_rfl) rfl rfl Try.underlying66 ti48 rfl (by decide) rfl rfl rfl (by first | (intro v hv; obtain ⟨f, hf, rfl⟩ := List.mem_map.1 hv; rfl) | simp) (by decide) ?_
                            rintro sb w22 hge22 h22 hx22
                            refine ⟨⟨hS.1.trans hx22, hS.2.1.ext hx22, hS.2.2.ext hx22⟩, fun hS => ?_⟩
                            refine GW.call 23 rfl (by kernel_rfl) rfl rfl rfl (joined_s (L2 h (splitP h.path).1) (fun f hf => (nl2 f hf).ne) (fun f hf => (nl2 f hf).len) (by simp [L2]) (some ⟨sb, 0, none⟩) 9 _ w22 (by have hh := h22.sl; rw [← List.flatMap_def] at hh; exact hh)) ?_
                            rintro _ w23 ⟨rfl, hx23⟩
                            refine ⟨⟨hS.1.trans hx23, hS.2.1.ext hx23, hS.2.2.ext hx23⟩, fun hS => ?_⟩
                            have h22 := h22.ext hx23
                            refine GW.val 24 rfl (by kernel_rfl) (by kernel_rfl) (by kernel_rfl) rfl rfl hS (fun w' hS' => EX.move rfl) ?_
                            refine GW.val 25 rfl (by kernel_rfl) (by kernel_rfl) (by kernel_rfl) rfl rfl hS (fun w' hS' => EX.extract rfl rfl) ?_
                            refine GW.val 26 rfl (by kernel_rfl) (by kernel_rfl) (by kernel_rfl) rfl rfl hS (fun w' hS' => EX.extract rfl rfl) ?_
                            refine GW.val 27 rfl (by kernel_rfl) (by kernel_rfl) (by kernel_rfl) rfl rfl hS (fun w' hS' => EX.assign rfl) ?_
                            refine GW.val 28 rfl (by kernel_rfl) (by kernel_rfl) (by kernel_rfl) rfl rfl hS (fun w' hS' => EX.assign rfl) ?_
                            refine GW.done (by kernel_rfl) ?_
                            refine KW.meet1 w23 ⟨rfl, rfl, rfl, rfl, trivial⟩ rfl ?_
                            exact hS.1
            · rintro wq xq
              have jy := fun hm : May h => joinF_yes hm p1 p3 (fun z => hz' (p5 _ z)) (fun z => hz' (p4 _ z))
              have hjn := @joinF_no h (splitP h.path).1 (splitP h.path).2.1 hmk' hz'
              generalize hJ1 : joinF (L1 h (splitP h.path).2.1) = J1 at jy hjn
              generalize hJ2 : joinF (L2 h (splitP h.path).1) = J2 at jy hjn
              obtain ⟨g1, o1⟩ := J1
              obtain ⟨g2, o2⟩ := J2
              refine KW.seq (KW.seq ?_)
              rcases o1 with _ | _
              · skip
                refine KW.region ?_
                refine OW.val rfl rfl (EX.move rfl) ?_
                refine OW.val rfl rfl (by first | exact EX.notD rfl | exact EX.notB rfl) ?_
                refine OW.val rfl rfl (EX.move rfl) ?_
                refine OW.pass rfl rfl ?_
                refine OW.pass rfl rfl ?_
                refine OW.val rfl rfl (EX.pickT rfl rfl) ?_
                refine OW.nil ?_
                refine KW.condT rfl (KW.seq (KW.region ?_))
                refine OW.val rfl rfl (EX.assign rfl) ?_
                refine OW.val rfl rfl (EX.assign rfl) ?_
                refine OW.nil ?_
                refine KW.ret (ret2 rfl rfl rfl ?_)
                rw [eno fun hm => by have := (jy hm).1; cases this]
                exact ⟨rfl, xq⟩
              · skip
                rcases o2 with _ | _
                · skip
                  refine KW.region ?_
                  refine OW.val rfl rfl (EX.move rfl) ?_
                  refine OW.val rfl rfl (by first | exact EX.notD rfl | exact EX.notB rfl) ?_
                  refine OW.val rfl rfl (EX.move rfl) ?_
                  refine OW.val rfl rfl (EX.move rfl) ?_
                  refine OW.val rfl rfl (by first | exact EX.notD rfl | exact EX.notB rfl) ?_
                  refine OW.val rfl rfl (EX.pickF rfl rfl) ?_
                  refine OW.nil ?_
                  refine KW.condT rfl (KW.seq (KW.region ?_))
                  refine OW.val rfl rfl (EX.assign rfl) ?_
                  refine OW.val rfl rfl (EX.assign rfl) ?_
                  refine OW.nil ?_
                  refine KW.ret (ret2 rfl rfl rfl ?_)
                  rw [eno fun hm => by have := (jy hm).2; cases this]
                  exact ⟨rfl, xq⟩
                · skip
                  have hm := hjn rfl rfl
                  obtain ⟨j1, j2⟩ := jy hm
                  obtain rfl := (Prod.mk.inj j1).1
                  obtain rfl := (Prod.mk.inj j2).1
                  have hl1 : ((headL h (splitP h.path).2.1).flatten).length = 148 := by rw [List.length_flatten, head_len h p1]; rfl
                  have hl2 : ((tailL h (splitP h.path).1).flatten).length = 356 := by rw [List.length_flatten, tail_len h p3 hm.link.1 (by have := hm.n0.1; omega) (by have := hm.n1.1; omega)]; rfl
                  have hl3 := nul_len 8
                  have hall : ((headL h (splitP h.path).2.1).flatten ++ nul 8 ++ (tailL h (splitP h.path).1).flatten).length = 512 := by rw [List.length_append, List.length_append]; omega
                  have hsum : sum ((headL h (splitP h.path).2.1).flatten ++ nul 8 ++ (tailL h (splitP h.path).1).flatten) = (hdSum h, 0) := by
                    unfold sum
                    rw [if_neg (by omega)]
                    rfl
                  have hsm : hdSum h / 8 ^ 6 = 0 := sumTo_small _
                  have hoct : octal ((hdSum h : Nat) : Int) ((7 : Nat) : Int) = (octs (hdSum h) 6 ++ [0], 0) := octal_yes (k := 6) (by decide) (by decide) hsm
                  have hle : hdSum h ≤ 1000000 := by have := sumTo_le (withS h (splitP h.path).1 (splitP h.path).2.1 (nul 8)) 512; unfold hdSum; omega
                  have hs6 := octs_length 6 (hdSum h)
                  have c1 := sum_s ((headL h (splitP h.path).2.1).flatten ++ nul 8 ++ (tailL h (splitP h.path).1).flatten) (by omega) wq
                  rw [hsum] at c1
                  have c2 := octal_s ((hdSum h : Nat) : Int) (by omega) (by omega) ((7 : Nat) : Int) (by decide) (by decide) wq
                  rw [hoct] at c2
                  rw [eyes hm]
                  generalize hH : (headL h (splitP h.path).2.1).flatten = H at hl1 c1 hall
                  generalize hT : (tailL h (splitP h.path).1).flatten = T at hl2 c1 hall
                  have hlH : (H ++ nul 8).length = 156 := by rw [List.length_append]; omega
                  have hlH' : (H ++ nul 8, true).1.length = 156 := hlH
                  refine KW.region ?_
                  refine OW.val rfl rfl (EX.move rfl) ?_
                  refine OW.val rfl rfl (by first | exact EX.notD rfl | exact EX.notB rfl) ?_
                  refine OW.val rfl rfl (EX.move rfl) ?_
                  refine OW.val rfl rfl (EX.move rfl) ?_
                  refine OW.val rfl rfl (by first | exact EX.notD rfl | exact EX.notB rfl) ?_
                  refine OW.val rfl rfl (EX.pickF rfl rfl) ?_
                  refine OW.nil ?_
                  refine KW.condF rfl (KW.skip (KW.seq (KW.region ?_)))
                  refine OW.val rfl rfl (EX.move rfl) ?_
                  refine OW.val rfl rfl (EX.move rfl) ?_
                  refine OW.val rfl rfl (EX.addS rfl rfl (by first | omega | (simp only [List.length_append, List.length_cons, List.length_nil, List.length_take, List.length_drop, List.length_replicate]; omega))) ?_
                  refine OW.call rfl rfl rfl (c1) ?_
                  rintro _ _ ⟨rfl, rfl⟩
                  refine OW.val rfl rfl (EX.move rfl) ?_
                  refine OW.val rfl rfl (EX.extract rfl rfl) ?_
                  refine OW.val rfl rfl (EX.extract rfl rfl) ?_
                  refine OW.val rfl rfl (EX.assign rfl) ?_
                  refine OW.val rfl rfl (EX.assign rfl) ?_
                  refine OW.nil ?_
                  refine KW.seq (KW.region ?_)
                  refine OW.val rfl rfl (EX.move rfl) ?_
                  refine OW.call rfl rfl rfl (c2) ?_
                  rintro _ wz ⟨rfl, xz⟩
                  refine OW.val rfl rfl (EX.move rfl) ?_
                  refine OW.val rfl rfl (EX.extract rfl rfl) ?_
                  refine OW.val rfl rfl (EX.extract rfl rfl) ?_
                  refine OW.val rfl rfl (EX.assign rfl) ?_
                  refine OW.val rfl rfl (EX.assign rfl) ?_
                  refine OW.nil ?_
                  refine KW.seq (KW.region ?_)
                  refine OW.val rfl rfl (EX.move rfl) ?_
                  refine OW.val rfl rfl (EX.sliceFH (j := 148) Try.underlying9 rfl rfl (by omega)) ?_
                  refine OW.val rfl rfl (EX.move rfl) ?_
                  refine OW.val rfl rfl (EX.addS rfl rfl (by first | omega | (simp only [List.length_append, List.length_cons, List.length_nil, List.length_take, List.length_drop, List.length_replicate]; omega))) ?_
                  refine OW.val rfl rfl (EX.addS (r := [32]) rfl rfl (by first | omega | (simp only [List.length_append, List.length_cons, List.length_nil, List.length_take, List.length_drop, List.length_replicate]; omega))) ?_
                  refine OW.val rfl rfl (EX.move rfl) ?_
                  refine OW.val rfl rfl (EX.addS rfl rfl (by first | omega | (simp only [List.length_append, List.length_cons, List.length_nil, List.length_take, List.length_drop, List.length_replicate]; omega))) ?_
                  refine OW.val rfl rfl (EX.assign rfl) ?_
                  refine OW.val rfl rfl (EX.assign rfl) ?_
                  refine OW.nil ?_
                  refine KW.ret (ret2 rfl rfl rfl ?_)
                  refine ⟨?_, xq.trans xz⟩
                  have ht : (H ++ nul 8).take 148 = H := by rw [← hl1]; exact List.take_left' rfl
                  have ed : hdText h = H ++ (octs (hdSum h) 6 ++ [0]) ++ [32] ++ T := by
                    unfold hdText withS sumF
                    rw [hH, hT]
                    simp
                  simp only [ed, ht]
                  rfl
end Go.Proofs.Ytaoieiiggbpjeaa
