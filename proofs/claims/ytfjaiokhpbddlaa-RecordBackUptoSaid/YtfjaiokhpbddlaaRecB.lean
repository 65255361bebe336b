/-
  record: records are laid, by the program and by the document.
-/
import Derived.Test.YtfjaiokhpbddlaaRecA
namespace Go.Proofs.Ytfjaiokhpbddlaa
open Go.RowKit Rec
set_option linter.unusedVariables false
set_option linter.unusedSimpArgs false

theorem oneB {w : World} {b k : Nat} {T : TypeId} (h : Bk w b T [.int .u8 (k : Int)]) (hk : k ≤ 255) : Sl w w.heap.size (some ⟨b, 0, none⟩) (bytesV [UInt8.ofNat k]) := by
  have e : bytesV [UInt8.ofNat k] = [.int .u8 (k : Int)] := by
    have : (UInt8.ofNat k).toNat = k := by simp; omega
    simp [bytesV, this]
  rw [e]
  exact h.sl
theorem repeat_c (n : Nat) (hn : n ≤ 1000) (w : World) : Ret Try.prog 22 [str [0], .int .i64 (n : Int)] w fun v w' => v = str (List.replicate n 0) ∧ Ext w w' := by
  have hnn : (!(Try.f22.name == "runtime.NumGoroutine") && Try.f22.body.isSome) = true := by kernel_rfl
  have h := Try.strings_Repeat ⟨#[0]⟩ n w (by omega) (by show 1 * n ≤ _; omega)
  have e : Go.Lib.repeatL (⟨#[0]⟩ : ByteArray).data.toList n = List.replicate n 0 := by
    show Go.Lib.repeatL [0] n = _
    clear h hn
    induction n with
    | zero => rfl
    | succ n ih => rw [List.replicate_succ, ← ih]; rfl
  rw [e] at h
  exact Ret.of_calls Try.func22 hnn h
theorem rieee_c (s : List UInt8) (hs : s.length ≤ 100000) (w : World) : Ret Try.prog 25 [str s] w fun v w' => v = .int .u32 (cieee s : Nat) ∧ Ext w w' := by
  have h := rieee_s s hs w
  rwa [ieee_eq] at h
theorem cieee_lt (s : List UInt8) : cieee s < 4294967296 := trn_lt _ _ _ (by decide)
def head (kind gen index : Nat) (n : Nat) : List UInt8 := [75, 73, 83, 84] ++ [UInt8.ofNat kind] ++ be 8 gen ++ be 4 index ++ be 2 n
theorem head_length (kind gen index n : Nat) : (head kind gen index n).length = 19 := by simp [head, be_length]
set_option maxRecDepth 20000 in
theorem encode_s (kind : Nat) (hk : kind ≤ 255) (gen index : Int) (data : List UInt8) (hd : data.length ≤ 140737488355328) (w : World) :
    Ret Try.prog 9 [.int .u8 (kind : Int), .int .i64 gen, .int .i64 index, str data] w fun v w' => v = .tuple #[str (encodeR kind gen index data).1, .int .i64 (((encodeR kind gen index data).2 : Nat) : Int)] ∧ Ext w w' := by
  have eb : bad kind gen index data → encodeR kind gen index data = ([], 200) := fun h => by unfold encodeR; rw [if_pos h]
  refine Ret.enter Try.func9 rfl Try.ntmps9 (by kernel_rfl) rfl ?_
  refine KW.seq (KW.region ?_)
  refine OW.val rfl rfl (EX.assign rfl) ?_
  refine OW.val rfl rfl (EX.assign rfl) ?_
  refine OW.nil ?_
  refine KW.seq (KW.seq ?_)
  refine KW.region ?_
  refine OW.val rfl rfl (EX.move rfl) ?_
  refine OW.val rfl rfl (by first | exact EX.eqlN (b := 0) rfl rfl | exact EX.eqlZ rfl rfl) ?_
  refine OW.val rfl rfl (EX.move rfl) ?_
  refine OW.splitD 13 rfl (fun a1 => ?_) (fun a1 => ?_)
  · refine OW.pass rfl rfl ?_
    refine OW.pass rfl rfl ?_
    refine OW.val rfl rfl (EX.pickT rfl rfl) ?_
    refine OW.val rfl rfl (EX.move rfl) ?_
    refine OW.pass rfl rfl ?_
    refine OW.pass rfl rfl ?_
    refine OW.val rfl rfl (EX.pickT rfl rfl) ?_
    refine OW.val rfl rfl (EX.move rfl) ?_
    refine OW.pass rfl rfl ?_
    refine OW.pass rfl rfl ?_
    refine OW.val rfl rfl (EX.pickT rfl rfl) ?_
    refine OW.val rfl rfl (EX.move rfl) ?_
    refine OW.pass rfl rfl ?_
    refine OW.pass rfl rfl ?_
    refine OW.val rfl rfl (EX.pickT rfl rfl) ?_
    refine OW.val rfl rfl (EX.move rfl) ?_
    refine OW.pass rfl rfl ?_
    refine OW.pass rfl rfl ?_
    refine OW.pass rfl rfl ?_
    refine OW.val rfl rfl (EX.pickT rfl rfl) ?_
    refine OW.nil ?_
    refine KW.condT rfl (KW.seq (KW.region ?_))
    refine OW.val rfl rfl (EX.assign rfl) ?_
    refine OW.val rfl rfl (EX.assign rfl) ?_
    refine OW.nil ?_
    refine KW.ret (ret2 rfl rfl rfl ?_)
    rw [eb (.inl a1)]
    exact ⟨rfl, Ext.refl _⟩
  · refine OW.val rfl rfl (EX.move rfl) ?_
    refine OW.val rfl rfl (by first | exact EX.lssN (b := 0) rfl rfl | exact EX.lssZ rfl rfl) ?_
    refine OW.val rfl rfl (EX.pickF rfl rfl) ?_
    refine OW.val rfl rfl (EX.move rfl) ?_
    refine OW.splitD 17 rfl (fun a2 => ?_) (fun a2 => ?_)
    · refine OW.pass rfl rfl ?_
      refine OW.pass rfl rfl ?_
      refine OW.val rfl rfl (EX.pickT rfl rfl) ?_
      refine OW.val rfl rfl (EX.move rfl) ?_
      refine OW.pass rfl rfl ?_
      refine OW.pass rfl rfl ?_
      refine OW.val rfl rfl (EX.pickT rfl rfl) ?_
      refine OW.val rfl rfl (EX.move rfl) ?_
      refine OW.pass rfl rfl ?_
      refine OW.pass rfl rfl ?_
      refine OW.val rfl rfl (EX.pickT rfl rfl) ?_
      refine OW.val rfl rfl (EX.move rfl) ?_
      refine OW.pass rfl rfl ?_
      refine OW.pass rfl rfl ?_
      refine OW.pass rfl rfl ?_
      refine OW.val rfl rfl (EX.pickT rfl rfl) ?_
      refine OW.nil ?_
      refine KW.condT rfl (KW.seq (KW.region ?_))
      refine OW.val rfl rfl (EX.assign rfl) ?_
      refine OW.val rfl rfl (EX.assign rfl) ?_
      refine OW.nil ?_
      refine KW.ret (ret2 rfl rfl rfl ?_)
      rw [eb (.inr (.inl a2))]
      exact ⟨rfl, Ext.refl _⟩
    · refine OW.val rfl rfl (EX.move rfl) ?_
      refine OW.val rfl rfl (by first | exact EX.gtrN (b := 4611686018427387904) rfl rfl | exact EX.gtrZ rfl rfl) ?_
      refine OW.val rfl rfl (EX.pickF rfl rfl) ?_
      refine OW.val rfl rfl (EX.move rfl) ?_
      refine OW.splitD 21 rfl (fun a3 => ?_) (fun a3 => ?_)
      · refine OW.pass rfl rfl ?_
        refine OW.pass rfl rfl ?_
        refine OW.val rfl rfl (EX.pickT rfl rfl) ?_
        refine OW.val rfl rfl (EX.move rfl) ?_
        refine OW.pass rfl rfl ?_
        refine OW.pass rfl rfl ?_
        refine OW.val rfl rfl (EX.pickT rfl rfl) ?_
        refine OW.val rfl rfl (EX.move rfl) ?_
        refine OW.pass rfl rfl ?_
        refine OW.pass rfl rfl ?_
        refine OW.pass rfl rfl ?_
        refine OW.val rfl rfl (EX.pickT rfl rfl) ?_
        refine OW.nil ?_
        refine KW.condT rfl (KW.seq (KW.region ?_))
        refine OW.val rfl rfl (EX.assign rfl) ?_
        refine OW.val rfl rfl (EX.assign rfl) ?_
        refine OW.nil ?_
        refine KW.ret (ret2 rfl rfl rfl ?_)
        rw [eb (.inr (.inr (.inl a3)))]
        exact ⟨rfl, Ext.refl _⟩
      · refine OW.val rfl rfl (EX.move rfl) ?_
        refine OW.val rfl rfl (by first | exact EX.lssN (b := 0) rfl rfl | exact EX.lssZ rfl rfl) ?_
        refine OW.val rfl rfl (EX.pickF rfl rfl) ?_
        refine OW.val rfl rfl (EX.move rfl) ?_
        refine OW.splitD 25 rfl (fun a4 => ?_) (fun a4 => ?_)
        · refine OW.pass rfl rfl ?_
          refine OW.pass rfl rfl ?_
          refine OW.val rfl rfl (EX.pickT rfl rfl) ?_
          refine OW.val rfl rfl (EX.move rfl) ?_
          refine OW.pass rfl rfl ?_
          refine OW.pass rfl rfl ?_
          refine OW.pass rfl rfl ?_
          refine OW.val rfl rfl (EX.pickT rfl rfl) ?_
          refine OW.nil ?_
          refine KW.condT rfl (KW.seq (KW.region ?_))
          refine OW.val rfl rfl (EX.assign rfl) ?_
          refine OW.val rfl rfl (EX.assign rfl) ?_
          refine OW.nil ?_
          refine KW.ret (ret2 rfl rfl rfl ?_)
          rw [eb (.inr (.inr (.inr (.inl a4))))]
          exact ⟨rfl, Ext.refl _⟩
        · refine OW.val rfl rfl (EX.move rfl) ?_
          refine OW.val rfl rfl (by first | exact EX.gtrN (b := 2147483647) rfl rfl | exact EX.gtrZ rfl rfl) ?_
          refine OW.val rfl rfl (EX.pickF rfl rfl) ?_
          refine OW.val rfl rfl (EX.move rfl) ?_
          refine OW.splitD 29 rfl (fun a5 => ?_) (fun a5 => ?_)
          · refine OW.pass rfl rfl ?_
            refine OW.pass rfl rfl ?_
            refine OW.pass rfl rfl ?_
            refine OW.val rfl rfl (EX.pickT rfl rfl) ?_
            refine OW.nil ?_
            refine KW.condT rfl (KW.seq (KW.region ?_))
            refine OW.val rfl rfl (EX.assign rfl) ?_
            refine OW.val rfl rfl (EX.assign rfl) ?_
            refine OW.nil ?_
            refine KW.ret (ret2 rfl rfl rfl ?_)
            rw [eb (.inr (.inr (.inr (.inr (.inl a5)))))]
            exact ⟨rfl, Ext.refl _⟩
          · refine OW.val rfl rfl (EX.move rfl) ?_
            refine OW.val rfl rfl (EX.lenS Try.underlying9 rfl) ?_
            refine OW.val rfl rfl (by first | exact EX.gtrN (b := 486) rfl rfl | exact EX.gtrZ rfl rfl) ?_
            refine OW.val rfl rfl (EX.pickF rfl rfl) ?_
            refine OW.nil ?_
            refine KW.condD rfl (fun a6 => ?_) (fun a6 => ?_)
            · refine KW.seq (KW.region ?_)
              refine OW.val rfl rfl (EX.assign rfl) ?_
              refine OW.val rfl rfl (EX.assign rfl) ?_
              refine OW.nil ?_
              refine KW.ret (ret2 rfl rfl rfl ?_)
              rw [eb (.inr (.inr (.inr (.inr (.inr a6)))))]
              exact ⟨rfl, Ext.refl _⟩
            · refine KW.skip (KW.seq ?_)
              have e : encodeR kind gen index data = (text kind gen.toNat index.toNat data, 0) := by unfold encodeR; rw [if_neg]; rintro (h | h | h | h | h | h) <;> omega
              rw [e]
              obtain ⟨g, rfl⟩ := Int.eq_ofNat_of_zero_le (show 0 ≤ gen by omega)
              obtain ⟨ix, rfl⟩ := Int.eq_ofNat_of_zero_le (show 0 ≤ index by omega)
              have l8 := be_length 8 g
              have l4 := be_length 4 ix
              have l2 := be_length 2 data.length
              refine KW.cut1 (fun (wr : World) => Ext w wr) (fun (wr : World) => [(3, str (data)), (10, str (head kind g ix data.length))]) (fun (wr : World) => wr) ?_ ?_
              · skip
                refine KW.regionG (N := 18) (fun w' => Ext w w') (by kernel_rfl) rfl ?_
                have hS : (fun w' => Ext w w') w.drew := Ext.drew w
                refine GW.val 0 rfl (by kernel_rfl) (by kernel_rfl) (by kernel_rfl) rfl rfl hS (fun w' hS' => EX.move rfl) ?_
                refine GW.val 4 rfl (by kernel_rfl) (by kernel_rfl) (by kernel_rfl) rfl rfl hS (fun w' hS' => EX.move rfl) ?_
                refine GW.val 5 rfl (by kernel_rfl) (by kernel_rfl) (by kernel_rfl) rfl rfl hS (fun w' hS' => by first | exact EX.convN (m := 18446744073709551615) Try.underlying3 Try.underlying56 rfl rfl (by omega) | exact EX.convW (m := 18446744073709551616) Try.underlying3 Try.underlying56 rfl rfl (by decide) | exact EX.convZ Try.underlying3 Try.underlying56 rfl) ?_
                refine GW.val 8 rfl (by kernel_rfl) (by kernel_rfl) (by kernel_rfl) rfl rfl hS (fun w' hS' => EX.move rfl) ?_
                refine GW.val 9 rfl (by kernel_rfl) (by kernel_rfl) (by kernel_rfl) rfl rfl hS (fun w' hS' => by first | exact EX.convN (m := 18446744073709551615) Try.underlying3 Try.underlying56 rfl rfl (by omega) | exact EX.convW (m := 18446744073709551616) Try.underlying3 Try.underlying56 rfl rfl (by decide) | exact EX.convZ Try.underlying3 Try.underlying56 rfl) ?_
                refine GW.val 12 rfl (by kernel_rfl) (by kernel_rfl) (by kernel_rfl) rfl rfl hS (fun w' hS' => EX.move rfl) ?_
                refine GW.val 13 rfl (by kernel_rfl) (by kernel_rfl) (by kernel_rfl) rfl rfl hS (fun w' hS' => EX.lenS Try.underlying9 rfl) ?_
                refine GW.val 14 rfl (by kernel_rfl) (by kernel_rfl) (by kernel_rfl) rfl rfl hS (fun w' hS' => by first | exact EX.convN (m := 18446744073709551615) Try.underlying3 Try.underlying56 rfl rfl (by omega) | exact EX.convW (m := 18446744073709551616) Try.underlying3 Try.underlying56 rfl rfl (by decide) | exact EX.convZ Try.underlying3 Try.underlying56 rfl) ?_
                refine GW.two 1 6 (by kernel_rfl) ?_ ?_
                · refine GO.buildB 1 1 rfl rfl rfl Try.underlying46 ti5 rfl rfl rfl rfl rfl (by decide) ?_
                  rintro gb w1 hge1 h1 hx1
                  refine ⟨hS.trans hx1, fun hS => ?_⟩
                  refine GW.strong (fun w' => Ext w w' ∧ Bk w' gb 5 [.int .u8 (kind : Int)]) (fun _ h => h.1) ?_
                  replace hS := (⟨hS, h1⟩ : (fun w' => Ext w w' ∧ Bk w' gb 5 [.int .u8 (kind : Int)]) w1)
                  refine GW.val 2 rfl (by kernel_rfl) (by kernel_rfl) (by kernel_rfl) rfl rfl hS (fun w' hS' => EX.strOf Try.underlying46 Try.underlying5 Try.underlying9 rfl (oneB hS'.2 hk) rfl) ?_
                  refine GW.val 3 rfl (by kernel_rfl) (by kernel_rfl) (by kernel_rfl) rfl rfl hS (fun w' hS' => EX.addS (s := [75, 73, 83, 84]) rfl rfl (by first | omega | (simp only [List.length_append, List.length_cons, List.length_nil, List.length_take, List.length_drop, List.length_replicate]; omega))) ?_
                  refine GW.call 6 rfl (by kernel_rfl) rfl rfl rfl (number_r g 8 (by omega) (by decide) w1) ?_
                  rintro _ w6 ⟨rfl, hx6⟩
                  refine ⟨⟨hS.1.trans hx6, hS.2.ext hx6⟩, fun hS => ?_⟩
                  refine GW.val 7 rfl (by kernel_rfl) (by kernel_rfl) (by kernel_rfl) rfl rfl hS (fun w' hS' => EX.addS rfl rfl (by first | omega | (simp only [List.length_append, List.length_cons, List.length_nil, List.length_take, List.length_drop, List.length_replicate]; omega))) ?_
                  refine GW.call 10 rfl (by kernel_rfl) rfl rfl rfl (number_r ix 4 (by omega) (by decide) w6) ?_
                  rintro _ w10 ⟨rfl, hx10⟩
                  refine ⟨⟨hS.1.trans hx10, hS.2.ext hx10⟩, fun hS => ?_⟩
                  refine GW.val 11 rfl (by kernel_rfl) (by kernel_rfl) (by kernel_rfl) rfl rfl hS (fun w' hS' => EX.addS rfl rfl (by first | omega | (simp only [List.length_append, List.length_cons, List.length_nil, List.length_take, List.length_drop, List.length_replicate]; omega))) ?_
                  refine GW.call 15 rfl (by kernel_rfl) rfl rfl rfl (number_r data.length 2 (by omega) (by decide) w10) ?_
                  rintro _ w15 ⟨rfl, hx15⟩
                  refine ⟨⟨hS.1.trans hx15, hS.2.ext hx15⟩, fun hS => ?_⟩
                  refine GW.val 16 rfl (by kernel_rfl) (by kernel_rfl) (by kernel_rfl) rfl rfl hS (fun w' hS' => EX.addS rfl rfl (by first | omega | (simp only [List.length_append, List.length_cons, List.length_nil, List.length_take, List.length_drop, List.length_replicate]; omega))) ?_
                  refine GW.val 17 rfl (by kernel_rfl) (by kernel_rfl) (by kernel_rfl) rfl rfl hS (fun w' hS' => EX.assign rfl) ?_
                  refine GW.done (by kernel_rfl) ?_
                  refine KW.meet1 w15 ⟨rfl, rfl, trivial⟩ rfl ?_
                  exact hS.1
                · refine GO.call 6 rfl rfl rfl rfl (number_r g 8 (by omega) (by decide) w.drew) ?_
                  rintro _ w6 ⟨rfl, hx6⟩
                  refine ⟨hS.trans hx6, fun hS => ?_⟩
                  refine GW.two 1 10 (by kernel_rfl) ?_ ?_
                  · refine GO.buildB 1 1 rfl rfl rfl Try.underlying46 ti5 rfl rfl rfl rfl rfl (by decide) ?_
                    rintro gb w1 hge1 h1 hx1
                    refine ⟨hS.trans hx1, fun hS => ?_⟩
                    refine GW.strong (fun w' => Ext w w' ∧ Bk w' gb 5 [.int .u8 (kind : Int)]) (fun _ h => h.1) ?_
                    replace hS := (⟨hS, h1⟩ : (fun w' => Ext w w' ∧ Bk w' gb 5 [.int .u8 (kind : Int)]) w1)
                    refine GW.val 2 rfl (by kernel_rfl) (by kernel_rfl) (by kernel_rfl) rfl rfl hS (fun w' hS' => EX.strOf Try.underlying46 Try.underlying5 Try.underlying9 rfl (oneB hS'.2 hk) rfl) ?_
                    refine GW.val 3 rfl (by kernel_rfl) (by kernel_rfl) (by kernel_rfl) rfl rfl hS (fun w' hS' => EX.addS (s := [75, 73, 83, 84]) rfl rfl (by first | omega | (simp only [List.length_append, List.length_cons, List.length_nil, List.length_take, List.length_drop, List.length_replicate]; omega))) ?_
                    refine GW.val 7 rfl (by kernel_rfl) (by kernel_rfl) (by kernel_rfl) rfl rfl hS (fun w' hS' => EX.addS rfl rfl (by first | omega | (simp only [List.length_append, List.length_cons, List.length_nil, List.length_take, List.length_drop, List.length_replicate]; omega))) ?_
                    refine GW.call 10 rfl (by kernel_rfl) rfl rfl rfl (number_r ix 4 (by omega) (by decide) w1) ?_
                    rintro _ w10 ⟨rfl, hx10⟩
                    refine ⟨⟨hS.1.trans hx10, hS.2.ext hx10⟩, fun hS => ?_⟩
                    refine GW.val 11 rfl (by kernel_rfl) (by kernel_rfl) (by kernel_rfl) rfl rfl hS (fun w' hS' => EX.addS rfl rfl (by first | omega | (simp only [List.length_append, List.length_cons, List.length_nil, List.length_take, List.length_drop, List.length_replicate]; omega))) ?_
                    refine GW.call 15 rfl (by kernel_rfl) rfl rfl rfl (number_r data.length 2 (by omega) (by decide) w10) ?_
                    rintro _ w15 ⟨rfl, hx15⟩
                    refine ⟨⟨hS.1.trans hx15, hS.2.ext hx15⟩, fun hS => ?_⟩
                    refine GW.val 16 rfl (by kernel_rfl) (by kernel_rfl) (by kernel_rfl) rfl rfl hS (fun w' hS' => EX.addS rfl rfl (by first | omega | (simp only [List.length_append, List.length_cons, List.length_nil, List.length_take, List.length_drop, List.length_replicate]; omega))) ?_
                    refine GW.val 17 rfl (by kernel_rfl) (by kernel_rfl) (by kernel_rfl) rfl rfl hS (fun w' hS' => EX.assign rfl) ?_
                    refine GW.done (by kernel_rfl) ?_
                    refine KW.meet1 w15 ⟨rfl, rfl, trivial⟩ rfl ?_
                    exact hS.1
                  · refine GO.call 10 rfl rfl rfl rfl (number_r ix 4 (by omega) (by decide) w6) ?_
                    rintro _ w10 ⟨rfl, hx10⟩
                    refine ⟨hS.trans hx10, fun hS => ?_⟩
                    refine GW.two 1 15 (by kernel_rfl) ?_ ?_
                    · refine GO.buildB 1 1 rfl rfl rfl Try.underlying46 ti5 rfl rfl rfl rfl rfl (by decide) ?_
                      rintro gb w1 hge1 h1 hx1
                      refine ⟨hS.trans hx1, fun hS => ?_⟩
                      refine GW.strong (fun w' => Ext w w' ∧ Bk w' gb 5 [.int .u8 (kind : Int)]) (fun _ h => h.1) ?_
                      replace hS := (⟨hS, h1⟩ : (fun w' => Ext w w' ∧ Bk w' gb 5 [.int .u8 (kind : Int)]) w1)
                      refine GW.val 2 rfl (by kernel_rfl) (by kernel_rfl) (by kernel_rfl) rfl rfl hS (fun w' hS' => EX.strOf Try.underlying46 Try.underlying5 Try.underlying9 rfl (oneB hS'.2 hk) rfl) ?_
                      refine GW.val 3 rfl (by kernel_rfl) (by kernel_rfl) (by kernel_rfl) rfl rfl hS (fun w' hS' => EX.addS (s := [75, 73, 83, 84]) rfl rfl (by first | omega | (simp only [List.length_append, List.length_cons, List.length_nil, List.length_take, List.length_drop, List.length_replicate]; omega))) ?_
                      refine GW.val 7 rfl (by kernel_rfl) (by kernel_rfl) (by kernel_rfl) rfl rfl hS (fun w' hS' => EX.addS rfl rfl (by first | omega | (simp only [List.length_append, List.length_cons, List.length_nil, List.length_take, List.length_drop, List.length_replicate]; omega))) ?_
                      refine GW.val 11 rfl (by kernel_rfl) (by kernel_rfl) (by kernel_rfl) rfl rfl hS (fun w' hS' => EX.addS rfl rfl (by first | omega | (simp only [List.length_append, List.length_cons, List.length_nil, List.length_take, List.length_drop, List.length_replicate]; omega))) ?_
                      refine GW.call 15 rfl (by kernel_rfl) rfl rfl rfl (number_r data.length 2 (by omega) (by decide) w1) ?_
                      rintro _ w15 ⟨rfl, hx15⟩
                      refine ⟨⟨hS.1.trans hx15, hS.2.ext hx15⟩, fun hS => ?_⟩
                      refine GW.val 16 rfl (by kernel_rfl) (by kernel_rfl) (by kernel_rfl) rfl rfl hS (fun w' hS' => EX.addS rfl rfl (by first | omega | (simp only [List.length_append, List.length_cons, List.length_nil, List.length_take, List.length_drop, List.length_replicate]; omega))) ?_
                      refine GW.val 17 rfl (by kernel_rfl) (by kernel_rfl) (by kernel_rfl) rfl rfl hS (fun w' hS' => EX.assign rfl) ?_
                      refine GW.done (by kernel_rfl) ?_
                      refine KW.meet1 w15 ⟨rfl, rfl, trivial⟩ rfl ?_
                      exact hS.1
                    · refine GO.call 15 rfl rfl rfl rfl (number_r data.length 2 (by omega) (by decide) w10) ?_
                      rintro _ w15 ⟨rfl, hx15⟩
                      refine ⟨hS.trans hx15, fun hS => ?_⟩
                      refine GW.buildB 1 1 rfl (by kernel_rfl) rfl rfl Try.underlying46 ti5 rfl rfl rfl rfl rfl (by decide) ?_
                      rintro gb w1 hge1 h1 hx1
                      refine ⟨hS.trans hx1, fun hS => ?_⟩
                      refine GW.strong (fun w' => Ext w w' ∧ Bk w' gb 5 [.int .u8 (kind : Int)]) (fun _ h => h.1) ?_
                      replace hS := (⟨hS, h1⟩ : (fun w' => Ext w w' ∧ Bk w' gb 5 [.int .u8 (kind : Int)]) w1)
                      refine GW.val 2 rfl (by kernel_rfl) (by kernel_rfl) (by kernel_rfl) rfl rfl hS (fun w' hS' => EX.strOf Try.underlying46 Try.underlying5 Try.underlying9 rfl (oneB hS'.2 hk) rfl) ?_
                      refine GW.val 3 rfl (by kernel_rfl) (by kernel_rfl) (by kernel_rfl) rfl rfl hS (fun w' hS' => EX.addS (s := [75, 73, 83, 84]) rfl rfl (by first | omega | (simp only [List.length_append, List.length_cons, List.length_nil, List.length_take, List.length_drop, List.length_replicate]; omega))) ?_
                      refine GW.val 7 rfl (by kernel_rfl) (by kernel_rfl) (by kernel_rfl) rfl rfl hS (fun w' hS' => EX.addS rfl rfl (by first | omega | (simp only [List.length_append, List.length_cons, List.length_nil, List.length_take, List.length_drop, List.length_replicate]; omega))) ?_
                      refine GW.val 11 rfl (by kernel_rfl) (by kernel_rfl) (by kernel_rfl) rfl rfl hS (fun w' hS' => EX.addS rfl rfl (by first | omega | (simp only [List.length_append, List.length_cons, List.length_nil, List.length_take, List.length_drop, List.length_replicate]; omega))) ?_
                      refine GW.val 16 rfl (by kernel_rfl) (by kernel_rfl) (by kernel_rfl) rfl rfl hS (fun w' hS' => EX.addS rfl rfl (by first | omega | (simp only [List.length_append, List.length_cons, List.length_nil, List.length_take, List.length_drop, List.length_replicate]; omega))) ?_
                      refine GW.val 17 rfl (by kernel_rfl) (by kernel_rfl) (by kernel_rfl) rfl rfl hS (fun w' hS' => EX.assign rfl) ?_
                      refine GW.done (by kernel_rfl) ?_
                      refine KW.meet1 w1 ⟨rfl, rfl, trivial⟩ rfl ?_
                      exact hS.1
              · rintro wr hxr
                have hh := head_length kind g ix data.length
                refine KW.seq (KW.region ?_)
                refine OW.val rfl rfl (EX.move rfl) ?_
                refine OW.val rfl rfl (EX.move rfl) ?_
                refine OW.val rfl rfl (EX.move rfl) ?_
                refine OW.val rfl rfl (EX.lenS Try.underlying9 rfl) ?_
                refine OW.val rfl rfl (by first | exact EX.subN (a := 489) (m := 9223372036854775807) rfl rfl rfl (by omega) | exact EX.subZ (m := 9223372036854775807) rfl rfl rfl rfl (by omega)) ?_
                refine OW.call rfl rfl rfl (repeat_c (489 - data.length) (by omega) wr) ?_
                rintro _ w2 ⟨rfl, hx2⟩
                refine OW.val rfl rfl (EX.addS rfl rfl (by first | omega | (simp only [List.length_append, List.length_cons, List.length_nil, List.length_take, List.length_drop, List.length_replicate]; omega))) ?_
                refine OW.val rfl rfl (EX.addS rfl rfl (by first | omega | (simp only [List.length_append, List.length_cons, List.length_nil, List.length_take, List.length_drop, List.length_replicate]; omega))) ?_
                refine OW.val rfl rfl (EX.assign rfl) ?_
                refine OW.nil ?_
                refine KW.seq (KW.region ?_)
                refine OW.val rfl rfl (EX.move rfl) ?_
                refine OW.val rfl rfl (EX.move rfl) ?_
                have hbody : head kind g ix data.length ++ (data ++ List.replicate (489 - data.length) 0) = body kind g ix data := rfl
                rw [hbody]
                have hbl := body_length kind g ix data (by omega)
                have hcl := cieee_lt (body kind g ix data)
                have lc := be_length 4 (cieee (body kind g ix data))
                refine OW.call rfl rfl rfl (ieee_s (body kind g ix data) (by omega) w2) ?_
                rintro _ w3 ⟨rfl, hx3⟩
                refine OW.val rfl rfl (by first | exact EX.convN (m := 18446744073709551615) Try.underlying38 Try.underlying56 rfl rfl (by omega) | exact EX.convW (m := 18446744073709551616) Try.underlying38 Try.underlying56 rfl rfl (by decide) | exact EX.convZ Try.underlying38 Try.underlying56 rfl) ?_
                refine OW.call rfl rfl rfl (number_r (cieee (body kind g ix data)) 4 (by omega) (by decide) w3) ?_
                rintro _ w4 ⟨rfl, hx4⟩
                refine OW.val rfl rfl (EX.addS rfl rfl (by first | omega | (simp only [List.length_append, List.length_cons, List.length_nil, List.length_take, List.length_drop, List.length_replicate]; omega))) ?_
                refine OW.val rfl rfl (EX.assign rfl) ?_
                refine OW.val rfl rfl (EX.assign rfl) ?_
                refine OW.nil ?_
                refine KW.ret (ret2 rfl rfl rfl ?_)
                exact ⟨rfl, ((hxr.trans hx2).trans hx3).trans hx4⟩
set_option maxRecDepth 20000 in
theorem rencode_s (kind : Nat) (hk : kind ≤ 255) (gen index : Int) (data : List UInt8) (hd : data.length ≤ 140737488355328) (w : World) :
    Ret Try.prog 10 [.int .u8 (kind : Int), .int .i64 gen, .int .i64 index, str data] w fun v w' => v = .tuple #[str (encodeR kind gen index data).1, .int .i64 (((encodeR kind gen index data).2 : Nat) : Int)] ∧ Ext w w' := by
  have eb : bad kind gen index data → encodeR kind gen index data = ([], 200) := fun h => by unfold encodeR; rw [if_pos h]
  refine Ret.enter Try.func10 rfl Try.ntmps10 (by kernel_rfl) rfl ?_
  refine KW.seq (KW.region ?_)
  refine OW.val rfl rfl (EX.assign rfl) ?_
  refine OW.val rfl rfl (EX.assign rfl) ?_
  refine OW.nil ?_
  refine KW.seq (KW.seq ?_)
  refine KW.region ?_
  refine OW.val rfl rfl (EX.move rfl) ?_
  refine OW.val rfl rfl (by first | exact EX.eqlN (b := 0) rfl rfl | exact EX.eqlZ rfl rfl) ?_
  refine OW.val rfl rfl (EX.move rfl) ?_
  refine OW.splitD 13 rfl (fun a1 => ?_) (fun a1 => ?_)
  · refine OW.pass rfl rfl ?_
    refine OW.pass rfl rfl ?_
    refine OW.val rfl rfl (EX.pickT rfl rfl) ?_
    refine OW.val rfl rfl (EX.move rfl) ?_
    refine OW.pass rfl rfl ?_
    refine OW.pass rfl rfl ?_
    refine OW.val rfl rfl (EX.pickT rfl rfl) ?_
    refine OW.val rfl rfl (EX.move rfl) ?_
    refine OW.pass rfl rfl ?_
    refine OW.pass rfl rfl ?_
    refine OW.val rfl rfl (EX.pickT rfl rfl) ?_
    refine OW.val rfl rfl (EX.move rfl) ?_
    refine OW.pass rfl rfl ?_
    refine OW.pass rfl rfl ?_
    refine OW.val rfl rfl (EX.pickT rfl rfl) ?_
    refine OW.val rfl rfl (EX.move rfl) ?_
    refine OW.pass rfl rfl ?_
    refine OW.pass rfl rfl ?_
    refine OW.pass rfl rfl ?_
    refine OW.val rfl rfl (EX.pickT rfl rfl) ?_
    refine OW.nil ?_
    refine KW.condT rfl (KW.seq (KW.region ?_))
    refine OW.val rfl rfl (EX.assign rfl) ?_
    refine OW.val rfl rfl (EX.assign rfl) ?_
    refine OW.nil ?_
    refine KW.ret (ret2 rfl rfl rfl ?_)
    rw [eb (.inl a1)]
    exact ⟨rfl, Ext.refl _⟩
  · refine OW.val rfl rfl (EX.move rfl) ?_
    refine OW.val rfl rfl (by first | exact EX.lssN (b := 0) rfl rfl | exact EX.lssZ rfl rfl) ?_
    refine OW.val rfl rfl (EX.pickF rfl rfl) ?_
    refine OW.val rfl rfl (EX.move rfl) ?_
    refine OW.splitD 17 rfl (fun a2 => ?_) (fun a2 => ?_)
    · refine OW.pass rfl rfl ?_
      refine OW.pass rfl rfl ?_
      refine OW.val rfl rfl (EX.pickT rfl rfl) ?_
      refine OW.val rfl rfl (EX.move rfl) ?_
      refine OW.pass rfl rfl ?_
      refine OW.pass rfl rfl ?_
      refine OW.val rfl rfl (EX.pickT rfl rfl) ?_
      refine OW.val rfl rfl (EX.move rfl) ?_
      refine OW.pass rfl rfl ?_
      refine OW.pass rfl rfl ?_
      refine OW.val rfl rfl (EX.pickT rfl rfl) ?_
      refine OW.val rfl rfl (EX.move rfl) ?_
      refine OW.pass rfl rfl ?_
      refine OW.pass rfl rfl ?_
      refine OW.pass rfl rfl ?_
      refine OW.val rfl rfl (EX.pickT rfl rfl) ?_
      refine OW.nil ?_
      refine KW.condT rfl (KW.seq (KW.region ?_))
      refine OW.val rfl rfl (EX.assign rfl) ?_
      refine OW.val rfl rfl (EX.assign rfl) ?_
      refine OW.nil ?_
      refine KW.ret (ret2 rfl rfl rfl ?_)
      rw [eb (.inr (.inl a2))]
      exact ⟨rfl, Ext.refl _⟩
    · refine OW.val rfl rfl (EX.move rfl) ?_
      refine OW.val rfl rfl (by first | exact EX.gtrN (b := 4611686018427387904) rfl rfl | exact EX.gtrZ rfl rfl) ?_
      refine OW.val rfl rfl (EX.pickF rfl rfl) ?_
      refine OW.val rfl rfl (EX.move rfl) ?_
      refine OW.splitD 21 rfl (fun a3 => ?_) (fun a3 => ?_)
      · refine OW.pass rfl rfl ?_
        refine OW.pass rfl rfl ?_
        refine OW.val rfl rfl (EX.pickT rfl rfl) ?_
        refine OW.val rfl rfl (EX.move rfl) ?_
        refine OW.pass rfl rfl ?_
        refine OW.pass rfl rfl ?_
        refine OW.val rfl rfl (EX.pickT rfl rfl) ?_
        refine OW.val rfl rfl (EX.move rfl) ?_
        refine OW.pass rfl rfl ?_
        refine OW.pass rfl rfl ?_
        refine OW.pass rfl rfl ?_
        refine OW.val rfl rfl (EX.pickT rfl rfl) ?_
        refine OW.nil ?_
        refine KW.condT rfl (KW.seq (KW.region ?_))
        refine OW.val rfl rfl (EX.assign rfl) ?_
        refine OW.val rfl rfl (EX.assign rfl) ?_
        refine OW.nil ?_
        refine KW.ret (ret2 rfl rfl rfl ?_)
        rw [eb (.inr (.inr (.inl a3)))]
        exact ⟨rfl, Ext.refl _⟩
      · refine OW.val rfl rfl (EX.move rfl) ?_
        refine OW.val rfl rfl (by first | exact EX.lssN (b := 0) rfl rfl | exact EX.lssZ rfl rfl) ?_
        refine OW.val rfl rfl (EX.pickF rfl rfl) ?_
        refine OW.val rfl rfl (EX.move rfl) ?_
        refine OW.splitD 25 rfl (fun a4 => ?_) (fun a4 => ?_)
        · refine OW.pass rfl rfl ?_
          refine OW.pass rfl rfl ?_
          refine OW.val rfl rfl (EX.pickT rfl rfl) ?_
          refine OW.val rfl rfl (EX.move rfl) ?_
          refine OW.pass rfl rfl ?_
          refine OW.pass rfl rfl ?_
          refine OW.pass rfl rfl ?_
          refine OW.val rfl rfl (EX.pickT rfl rfl) ?_
          refine OW.nil ?_
          refine KW.condT rfl (KW.seq (KW.region ?_))
          refine OW.val rfl rfl (EX.assign rfl) ?_
          refine OW.val rfl rfl (EX.assign rfl) ?_
          refine OW.nil ?_
          refine KW.ret (ret2 rfl rfl rfl ?_)
          rw [eb (.inr (.inr (.inr (.inl a4))))]
          exact ⟨rfl, Ext.refl _⟩
        · refine OW.val rfl rfl (EX.move rfl) ?_
          refine OW.val rfl rfl (by first | exact EX.gtrN (b := 2147483647) rfl rfl | exact EX.gtrZ rfl rfl) ?_
          refine OW.val rfl rfl (EX.pickF rfl rfl) ?_
          refine OW.val rfl rfl (EX.move rfl) ?_
          refine OW.splitD 29 rfl (fun a5 => ?_) (fun a5 => ?_)
          · refine OW.pass rfl rfl ?_
            refine OW.pass rfl rfl ?_
            refine OW.pass rfl rfl ?_
            refine OW.val rfl rfl (EX.pickT rfl rfl) ?_
            refine OW.nil ?_
            refine KW.condT rfl (KW.seq (KW.region ?_))
            refine OW.val rfl rfl (EX.assign rfl) ?_
            refine OW.val rfl rfl (EX.assign rfl) ?_
            refine OW.nil ?_
            refine KW.ret (ret2 rfl rfl rfl ?_)
            rw [eb (.inr (.inr (.inr (.inr (.inl a5)))))]
            exact ⟨rfl, Ext.refl _⟩
          · refine OW.val rfl rfl (EX.move rfl) ?_
            refine OW.val rfl rfl (EX.lenS Try.underlying9 rfl) ?_
            refine OW.val rfl rfl (by first | exact EX.gtrN (b := 486) rfl rfl | exact EX.gtrZ rfl rfl) ?_
            refine OW.val rfl rfl (EX.pickF rfl rfl) ?_
            refine OW.nil ?_
            refine KW.condD rfl (fun a6 => ?_) (fun a6 => ?_)
            · refine KW.seq (KW.region ?_)
              refine OW.val rfl rfl (EX.assign rfl) ?_
              refine OW.val rfl rfl (EX.assign rfl) ?_
              refine OW.nil ?_
              refine KW.ret (ret2 rfl rfl rfl ?_)
              rw [eb (.inr (.inr (.inr (.inr (.inr a6)))))]
              exact ⟨rfl, Ext.refl _⟩
            · refine KW.skip (KW.seq ?_)
              have e : encodeR kind gen index data = (text kind gen.toNat index.toNat data, 0) := by unfold encodeR; rw [if_neg]; rintro (h | h | h | h | h | h) <;> omega
              rw [e]
              obtain ⟨g, rfl⟩ := Int.eq_ofNat_of_zero_le (show 0 ≤ gen by omega)
              obtain ⟨ix, rfl⟩ := Int.eq_ofNat_of_zero_le (show 0 ≤ index by omega)
              have l8 := be_length 8 g
              have l4 := be_length 4 ix
              have l2 := be_length 2 data.length
              refine KW.cut1 (fun (wr : World) => Ext w wr) (fun (wr : World) => [(3, str (data)), (10, str (head kind g ix data.length ++ data))]) (fun (wr : World) => wr) ?_ ?_
              · skip
                refine KW.regionG (N := 20) (fun w' => Ext w w') (by kernel_rfl) rfl ?_
                have hS : (fun w' => Ext w w') w.drew := Ext.drew w
                refine GW.val 0 rfl (by kernel_rfl) (by kernel_rfl) (by kernel_rfl) rfl rfl hS (fun w' hS' => EX.move rfl) ?_
                refine GW.val 4 rfl (by kernel_rfl) (by kernel_rfl) (by kernel_rfl) rfl rfl hS (fun w' hS' => EX.move rfl) ?_
                refine GW.val 5 rfl (by kernel_rfl) (by kernel_rfl) (by kernel_rfl) rfl rfl hS (fun w' hS' => by first | exact EX.convN (m := 18446744073709551615) Try.underlying3 Try.underlying56 rfl rfl (by omega) | exact EX.convW (m := 18446744073709551616) Try.underlying3 Try.underlying56 rfl rfl (by decide) | exact EX.convZ Try.underlying3 Try.underlying56 rfl) ?_
                refine GW.val 8 rfl (by kernel_rfl) (by kernel_rfl) (by kernel_rfl) rfl rfl hS (fun w' hS' => EX.move rfl) ?_
                refine GW.val 9 rfl (by kernel_rfl) (by kernel_rfl) (by kernel_rfl) rfl rfl hS (fun w' hS' => by first | exact EX.convN (m := 18446744073709551615) Try.underlying3 Try.underlying56 rfl rfl (by omega) | exact EX.convW (m := 18446744073709551616) Try.underlying3 Try.underlying56 rfl rfl (by decide) | exact EX.convZ Try.underlying3 Try.underlying56 rfl) ?_
                refine GW.val 12 rfl (by kernel_rfl) (by kernel_rfl) (by kernel_rfl) rfl rfl hS (fun w' hS' => EX.move rfl) ?_
                refine GW.val 13 rfl (by kernel_rfl) (by kernel_rfl) (by kernel_rfl) rfl rfl hS (fun w' hS' => EX.lenS Try.underlying9 rfl) ?_
                refine GW.val 14 rfl (by kernel_rfl) (by kernel_rfl) (by kernel_rfl) rfl rfl hS (fun w' hS' => by first | exact EX.convN (m := 18446744073709551615) Try.underlying3 Try.underlying56 rfl rfl (by omega) | exact EX.convW (m := 18446744073709551616) Try.underlying3 Try.underlying56 rfl rfl (by decide) | exact EX.convZ Try.underlying3 Try.underlying56 rfl) ?_
                refine GW.val 17 rfl (by kernel_rfl) (by kernel_rfl) (by kernel_rfl) rfl rfl hS (fun w' hS' => EX.move rfl) ?_
                refine GW.two 1 6 (by kernel_rfl) ?_ ?_
                · refine GO.buildB 1 1 rfl rfl rfl Try.underlying46 ti5 rfl rfl rfl rfl rfl (by decide) ?_
                  rintro gb w1 hge1 h1 hx1
                  refine ⟨hS.trans hx1, fun hS => ?_⟩
                  refine GW.strong (fun w' => Ext w w' ∧ Bk w' gb 5 [.int .u8 (kind : Int)]) (fun _ h => h.1) ?_
                  replace hS := (⟨hS, h1⟩ : (fun w' => Ext w w' ∧ Bk w' gb 5 [.int .u8 (kind : Int)]) w1)
                  refine GW.val 2 rfl (by kernel_rfl) (by kernel_rfl) (by kernel_rfl) rfl rfl hS (fun w' hS' => EX.strOf Try.underlying46 Try.underlying5 Try.underlying9 rfl (oneB hS'.2 hk) rfl) ?_
                  refine GW.val 3 rfl (by kernel_rfl) (by kernel_rfl) (by kernel_rfl) rfl rfl hS (fun w' hS' => EX.addS (s := [75, 73, 83, 84]) rfl rfl (by first | omega | (simp only [List.length_append, List.length_cons, List.length_nil, List.length_take, List.length_drop, List.length_replicate]; omega))) ?_
                  refine GW.call 6 rfl (by kernel_rfl) rfl rfl rfl (rNumber_r g 8 (by omega) (by decide) w1) ?_
                  rintro _ w6 ⟨rfl, hx6⟩
                  refine ⟨⟨hS.1.trans hx6, hS.2.ext hx6⟩, fun hS => ?_⟩
                  refine GW.val 7 rfl (by kernel_rfl) (by kernel_rfl) (by kernel_rfl) rfl rfl hS (fun w' hS' => EX.addS rfl rfl (by first | omega | (simp only [List.length_append, List.length_cons, List.length_nil, List.length_take, List.length_drop, List.length_replicate]; omega))) ?_
                  refine GW.call 10 rfl (by kernel_rfl) rfl rfl rfl (rNumber_r ix 4 (by omega) (by decide) w6) ?_
                  rintro _ w10 ⟨rfl, hx10⟩
                  refine ⟨⟨hS.1.trans hx10, hS.2.ext hx10⟩, fun hS => ?_⟩
                  refine GW.val 11 rfl (by kernel_rfl) (by kernel_rfl) (by kernel_rfl) rfl rfl hS (fun w' hS' => EX.addS rfl rfl (by first | omega | (simp only [List.length_append, List.length_cons, List.length_nil, List.length_take, List.length_drop, List.length_replicate]; omega))) ?_
                  refine GW.call 15 rfl (by kernel_rfl) rfl rfl rfl (rNumber_r data.length 2 (by omega) (by decide) w10) ?_
                  rintro _ w15 ⟨rfl, hx15⟩
                  refine ⟨⟨hS.1.trans hx15, hS.2.ext hx15⟩, fun hS => ?_⟩
                  refine GW.val 16 rfl (by kernel_rfl) (by kernel_rfl) (by kernel_rfl) rfl rfl hS (fun w' hS' => EX.addS rfl rfl (by first | omega | (simp only [List.length_append, List.length_cons, List.length_nil, List.length_take, List.length_drop, List.length_replicate]; omega))) ?_
                  refine GW.val 18 rfl (by kernel_rfl) (by kernel_rfl) (by kernel_rfl) rfl rfl hS (fun w' hS' => EX.addS rfl rfl (by first | omega | (simp only [List.length_append, List.length_cons, List.length_nil, List.length_take, List.length_drop, List.length_replicate]; omega))) ?_
                  refine GW.val 19 rfl (by kernel_rfl) (by kernel_rfl) (by kernel_rfl) rfl rfl hS (fun w' hS' => EX.assign rfl) ?_
                  refine GW.done (by kernel_rfl) ?_
                  refine KW.meet1 w15 ⟨rfl, rfl, trivial⟩ rfl ?_
                  exact hS.1
                · refine GO.call 6 rfl rfl rfl rfl (rNumber_r g 8 (by omega) (by decide) w.drew) ?_
                  rintro _ w6 ⟨rfl, hx6⟩
                  refine ⟨hS.trans hx6, fun hS => ?_⟩
                  refine GW.two 1 10 (by kernel_rfl) ?_ ?_
                  · refine GO.buildB 1 1 rfl rfl rfl Try.underlying46 ti5 rfl rfl rfl rfl rfl (by decide) ?_
                    rintro gb w1 hge1 h1 hx1
                    refine ⟨hS.trans hx1, fun hS => ?_⟩
                    refine GW.strong (fun w' => Ext w w' ∧ Bk w' gb 5 [.int .u8 (kind : Int)]) (fun _ h => h.1) ?_
                    replace hS := (⟨hS, h1⟩ : (fun w' => Ext w w' ∧ Bk w' gb 5 [.int .u8 (kind : Int)]) w1)
                    refine GW.val 2 rfl (by kernel_rfl) (by kernel_rfl) (by kernel_rfl) rfl rfl hS (fun w' hS' => EX.strOf Try.underlying46 Try.underlying5 Try.underlying9 rfl (oneB hS'.2 hk) rfl) ?_
                    refine GW.val 3 rfl (by kernel_rfl) (by kernel_rfl) (by kernel_rfl) rfl rfl hS (fun w' hS' => EX.addS (s := [75, 73, 83, 84]) rfl rfl (by first | omega | (simp only [List.length_append, List.length_cons, List.length_nil, List.length_take, List.length_drop, List.length_replicate]; omega))) ?_
                    refine GW.val 7 rfl (by kernel_rfl) (by kernel_rfl) (by kernel_rfl) rfl rfl hS (fun w' hS' => EX.addS rfl rfl (by first | omega | (simp only [List.length_append, List.length_cons, List.length_nil, List.length_take, List.length_drop, List.length_replicate]; omega))) ?_
                    refine GW.call 10 rfl (by kernel_rfl) rfl rfl rfl (rNumber_r ix 4 (by omega) (by decide) w1) ?_
                    rintro _ w10 ⟨rfl, hx10⟩
                    refine ⟨⟨hS.1.trans hx10, hS.2.ext hx10⟩, fun hS => ?_⟩
                    refine GW.val 11 rfl (by kernel_rfl) (by kernel_rfl) (by kernel_rfl) rfl rfl hS (fun w' hS' => EX.addS rfl rfl (by first | omega | (simp only [List.length_append, List.length_cons, List.length_nil, List.length_take, List.length_drop, List.length_replicate]; omega))) ?_
                    refine GW.call 15 rfl (by kernel_rfl) rfl rfl rfl (rNumber_r data.length 2 (by omega) (by decide) w10) ?_
                    rintro _ w15 ⟨rfl, hx15⟩
                    refine ⟨⟨hS.1.trans hx15, hS.2.ext hx15⟩, fun hS => ?_⟩
                    refine GW.val 16 rfl (by kernel_rfl) (by kernel_rfl) (by kernel_rfl) rfl rfl hS (fun w' hS' => EX.addS rfl rfl (by first | omega | (simp only [List.length_append, List.length_cons, List.length_nil, List.length_take, List.length_drop, List.length_replicate]; omega))) ?_
                    refine GW.val 18 rfl (by kernel_rfl) (by kernel_rfl) (by kernel_rfl) rfl rfl hS (fun w' hS' => EX.addS rfl rfl (by first | omega | (simp only [List.length_append, List.length_cons, List.length_nil, List.length_take, List.length_drop, List.length_replicate]; omega))) ?_
                    refine GW.val 19 rfl (by kernel_rfl) (by kernel_rfl) (by kernel_rfl) rfl rfl hS (fun w' hS' => EX.assign rfl) ?_
                    refine GW.done (by kernel_rfl) ?_
                    refine KW.meet1 w15 ⟨rfl, rfl, trivial⟩ rfl ?_
                    exact hS.1
                  · refine GO.call 10 rfl rfl rfl rfl (rNumber_r ix 4 (by omega) (by decide) w6) ?_
                    rintro _ w10 ⟨rfl, hx10⟩
                    refine ⟨hS.trans hx10, fun hS => ?_⟩
                    refine GW.two 1 15 (by kernel_rfl) ?_ ?_
                    · refine GO.buildB 1 1 rfl rfl rfl Try.underlying46 ti5 rfl rfl rfl rfl rfl (by decide) ?_
                      rintro gb w1 hge1 h1 hx1
                      refine ⟨hS.trans hx1, fun hS => ?_⟩
                      refine GW.strong (fun w' => Ext w w' ∧ Bk w' gb 5 [.int .u8 (kind : Int)]) (fun _ h => h.1) ?_
                      replace hS := (⟨hS, h1⟩ : (fun w' => Ext w w' ∧ Bk w' gb 5 [.int .u8 (kind : Int)]) w1)
                      refine GW.val 2 rfl (by kernel_rfl) (by kernel_rfl) (by kernel_rfl) rfl rfl hS (fun w' hS' => EX.strOf Try.underlying46 Try.underlying5 Try.underlying9 rfl (oneB hS'.2 hk) rfl) ?_
                      refine GW.val 3 rfl (by kernel_rfl) (by kernel_rfl) (by kernel_rfl) rfl rfl hS (fun w' hS' => EX.addS (s := [75, 73, 83, 84]) rfl rfl (by first | omega | (simp only [List.length_append, List.length_cons, List.length_nil, List.length_take, List.length_drop, List.length_replicate]; omega))) ?_
                      refine GW.val 7 rfl (by kernel_rfl) (by kernel_rfl) (by kernel_rfl) rfl rfl hS (fun w' hS' => EX.addS rfl rfl (by first | omega | (simp only [List.length_append, List.length_cons, List.length_nil, List.length_take, List.length_drop, List.length_replicate]; omega))) ?_
                      refine GW.val 11 rfl (by kernel_rfl) (by kernel_rfl) (by kernel_rfl) rfl rfl hS (fun w' hS' => EX.addS rfl rfl (by first | omega | (simp only [List.length_append, List.length_cons, List.length_nil, List.length_take, List.length_drop, List.length_replicate]; omega))) ?_
                      refine GW.call 15 rfl (by kernel_rfl) rfl rfl rfl (rNumber_r data.length 2 (by omega) (by decide) w1) ?_
                      rintro _ w15 ⟨rfl, hx15⟩
                      refine ⟨⟨hS.1.trans hx15, hS.2.ext hx15⟩, fun hS => ?_⟩
                      refine GW.val 16 rfl (by kernel_rfl) (by kernel_rfl) (by kernel_rfl) rfl rfl hS (fun w' hS' => EX.addS rfl rfl (by first | omega | (simp only [List.length_append, List.length_cons, List.length_nil, List.length_take, List.length_drop, List.length_replicate]; omega))) ?_
                      refine GW.val 18 rfl (by kernel_rfl) (by kernel_rfl) (by kernel_rfl) rfl rfl hS (fun w' hS' => EX.addS rfl rfl (by first | omega | (simp only [List.length_append, List.length_cons, List.length_nil, List.length_take, List.length_drop, List.length_replicate]; omega))) ?_
                      refine GW.val 19 rfl (by kernel_rfl) (by kernel_rfl) (by kernel_rfl) rfl rfl hS (fun w' hS' => EX.assign rfl) ?_
                      refine GW.done (by kernel_rfl) ?_
                      refine KW.meet1 w15 ⟨rfl, rfl, trivial⟩ rfl ?_
                      exact hS.1
                    · refine GO.call 15 rfl rfl rfl rfl (rNumber_r data.length 2 (by omega) (by decide) w10) ?_
                      rintro _ w15 ⟨rfl, hx15⟩
                      refine ⟨hS.trans hx15, fun hS => ?_⟩
                      refine GW.buildB 1 1 rfl (by kernel_rfl) rfl rfl Try.underlying46 ti5 rfl rfl rfl rfl rfl (by decide) ?_
                      rintro gb w1 hge1 h1 hx1
                      refine ⟨hS.trans hx1, fun hS => ?_⟩
                      refine GW.strong (fun w' => Ext w w' ∧ Bk w' gb 5 [.int .u8 (kind : Int)]) (fun _ h => h.1) ?_
                      replace hS := (⟨hS, h1⟩ : (fun w' => Ext w w' ∧ Bk w' gb 5 [.int .u8 (kind : Int)]) w1)
                      refine GW.val 2 rfl (by kernel_rfl) (by kernel_rfl) (by kernel_rfl) rfl rfl hS (fun w' hS' => EX.strOf Try.underlying46 Try.underlying5 Try.underlying9 rfl (oneB hS'.2 hk) rfl) ?_
                      refine GW.val 3 rfl (by kernel_rfl) (by kernel_rfl) (by kernel_rfl) rfl rfl hS (fun w' hS' => EX.addS (s := [75, 73, 83, 84]) rfl rfl (by first | omega | (simp only [List.length_append, List.length_cons, List.length_nil, List.length_take, List.length_drop, List.length_replicate]; omega))) ?_
                      refine GW.val 7 rfl (by kernel_rfl) (by kernel_rfl) (by kernel_rfl) rfl rfl hS (fun w' hS' => EX.addS rfl rfl (by first | omega | (simp only [List.length_append, List.length_cons, List.length_nil, List.length_take, List.length_drop, List.length_replicate]; omega))) ?_
                      refine GW.val 11 rfl (by kernel_rfl) (by kernel_rfl) (by kernel_rfl) rfl rfl hS (fun w' hS' => EX.addS rfl rfl (by first | omega | (simp only [List.length_append, List.length_cons, List.length_nil, List.length_take, List.length_drop, List.length_replicate]; omega))) ?_
                      refine GW.val 16 rfl (by kernel_rfl) (by kernel_rfl) (by kernel_rfl) rfl rfl hS (fun w' hS' => EX.addS rfl rfl (by first | omega | (simp only [List.length_append, List.length_cons, List.length_nil, List.length_take, List.length_drop, List.length_replicate]; omega))) ?_
                      refine GW.val 18 rfl (by kernel_rfl) (by kernel_rfl) (by kernel_rfl) rfl rfl hS (fun w' hS' => EX.addS rfl rfl (by first | omega | (simp only [List.length_append, List.length_cons, List.length_nil, List.length_take, List.length_drop, List.length_replicate]; omega))) ?_
                      refine GW.val 19 rfl (by kernel_rfl) (by kernel_rfl) (by kernel_rfl) rfl rfl hS (fun w' hS' => EX.assign rfl) ?_
                      refine GW.done (by kernel_rfl) ?_
                      refine KW.meet1 w1 ⟨rfl, rfl, trivial⟩ rfl ?_
                      exact hS.1
              · rintro wr hxr
                have hh := head_length kind g ix data.length
                refine KW.seq (KW.block ?_)
                refine KW.loop2 (fun (j : Nat) (q : (List UInt8)) => j ≤ 489 - data.length ∧ q = head kind g ix data.length ++ data ++ List.replicate j 0) (fun (j : Nat) (q : (List UInt8)) => [(10, str (q))]) (fun (j : Nat) (q : (List UInt8)) => wr) (fun (j : Nat) (q : (List UInt8)) => 489 - data.length - j) (0) (head kind g ix data.length ++ data) ⟨rfl, trivial⟩ rfl ?_ ?_
                · exact ⟨by omega, by simp⟩
                · rintro j q ⟨hj, hq⟩
                  have hql : q.length = 19 + data.length + j := by rw [hq]; simp [hh]; omega
                  refine KW.seq (KW.seq (KW.region ?_))
                  refine OW.val rfl rfl (EX.move rfl) ?_
                  refine OW.val rfl rfl (EX.lenS Try.underlying9 rfl) ?_
                  refine OW.val rfl rfl (by first | exact EX.lssN (b := 508) rfl rfl | exact EX.lssZ rfl rfl) ?_
                  refine OW.nil ?_
                  refine KW.condD rfl (fun hlt => ?_) (fun hlt => ?_)
                  · refine KW.skip (KW.block (KW.region ?_))
                    refine OW.val rfl rfl (EX.move rfl) ?_
                    refine OW.val rfl rfl (EX.addS (r := [0]) rfl rfl (by first | omega | (simp only [List.length_append, List.length_cons, List.length_nil, List.length_take, List.length_drop, List.length_replicate]; omega))) ?_
                    refine OW.val rfl rfl (EX.assign rfl) ?_
                    refine OW.nil ?_
                    refine KW.leave ?_
                    refine KW.back2 (j + 1) (q ++ [0]) ⟨rfl, trivial⟩ rfl ?_ (by omega)
                    exact ⟨by omega, by rw [hq, List.append_assoc _ _ [0], ← List.replicate_succ']⟩
                  · obtain rfl : j = 489 - data.length := by omega
                    have hbody : q = body kind g ix data := by rw [hq]; unfold body head; simp only [List.append_assoc]
                    subst hbody
                    have hcl := cieee_lt (body kind g ix data)
                    have lc := be_length 4 (cieee (body kind g ix data))
                    refine KW.exit rfl (KW.seq (KW.region ?_))
                    refine OW.val rfl rfl (EX.move rfl) ?_
                    refine OW.val rfl rfl (EX.move rfl) ?_
                    refine OW.call rfl rfl rfl (rieee_c (body kind g ix data) (by omega) wr) ?_
                    rintro _ w3 ⟨rfl, hx3⟩
                    refine OW.val rfl rfl (by first | exact EX.convN (m := 18446744073709551615) Try.underlying38 Try.underlying56 rfl rfl (by omega) | exact EX.convW (m := 18446744073709551616) Try.underlying38 Try.underlying56 rfl rfl (by decide) | exact EX.convZ Try.underlying38 Try.underlying56 rfl) ?_
                    refine OW.call rfl rfl rfl (rNumber_r (cieee (body kind g ix data)) 4 (by omega) (by decide) w3) ?_
                    rintro _ w4 ⟨rfl, hx4⟩
                    refine OW.val rfl rfl (EX.addS rfl rfl (by first | omega | (simp only [List.length_append, List.length_cons, List.length_nil, List.length_take, List.length_drop, List.length_replicate]; omega))) ?_
                    refine OW.val rfl rfl (EX.assign rfl) ?_
                    refine OW.val rfl rfl (EX.assign rfl) ?_
                    refine OW.nil ?_
                    refine KW.ret (ret2 rfl rfl rfl ?_)
                    exact ⟨rfl, (hxr.trans hx3).trans hx4⟩
end Go.Proofs.Ytfjaiokhpbddlaa
