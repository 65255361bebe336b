/-
  fields: texts and octal numbers are laid.
-/
import Derived.Test.YtaoieiiggbpjeaaFieS
import Derived.Test.YtaoieiiggbpjeaaFieF
namespace Go.Proofs.Ytaoieiiggbpjeaa
open Go.RowKit Fld
set_option linter.unusedVariables false

theorem bytesV_nul (n : Nat) : bytesV (nul n) = List.replicate n (.int .u8 0) := by simp [bytesV, nul]
theorem cut_s (s : List UInt8) (hs : s.length ≤ 140737488355328) (w : World) :
    Ret Try.prog 31 [str s] w fun v w' => v = str (cut s) ∧ w = w' := by
  refine Ret.enter Try.func31 rfl Try.ntmps31 (by kernel_rfl) rfl ?_
  refine KW.seq (KW.region ?_)
  refine OW.val rfl rfl (EX.assign rfl) ?_
  refine OW.nil ?_
  refine KW.seq (KW.seq (KW.region ?_))
  refine OW.val rfl rfl (EX.move rfl) ?_
  refine OW.call rfl rfl rfl (indexByte0_c s w) ?_
  rintro _ _ ⟨rfl, rfl⟩
  refine OW.val rfl rfl (EX.assign rfl) ?_
  refine OW.nil ?_
  refine KW.seq (KW.region ?_)
  refine OW.val rfl rfl (EX.move rfl) ?_
  refine OW.val rfl rfl (by first | exact EX.geqN (b := 0) rfl rfl | exact EX.geqZ rfl rfl) ?_
  refine OW.nil ?_
  rcases indexByte_lt s 0 with ⟨h1, h2⟩ | ⟨i, h1, h2, h3, h4⟩
  · rw [h1]
    refine KW.condD rfl (fun h => ?_) (fun h => ?_)
    · omega
    · refine KW.skip (KW.seq (KW.region ?_))
      refine OW.val rfl rfl (EX.move rfl) ?_
      refine OW.val rfl rfl (EX.assign rfl) ?_
      refine OW.nil ?_
      refine KW.ret (ret1 rfl rfl ?_)
      rw [cut_none h2]
      exact ⟨rfl, rfl⟩
  · rw [h1]
    refine KW.condD rfl (fun h => ?_) (fun h => ?_)
    · refine KW.seq (KW.region ?_)
      refine OW.val rfl rfl (EX.move rfl) ?_
      refine OW.val rfl rfl (EX.move rfl) ?_
      refine OW.val rfl rfl (EX.sliceFH Try.underlying9 rfl rfl (by omega)) ?_
      refine OW.val rfl rfl (EX.assign rfl) ?_
      refine OW.nil ?_
      refine KW.ret (ret1 rfl rfl ?_)
      rw [cut, h3]
      exact ⟨rfl, rfl⟩
    · omega
theorem cut_of {s : List UInt8} {i : Nat} (h : i < s.length) (hz : (0 : UInt8) ∉ s.take i) (h0 : s[i] = 0) : cut s = s.take i := by
  have e : s = s.take i ++ (0 :: s.drop (i + 1)) := by rw [← h0, ← drop_cons s i h, List.take_append_drop]
  have h1 : cut (s.take i ++ 0 :: s.drop (i + 1)) = s.take i := by
    rw [cut, List.takeWhile_append_of_pos (by
      intro a ha
      simp only [bne_iff_ne, ne_eq]
      rintro rfl
      exact hz ha)]
    simp
  rwa [← e] at h1
theorem refCut_s (s : List UInt8) (hs : s.length ≤ 140737488355328) (w : World) :
    Ret Try.prog 33 [str s] w fun v w' => v = str (cut s) ∧ w = w' := by
  refine Ret.enter Try.func33 rfl Try.ntmps33 (by kernel_rfl) rfl ?_
  refine KW.seq (KW.region ?_)
  refine OW.val rfl rfl (EX.assign rfl) ?_
  refine OW.nil ?_
  refine KW.seq (KW.seq (KW.region ?_))
  refine OW.val rfl rfl (EX.assign rfl) ?_
  refine OW.nil ?_
  refine KW.block ?_
  refine KW.loop1 (fun (i : Nat) => i ≤ s.length ∧ (0 : UInt8) ∉ s.take i) (fun (i : Nat) => [(0, str (s)), (3, .int .i64 ((i : Nat) : Int))]) (fun (i : Nat) => w) (fun (i : Nat) => s.length - i) (0) ⟨rfl, rfl, trivial⟩ rfl ?_ ?_
  · simp
  · rintro i ⟨hi, hz⟩
    refine KW.seq (KW.seq (KW.region ?_))
    refine OW.val rfl rfl (EX.move rfl) ?_
    refine OW.val rfl rfl (EX.move rfl) ?_
    refine OW.val rfl rfl (EX.lenS Try.underlying9 rfl) ?_
    refine OW.val rfl rfl (by first | exact EX.lssN rfl rfl | exact EX.lssZ rfl rfl) ?_
    refine OW.nil ?_
    refine KW.condD rfl (fun h => ?_) (fun h => ?_)
    · have hc : s[i].toNat < 256 := s[i].toNat_lt
      refine KW.skip (KW.seq (KW.block (KW.seq (KW.region ?_))))
      refine OW.val rfl rfl (EX.move rfl) ?_
      refine OW.val rfl rfl (EX.move rfl) ?_
      refine OW.val rfl rfl (EX.indexS Try.underlying9 rfl rfl (List.getElem?_eq_getElem (by omega))) ?_
      refine OW.val rfl rfl (by first | exact EX.eqlN (b := 0) rfl rfl | exact EX.eqlZ rfl rfl) ?_
      refine OW.nil ?_
      refine KW.condD rfl (fun h2 => ?_) (fun h2 => ?_)
      · have hc0 : s[i] = 0 := by have := u8_of_toNat (by omega) h2; simpa using this
        refine KW.seq (KW.region ?_)
        refine OW.val rfl rfl (EX.move rfl) ?_
        refine OW.val rfl rfl (EX.move rfl) ?_
        refine OW.val rfl rfl (EX.sliceFH Try.underlying9 rfl rfl (by omega)) ?_
        refine OW.val rfl rfl (EX.assign rfl) ?_
        refine OW.nil ?_
        refine KW.ret (ret1 rfl rfl ?_)
        refine ⟨?_, rfl⟩
        have := cut_of h hz hc0
        rw [this]
      · refine KW.skip (KW.leave (KW.region ?_))
        refine OW.val rfl rfl (EX.move rfl) ?_
        refine OW.val rfl rfl (by first | exact EX.addN (b := 1) (m := 9223372036854775807) rfl rfl rfl (by omega) | exact EX.addZ (m := 9223372036854775807) rfl rfl rfl rfl (by omega)) ?_
        refine OW.val rfl rfl (EX.assign rfl) ?_
        refine OW.nil ?_
        refine KW.back1 (i + 1) ⟨rfl, rfl, trivial⟩ rfl ?_ (by omega)
        refine ⟨by omega, ?_⟩
        rw [take_snoc' s i h, List.mem_append]
        rintro (q | q)
        · exact hz q
        · simp only [List.mem_singleton] at q
          exact h2 (by rw [← q]; rfl)
    · obtain rfl : i = s.length := by omega
      refine KW.exit rfl (KW.seq (KW.region ?_))
      refine OW.val rfl rfl (EX.move rfl) ?_
      refine OW.val rfl rfl (EX.assign rfl) ?_
      refine OW.nil ?_
      refine KW.ret (ret1 rfl rfl ?_)
      rw [List.take_length] at hz
      rw [cut_none hz]
      exact ⟨rfl, rfl⟩
theorem nul_length (n : Nat) : (nul n).length = n := by simp [nul]
theorem text_bad {s : List UInt8} {m : Int} (h : m < 0 ∨ 512 < m) : text s m = ([], 2) := by unfold text; rw [if_pos h]
theorem text_no {s : List UInt8} {m : Int} (h : ¬ (m < 0 ∨ 512 < m)) (h2 : m < s.length ∨ cut s ≠ s) : text s m = ([], 150) := by unfold text; rw [if_neg h, if_pos h2]
theorem text_yes {s : List UInt8} {m : Int} (h : ¬ (m < 0 ∨ 512 < m)) (h2 : ¬ (m < s.length ∨ cut s ≠ s)) : text s m = (s ++ nul (m.toNat - s.length), 0) := by unfold text; rw [if_neg h, if_neg h2]
theorem text_s (s : List UInt8) (hs : s.length ≤ 140737488355328) (n : Int) (h0 : -9223372036854775808 ≤ n) (h1 : n ≤ 9223372036854775807) (w : World) :
    Ret Try.prog 39 [str s, .int .i64 n] w fun v w' => v = .tuple #[str (text s n).1, .int .i64 ((text s n).2 : Nat)] ∧ Ext w w' := by
  refine Ret.enter Try.func39 rfl Try.ntmps39 (by kernel_rfl) rfl ?_
  refine KW.seq (KW.region ?_)
  refine OW.val rfl rfl (EX.assign rfl) ?_
  refine OW.val rfl rfl (EX.assign rfl) ?_
  refine OW.nil ?_
  refine KW.seq (KW.seq ?_)
  refine KW.region ?_
  refine OW.val rfl rfl (EX.move rfl) ?_
  refine OW.val rfl rfl (by first | exact EX.lssN (b := 0) rfl rfl | exact EX.lssZ rfl rfl) ?_
  refine OW.val rfl rfl (EX.move rfl) ?_
  refine OW.splitD 8 rfl (fun h2 => ?_) (fun h2 => ?_)
  · have hd := text_bad (s := s) (.inl h2)
    refine OW.pass rfl rfl ?_
    refine OW.pass rfl rfl ?_
    refine OW.val rfl rfl (EX.pickT rfl rfl) ?_
    refine OW.nil ?_
    refine KW.condT rfl (KW.seq (KW.region ?_))
    refine OW.val rfl rfl (EX.assign rfl) ?_
    refine OW.val rfl rfl (EX.assign rfl) ?_
    refine OW.nil ?_
    refine KW.ret (ret2 rfl rfl rfl ?_)
    rw [hd]
    exact ⟨rfl, Ext.refl _⟩
  · refine OW.val rfl rfl (EX.move rfl) ?_
    refine OW.val rfl rfl (by first | exact EX.gtrN (b := 512) rfl rfl | exact EX.gtrZ rfl rfl) ?_
    refine OW.val rfl rfl (EX.pickF rfl rfl) ?_
    refine OW.nil ?_
    refine KW.condD rfl (fun h3 => ?_) (fun h3 => ?_)
    · have hd := text_bad (s := s) (.inr h3)
      refine KW.seq (KW.region ?_)
      refine OW.val rfl rfl (EX.assign rfl) ?_
      refine OW.val rfl rfl (EX.assign rfl) ?_
      refine OW.nil ?_
      refine KW.ret (ret2 rfl rfl rfl ?_)
      rw [hd]
      exact ⟨rfl, Ext.refl _⟩
    · have hr : ¬ (n < 0 ∨ 512 < n) := by omega
      obtain ⟨m, rfl⟩ := Int.eq_ofNat_of_zero_le (show 0 ≤ n by omega)
      refine KW.skip (KW.seq (KW.seq ?_))
      refine KW.region ?_
      refine OW.val rfl rfl (EX.move rfl) ?_
      refine OW.val rfl rfl (EX.lenS Try.underlying9 rfl) ?_
      refine OW.val rfl rfl (EX.move rfl) ?_
      refine OW.val rfl rfl (by first | exact EX.gtrN rfl rfl | exact EX.gtrZ rfl rfl) ?_
      refine OW.val rfl rfl (EX.move rfl) ?_
      refine OW.splitD 16 rfl (fun h4 => ?_) (fun h4 => ?_)
      · have hd := text_no hr (.inl (show (m : Int) < s.length by omega))
        refine OW.pass rfl rfl ?_
        refine OW.pass rfl rfl ?_
        refine OW.pass rfl rfl ?_
        refine OW.val rfl rfl (EX.pickT rfl rfl) ?_
        refine OW.nil ?_
        refine KW.condT rfl (KW.seq (KW.region ?_))
        refine OW.val rfl rfl (EX.assign rfl) ?_
        refine OW.val rfl rfl (EX.assign rfl) ?_
        refine OW.nil ?_
        refine KW.ret (ret2 rfl rfl rfl ?_)
        rw [hd]
        exact ⟨rfl, Ext.refl _⟩
      · refine OW.val rfl rfl (EX.move rfl) ?_
        refine OW.call rfl rfl rfl (indexByte0_c s w) ?_
        rintro _ _ ⟨rfl, rfl⟩
        refine OW.val rfl rfl (by first | exact EX.geqN (b := 0) rfl rfl | exact EX.geqZ rfl rfl) ?_
        refine OW.val rfl rfl (EX.pickF rfl rfl) ?_
        refine OW.nil ?_
        rcases indexByte_lt s 0 with ⟨e1, e2⟩ | ⟨i, e1, e2, e3, e4⟩
        · rw [e1]
          have hd := text_yes (s := s) (m := (m : Int)) hr (by rintro (q | q); omega; exact q (cut_none e2))
          refine KW.condD rfl (fun h5 => ?_) (fun h5 => ?_)
          · omega
          · refine KW.skip (KW.seq (KW.region ?_))
            refine OW.val rfl rfl (EX.move rfl) ?_
            refine OW.val rfl rfl (EX.move rfl) ?_
            refine OW.val rfl rfl (EX.move rfl) ?_
            refine OW.val rfl rfl (EX.lenS Try.underlying9 rfl) ?_
            refine OW.val rfl rfl (by first | exact EX.subN (m := 9223372036854775807) rfl rfl rfl (by omega) | exact EX.subZ (m := 9223372036854775807) rfl rfl rfl rfl (by omega)) ?_
            refine OW.makeB rfl rfl Try.underlying38 ti5 rfl rfl rfl (by omega) (by omega) ?_
            rintro b w1 hge hb hx
            rw [← bytesV_nul] at hb
            have hnl := nul_length (m - s.length)
            refine OW.val rfl rfl (EX.strOf Try.underlying38 Try.underlying5 Try.underlying9 rfl (hb.sl) (nul_length _)) ?_
            refine OW.val rfl rfl (EX.addS rfl rfl (by first | omega | (simp only [List.length_append, List.length_cons, List.length_nil, List.length_take, List.length_drop, List.length_replicate]; omega))) ?_
            refine OW.val rfl rfl (EX.assign rfl) ?_
            refine OW.val rfl rfl (EX.assign rfl) ?_
            refine OW.nil ?_
            refine KW.ret (ret2 rfl rfl rfl ?_)
            rw [hd]
            exact ⟨rfl, hx⟩
        · rw [e1]
          have hd := text_no (s := s) (m := (m : Int)) hr (.inr (fun q => (cut_eq_iff s).1 q e4))
          refine KW.condD rfl (fun h5 => ?_) (fun h5 => ?_)
          · refine KW.seq (KW.region ?_)
            refine OW.val rfl rfl (EX.assign rfl) ?_
            refine OW.val rfl rfl (EX.assign rfl) ?_
            refine OW.nil ?_
            refine KW.ret (ret2 rfl rfl rfl ?_)
            rw [hd]
            exact ⟨rfl, Ext.refl _⟩
          · omega
theorem refText_s (s : List UInt8) (hs : s.length ≤ 140737488355328) (n : Int) (h0 : -9223372036854775808 ≤ n) (h1 : n ≤ 9223372036854775807) (w : World) :
    Ret Try.prog 40 [str s, .int .i64 n] w fun v w' => v = .tuple #[str (text s n).1, .int .i64 ((text s n).2 : Nat)] ∧ w = w' := by
  refine Ret.enter Try.func40 rfl Try.ntmps40 (by kernel_rfl) rfl ?_
  refine KW.seq (KW.region ?_)
  refine OW.val rfl rfl (EX.assign rfl) ?_
  refine OW.val rfl rfl (EX.assign rfl) ?_
  refine OW.nil ?_
  refine KW.seq (KW.seq ?_)
  refine KW.region ?_
  refine OW.val rfl rfl (EX.move rfl) ?_
  refine OW.val rfl rfl (by first | exact EX.lssN (b := 0) rfl rfl | exact EX.lssZ rfl rfl) ?_
  refine OW.val rfl rfl (EX.move rfl) ?_
  refine OW.splitD 8 rfl (fun h2 => ?_) (fun h2 => ?_)
  · have hd := text_bad (s := s) (.inl h2)
    refine OW.pass rfl rfl ?_
    refine OW.pass rfl rfl ?_
    refine OW.val rfl rfl (EX.pickT rfl rfl) ?_
    refine OW.nil ?_
    refine KW.condT rfl (KW.seq (KW.region ?_))
    refine OW.val rfl rfl (EX.assign rfl) ?_
    refine OW.val rfl rfl (EX.assign rfl) ?_
    refine OW.nil ?_
    refine KW.ret (ret2 rfl rfl rfl ?_)
    rw [hd]
    exact ⟨rfl, rfl⟩
  · refine OW.val rfl rfl (EX.move rfl) ?_
    refine OW.val rfl rfl (by first | exact EX.gtrN (b := 512) rfl rfl | exact EX.gtrZ rfl rfl) ?_
    refine OW.val rfl rfl (EX.pickF rfl rfl) ?_
    refine OW.nil ?_
    refine KW.condD rfl (fun h3 => ?_) (fun h3 => ?_)
    · have hd := text_bad (s := s) (.inr h3)
      refine KW.seq (KW.region ?_)
      refine OW.val rfl rfl (EX.assign rfl) ?_
      refine OW.val rfl rfl (EX.assign rfl) ?_
      refine OW.nil ?_
      refine KW.ret (ret2 rfl rfl rfl ?_)
      rw [hd]
      exact ⟨rfl, rfl⟩
    · have hr : ¬ (n < 0 ∨ 512 < n) := by omega
      obtain ⟨m, rfl⟩ := Int.eq_ofNat_of_zero_le (show 0 ≤ n by omega)
      refine KW.skip (KW.seq (KW.seq ?_))
      refine KW.region ?_
      refine OW.val rfl rfl (EX.move rfl) ?_
      refine OW.val rfl rfl (EX.lenS Try.underlying9 rfl) ?_
      refine OW.val rfl rfl (EX.move rfl) ?_
      refine OW.val rfl rfl (by first | exact EX.gtrN rfl rfl | exact EX.gtrZ rfl rfl) ?_
      refine OW.val rfl rfl (EX.move rfl) ?_
      refine OW.splitD 16 rfl (fun h4 => ?_) (fun h4 => ?_)
      · have hd := text_no hr (.inl (show (m : Int) < s.length by omega))
        refine OW.pass rfl rfl ?_
        refine OW.pass rfl rfl ?_
        refine OW.pass rfl rfl ?_
        refine OW.pass rfl rfl ?_
        refine OW.val rfl rfl (EX.pickT rfl rfl) ?_
        refine OW.nil ?_
        refine KW.condT rfl (KW.seq (KW.region ?_))
        refine OW.val rfl rfl (EX.assign rfl) ?_
        refine OW.val rfl rfl (EX.assign rfl) ?_
        refine OW.nil ?_
        refine KW.ret (ret2 rfl rfl rfl ?_)
        rw [hd]
        exact ⟨rfl, rfl⟩
      · refine OW.val rfl rfl (EX.move rfl) ?_
        refine OW.call rfl rfl rfl (refCut_s s hs w) ?_
        rintro _ _ ⟨rfl, rfl⟩
        refine OW.val rfl rfl (EX.move rfl) ?_
        refine OW.val rfl rfl (EX.neqS rfl rfl) ?_
        refine OW.val rfl rfl (EX.pickF rfl rfl) ?_
        refine OW.nil ?_
        refine KW.condD rfl (fun h5 => ?_) (fun h5 => ?_)
        · have hd := text_no (s := s) (m := (m : Int)) hr (.inr h5)
          refine KW.seq (KW.region ?_)
          refine OW.val rfl rfl (EX.assign rfl) ?_
          refine OW.val rfl rfl (EX.assign rfl) ?_
          refine OW.nil ?_
          refine KW.ret (ret2 rfl rfl rfl ?_)
          rw [hd]
          exact ⟨rfl, rfl⟩
        · have hd := text_yes (s := s) (m := (m : Int)) hr (by rintro (q | q); omega; exact h5 q)
          refine KW.skip (KW.seq (KW.block ?_))
          refine KW.as 0 (str ((s ++ nul 0))) rfl (by simp [nul]) ?_
          refine KW.loop1 (fun (i : Nat) => s.length + i ≤ m) (fun (i : Nat) => [(0, str ((s ++ nul i))), (1, .int .i64 ((m : Nat) : Int))]) (fun (i : Nat) => w) (fun (i : Nat) => m - i) (0) ⟨rfl, rfl, trivial⟩ rfl ?_ ?_
          · omega
          · rintro i hi
            have hnl := nul_length i
            have hlen : (s ++ nul i).length = s.length + i := by simp [nul]
            refine KW.seq (KW.seq (KW.region ?_))
            refine OW.val rfl rfl (EX.move rfl) ?_
            refine OW.val rfl rfl (EX.lenS Try.underlying9 rfl) ?_
            refine OW.val rfl rfl (EX.move rfl) ?_
            refine OW.val rfl rfl (by first | exact EX.lssN rfl rfl | exact EX.lssZ rfl rfl) ?_
            refine OW.nil ?_
            refine KW.condD rfl (fun h6 => ?_) (fun h6 => ?_)
            · refine KW.skip (KW.block (KW.region ?_))
              refine OW.val rfl rfl (EX.move rfl) ?_
              refine OW.val rfl rfl (EX.addS (r := [0]) rfl rfl (by first | omega | (simp only [List.length_append, List.length_cons, List.length_nil, List.length_take, List.length_drop, List.length_replicate]; omega))) ?_
              refine OW.val rfl rfl (EX.assign rfl) ?_
              refine OW.nil ?_
              refine KW.leave ?_
              refine KW.as 0 (str ((s ++ nul (i + 1)))) rfl (by simp [nul, List.replicate_succ']) ?_
              refine KW.back1 (i + 1) ⟨rfl, rfl, trivial⟩ rfl ?_ (by omega)
              omega
            · refine KW.exit rfl (KW.seq (KW.region ?_))
              refine OW.val rfl rfl (EX.move rfl) ?_
              refine OW.val rfl rfl (EX.assign rfl) ?_
              refine OW.val rfl rfl (EX.assign rfl) ?_
              refine OW.nil ?_
              refine KW.ret (ret2 rfl rfl rfl ?_)
              rw [hd, show (m : Int).toNat - s.length = i by omega]
              exact ⟨rfl, rfl⟩

/-! ### Octal numbers -/
theorem octal_bad {n m : Int} (h : m < 2 ∨ 20 < m) : octal n m = ([], 2) := by unfold octal; rw [if_pos h]
theorem octal_no {n : Int} {k : Nat} (h : 1 ≤ k) (hk : k ≤ 19) (h2 : n < 0 ∨ n / 8 ^ k ≠ 0) : octal n ((k + 1 : Nat) : Int) = ([], 150) := by
  unfold octal
  rw [if_neg (by omega), if_pos (by simpa using h2)]
theorem octal_yes {n k : Nat} (h : 1 ≤ k) (hk : k ≤ 19) (h2 : n / 8 ^ k = 0) : octal (n : Int) ((k + 1 : Nat) : Int) = (octs n k ++ [0], 0) := by
  unfold octal
  have h3 : ¬ ((n : Int) < 0 ∨ (n : Int) / 8 ^ (((k + 1 : Nat) : Int).toNat - 1) ≠ 0) := by
    rintro (q | q)
    · omega
    · apply q
      have : (((n / 8 ^ k : Nat)) : Int) = 0 := by rw [h2]; rfl
      simpa using this
  rw [if_neg (by omega), if_neg h3]
  simp
/-- a digit more, from behind -/
theorem oct_cells (n k c : Nat) (hc : c < k) : (bytesV (nul (k - c) ++ octs n c ++ [0])).set (k - 1 - c) (.int .u8 ((dgt (n / 8 ^ c % 8)).toNat : Int)) = bytesV (nul (k - (c + 1)) ++ octs n (c + 1) ++ [0]) := by
  have e1 : nul (k - c) = nul (k - (c + 1)) ++ [0] := by
    unfold nul
    rw [show k - c = (k - (c + 1)) + 1 by omega, List.replicate_succ']
  have hl : (bytesV (nul (k - (c + 1)))).length = k - 1 - c := by simp [bytesV, nul]; omega
  rw [e1, octs_cons]
  simp only [List.append_assoc, List.singleton_append, List.cons_append, bytesV_append]
  rw [← hl, List.set_append_right _ _ (Nat.le_refl _)]
  simp [bytesV]
theorem dgt_toNat {d : Nat} (h : d < 10) : (dgt d).toNat = 48 + d := by
  simp [dgt]; omega
theorem octal_s (n : Int) (h0 : -9223372036854775808 ≤ n) (h1 : n ≤ 9223372036854775807) (m : Int) (g0 : -9223372036854775808 ≤ m) (g1 : m ≤ 9223372036854775807) (w : World) :
    Ret Try.prog 23 [.int .i64 n, .int .i64 m] w fun v w' => v = .tuple #[str (octal n m).1, .int .i64 ((octal n m).2 : Nat)] ∧ Ext w w' := by
  refine Ret.enter Try.func23 rfl Try.ntmps23 (by kernel_rfl) rfl ?_
  refine KW.seq (KW.region ?_)
  refine OW.val rfl rfl (EX.assign rfl) ?_
  refine OW.val rfl rfl (EX.assign rfl) ?_
  refine OW.nil ?_
  refine KW.seq (KW.seq ?_)
  refine KW.region ?_
  refine OW.val rfl rfl (EX.move rfl) ?_
  refine OW.val rfl rfl (by first | exact EX.lssN (b := 2) rfl rfl | exact EX.lssZ rfl rfl) ?_
  refine OW.val rfl rfl (EX.move rfl) ?_
  refine OW.splitD 10 rfl (fun h2 => ?_) (fun h2 => ?_)
  · have hd := octal_bad (n := n) (.inl h2)
    refine OW.pass rfl rfl ?_
    refine OW.pass rfl rfl ?_
    refine OW.val rfl rfl (EX.pickT rfl rfl) ?_
    refine OW.nil ?_
    refine KW.condT rfl (KW.seq (KW.region ?_))
    refine OW.val rfl rfl (EX.assign rfl) ?_
    refine OW.val rfl rfl (EX.assign rfl) ?_
    refine OW.nil ?_
    refine KW.ret (ret2 rfl rfl rfl ?_)
    rw [hd]
    exact ⟨rfl, Ext.refl _⟩
  · refine OW.val rfl rfl (EX.move rfl) ?_
    refine OW.val rfl rfl (by first | exact EX.gtrN (b := 20) rfl rfl | exact EX.gtrZ rfl rfl) ?_
    refine OW.val rfl rfl (EX.pickF rfl rfl) ?_
    refine OW.nil ?_
    refine KW.condD rfl (fun h3 => ?_) (fun h3 => ?_)
    · have hd := octal_bad (n := n) (.inr h3)
      refine KW.seq (KW.region ?_)
      refine OW.val rfl rfl (EX.assign rfl) ?_
      refine OW.val rfl rfl (EX.assign rfl) ?_
      refine OW.nil ?_
      refine KW.ret (ret2 rfl rfl rfl ?_)
      rw [hd]
      exact ⟨rfl, Ext.refl _⟩
    · obtain ⟨k, rfl⟩ : ∃ k : Nat, m = ((k + 1 : Nat) : Int) := ⟨m.toNat - 1, by omega⟩
      have hk : 1 ≤ k ∧ k ≤ 19 := by omega
      refine KW.skip (KW.seq (KW.seq ?_))
      refine KW.region ?_
      refine OW.val rfl rfl (EX.move rfl) ?_
      refine OW.val rfl rfl (by first | exact EX.lssN (b := 0) rfl rfl | exact EX.lssZ rfl rfl) ?_
      refine OW.val rfl rfl (EX.move rfl) ?_
      refine OW.splitD 16 rfl (fun h4 => ?_) (fun h4 => ?_)
      · have hd := octal_no hk.1 hk.2 (.inl h4)
        refine OW.pass rfl rfl ?_
        refine OW.pass rfl rfl ?_
        refine OW.pass rfl rfl ?_
        refine OW.pass rfl rfl ?_
        refine OW.pass rfl rfl ?_
        refine OW.pass rfl rfl ?_
        refine OW.val rfl rfl (EX.pickT rfl rfl) ?_
        refine OW.nil ?_
        refine KW.condT rfl (KW.seq (KW.region ?_))
        refine OW.val rfl rfl (EX.assign rfl) ?_
        refine OW.val rfl rfl (EX.assign rfl) ?_
        refine OW.nil ?_
        refine KW.ret (ret2 rfl rfl rfl ?_)
        rw [hd]
        exact ⟨rfl, Ext.refl _⟩
      · obtain ⟨a, rfl⟩ := Int.eq_ofNat_of_zero_le (show 0 ≤ n by omega)
        refine OW.val rfl rfl (EX.move rfl) ?_
        refine OW.val rfl rfl (EX.move rfl) ?_
        refine OW.val rfl rfl (by first | exact EX.subN (b := 1) (m := 9223372036854775807) rfl rfl rfl (by omega) | exact EX.subZ (m := 9223372036854775807) rfl rfl rfl rfl (by omega)) ?_
        refine OW.val rfl rfl (by first | exact EX.mulN (a := 3) (m := 9223372036854775807) rfl rfl rfl (by omega) | exact EX.mulZ (m := 9223372036854775807) rfl rfl rfl rfl (by omega)) ?_
        refine OW.val rfl rfl (EX.shrN (s := 3 * (k + 1 - 1)) (p := 8 ^ k) rfl rfl (by rw [Nat.pow_mul]; rfl) (by show 3 * (k + 1 - 1) ≤ 64; omega)) ?_
        refine OW.val rfl rfl (by first | exact EX.neqN (b := 0) rfl rfl | exact EX.neqZ rfl rfl) ?_
        refine OW.val rfl rfl (EX.pickF rfl rfl) ?_
        refine OW.nil ?_
        refine KW.condD rfl (fun h5 => ?_) (fun h5 => ?_)
        · have hd := octal_no (n := (a : Int)) hk.1 hk.2 (.inr (fun q => h5 (by exact_mod_cast q)))
          refine KW.seq (KW.region ?_)
          refine OW.val rfl rfl (EX.assign rfl) ?_
          refine OW.val rfl rfl (EX.assign rfl) ?_
          refine OW.nil ?_
          refine KW.ret (ret2 rfl rfl rfl ?_)
          rw [hd]
          exact ⟨rfl, Ext.refl _⟩
        · have hd := octal_yes (n := a) hk.1 hk.2 (Classical.not_not.1 h5)
          refine KW.skip (KW.seq (KW.region ?_))
          refine OW.val rfl rfl (EX.move rfl) ?_
          refine OW.makeB rfl rfl Try.underlying38 ti5 rfl rfl rfl (by omega) (by omega) ?_
          rintro b w1 hge hb hx
          refine OW.val rfl rfl (EX.assign rfl) ?_
          refine OW.nil ?_
          refine KW.seq (KW.seq (KW.region ?_))
          refine OW.val rfl rfl (EX.move rfl) ?_
          refine OW.val rfl rfl (by first | exact EX.subN (b := 2) (m := 9223372036854775807) rfl rfl rfl (by omega) | exact EX.subZ (m := 9223372036854775807) rfl rfl rfl rfl (by omega)) ?_
          refine OW.val rfl rfl (EX.assign rfl) ?_
          refine OW.nil ?_
          refine KW.block ?_
          refine KW.as 7 (.int .i64 (((k : Int) - 1 - ((0 : Nat) : Int)) : Int)) rfl (by congr 1; omega) ?_
          rw [← bytesV_nul] at hb
          refine KW.loop3 (fun (c : Nat) (x : Nat) (wr : World) => c ≤ k ∧ x = a / 8 ^ c ∧ x ≤ 9223372036854775807 ∧ Bk wr b 5 (bytesV (nul (k - c) ++ octs a c ++ [0])) ∧ Ext w wr) (fun (c : Nat) (x : Nat) (wr : World) => [(0, .int .i64 ((x : Nat) : Int)), (6, .slice (some ⟨b, 0, none⟩) (k + 1) (k + 1)), (7, .int .i64 (((k : Int) - 1 - (c : Int)) : Int))]) (fun (c : Nat) (x : Nat) (wr : World) => wr) (fun (c : Nat) (x : Nat) (wr : World) => k - c) (0) (a) (w1) ⟨rfl, rfl, rfl, trivial⟩ rfl ?_ ?_
          · refine ⟨by omega, by simp, by omega, ?_, hx⟩
            have : nul (k - 0) ++ octs a 0 ++ [0] = nul (k + 1) := by simp [nul, octs, List.replicate_succ']
            rw [this]; exact hb
          · rintro c x wr ⟨hc, hx0, hxm, hb, hxx⟩
            refine KW.seq (KW.seq (KW.region ?_))
            refine OW.val rfl rfl (EX.move rfl) ?_
            refine OW.val rfl rfl (by first | exact EX.geqN (b := 0) rfl rfl | exact EX.geqZ rfl rfl) ?_
            refine OW.nil ?_
            refine KW.condD rfl (fun h6 => ?_) (fun h6 => ?_)
            · refine KW.as 7 (.int .i64 (((k - 1 - c) : Nat) : Int)) rfl (by congr 1; omega) ?_
              have hlen : (bytesV (nul (k - c) ++ octs a c ++ [0])).length = k + 1 := by simp [bytesV, nul, octs_length]; omega
              refine KW.skip (KW.seq (KW.block (KW.seq (KW.region ?_))))
              refine OW.val rfl rfl (EX.move rfl) ?_
              refine OW.val rfl rfl (EX.move rfl) ?_
              refine OW.val rfl rfl (EX.move rfl) ?_
              refine OW.val rfl rfl (EX.maskN (b := 7) (j := 3) (p := 8) (m := 9223372036854775807) rfl rfl (by decide) (by decide) rfl (by omega)) ?_
              refine OW.val rfl rfl (by first | exact EX.addN (a := 48) (m := 9223372036854775807) rfl rfl rfl (by omega) | exact EX.addZ (m := 9223372036854775807) rfl rfl rfl rfl (by omega)) ?_
              refine OW.val rfl rfl (by first | exact EX.convN (m := 255) Try.underlying3 Try.underlying5 rfl rfl (by omega) | exact EX.convW (m := 256) Try.underlying3 Try.underlying5 rfl rfl (by decide) | exact EX.convZ Try.underlying3 Try.underlying5 rfl) ?_
              refine OW.val rfl rfl (by first | exact EX.indexAddrS0 Try.underlying38 ti5 rfl rfl (by omega) | exact EX.indexAddrS1 Try.underlying38 ti5 rfl rfl (by omega)) ?_
              refine OW.storeB rfl ti5 rfl rfl (by first | rfl | assumption | exact Own.one (by assumption)) (hb) (by omega) ?_
              rintro w2 hb2 hm2
              refine OW.nil ?_
              refine KW.region ?_
              refine OW.val rfl rfl (EX.move rfl) ?_
              refine OW.val rfl rfl (by first | exact EX.shrN (s := 3) (p := 8) rfl rfl (by decide) (by decide) | exact EX.shrZ (s := 3) (p := 8) rfl rfl (by decide) (by decide)) ?_
              refine OW.val rfl rfl (EX.assign rfl) ?_
              refine OW.nil ?_
              refine KW.leave (KW.region ?_)
              refine OW.val rfl rfl (EX.move rfl) ?_
              refine OW.val rfl rfl (by first | exact EX.subN (b := 1) (m := 9223372036854775807) rfl rfl rfl (by omega) | exact EX.subZ (m := 9223372036854775807) rfl rfl rfl rfl (by omega)) ?_
              refine OW.val rfl rfl (EX.assign rfl) ?_
              refine OW.nil ?_
              refine KW.as 7 (.int .i64 (((k : Int) - 1 - ((c + 1 : Nat) : Int)) : Int)) rfl (by congr 1; omega) ?_
              refine KW.back3 (c + 1) (x / 8) (w2) ⟨rfl, rfl, rfl, trivial⟩ rfl ?_ (by omega)
              refine ⟨by omega, by rw [hx0, Nat.div_div_eq_div_mul, Nat.pow_succ], by omega, ?_, below_mo hxx hm2 hxx.size (by simp; omega)⟩
              rw [← oct_cells _ _ _ (by omega), dgt_toNat (by omega), ← hx0]
              exact hb2
            · obtain rfl : c = k := by omega
              refine KW.exit rfl (KW.seq (KW.region ?_))
              refine OW.val rfl rfl (EX.move rfl) ?_
              have hb' := hb.sl
              rw [Nat.sub_self] at hb'
              refine OW.val rfl rfl (EX.strOf Try.underlying38 Try.underlying5 Try.underlying9 rfl (hb') (by simp [nul, octs_length])) ?_
              refine OW.val rfl rfl (EX.assign rfl) ?_
              refine OW.val rfl rfl (EX.assign rfl) ?_
              refine OW.nil ?_
              refine KW.ret (ret2 rfl rfl rfl ?_)
              rw [hd]
              exact ⟨rfl, hxx⟩
theorem refOctal_s (n : Int) (h0 : -9223372036854775808 ≤ n) (h1 : n ≤ 9223372036854775807) (m : Int) (g0 : -9223372036854775808 ≤ m) (g1 : m ≤ 9223372036854775807) (w : World) :
    Ret Try.prog 41 [.int .i64 n, .int .i64 m] w fun v w' => v = .tuple #[str (octal n m).1, .int .i64 ((octal n m).2 : Nat)] ∧ w = w' := by
  refine Ret.enter Try.func41 rfl Try.ntmps41 (by kernel_rfl) rfl ?_
  refine KW.seq (KW.region ?_)
  refine OW.val rfl rfl (EX.assign rfl) ?_
  refine OW.val rfl rfl (EX.assign rfl) ?_
  refine OW.nil ?_
  refine KW.seq (KW.seq ?_)
  refine KW.region ?_
  refine OW.val rfl rfl (EX.move rfl) ?_
  refine OW.val rfl rfl (by first | exact EX.lssN (b := 2) rfl rfl | exact EX.lssZ rfl rfl) ?_
  refine OW.val rfl rfl (EX.move rfl) ?_
  refine OW.splitD 11 rfl (fun h2 => ?_) (fun h2 => ?_)
  · have hd := octal_bad (n := n) (.inl h2)
    refine OW.pass rfl rfl ?_
    refine OW.pass rfl rfl ?_
    refine OW.val rfl rfl (EX.pickT rfl rfl) ?_
    refine OW.nil ?_
    refine KW.condT rfl (KW.seq (KW.region ?_))
    refine OW.val rfl rfl (EX.assign rfl) ?_
    refine OW.val rfl rfl (EX.assign rfl) ?_
    refine OW.nil ?_
    refine KW.ret (ret2 rfl rfl rfl ?_)
    rw [hd]
    exact ⟨rfl, rfl⟩
  · refine OW.val rfl rfl (EX.move rfl) ?_
    refine OW.val rfl rfl (by first | exact EX.gtrN (b := 20) rfl rfl | exact EX.gtrZ rfl rfl) ?_
    refine OW.val rfl rfl (EX.pickF rfl rfl) ?_
    refine OW.nil ?_
    refine KW.condD rfl (fun h3 => ?_) (fun h3 => ?_)
    · have hd := octal_bad (n := n) (.inr h3)
      refine KW.seq (KW.region ?_)
      refine OW.val rfl rfl (EX.assign rfl) ?_
      refine OW.val rfl rfl (EX.assign rfl) ?_
      refine OW.nil ?_
      refine KW.ret (ret2 rfl rfl rfl ?_)
      rw [hd]
      exact ⟨rfl, rfl⟩
    · obtain ⟨k, rfl⟩ : ∃ k : Nat, m = ((k + 1 : Nat) : Int) := ⟨m.toNat - 1, by omega⟩
      have hk : 1 ≤ k ∧ k ≤ 19 := by omega
      refine KW.skip (KW.seq (KW.region ?_))
      refine OW.val rfl rfl (EX.assign rfl) ?_
      refine OW.nil ?_
      refine KW.seq (KW.seq (KW.region ?_))
      refine OW.val rfl rfl (EX.assign rfl) ?_
      refine OW.nil ?_
      refine KW.block ?_
      refine KW.loop3 (fun (c : Nat) (x : Int) (l : List UInt8) => c ≤ k ∧ x = n / 8 ^ c ∧ -9223372036854775808 ≤ x ∧ x ≤ 9223372036854775807 ∧ l.length = c + 1 ∧ (0 ≤ n → l = octs n.toNat c ++ [0])) (fun (c : Nat) (x : Int) (l : List UInt8) => [(0, .int .i64 (x : Int)), (1, .int .i64 (((k + 1) : Nat) : Int)), (6, str (l)), (7, .int .i64 ((c : Nat) : Int))]) (fun (c : Nat) (x : Int) (l : List UInt8) => w) (fun (c : Nat) (x : Int) (l : List UInt8) => k - c) (0) (n) ([0]) ⟨rfl, rfl, rfl, rfl, trivial⟩ rfl ?_ ?_
      · exact ⟨by omega, by simp, h0, h1, rfl, fun _ => by simp [octs]⟩
      · rintro c x l ⟨hc, hx, x0, x1, hl, he⟩
        refine KW.seq (KW.seq (KW.region ?_))
        refine OW.val rfl rfl (EX.move rfl) ?_
        refine OW.val rfl rfl (EX.move rfl) ?_
        refine OW.val rfl rfl (by first | exact EX.subN (b := 1) (m := 9223372036854775807) rfl rfl rfl (by omega) | exact EX.subZ (m := 9223372036854775807) rfl rfl rfl rfl (by omega)) ?_
        refine OW.val rfl rfl (by first | exact EX.lssN rfl rfl | exact EX.lssZ rfl rfl) ?_
        refine OW.nil ?_
        refine KW.condD rfl (fun h6 => ?_) (fun h6 => ?_)
        · refine KW.skip (KW.seq (KW.block (KW.seq (KW.region ?_))))
          refine OW.val rfl rfl (EX.move rfl) ?_
          refine OW.maskE (b := 7) (j := 3) (p := 8) rfl rfl rfl rfl (by decide) (by decide) (by decide) x1 ?_
          rintro r hr hrx
          refine OW.val rfl rfl (EX.assign rfl) ?_
          refine OW.nil ?_
          refine KW.seq (KW.region ?_)
          refine OW.val rfl rfl (EX.move rfl) ?_
          refine OW.val rfl rfl (EX.move rfl) ?_
          refine OW.val rfl rfl (by first | exact EX.addN (b := 1) (m := 9223372036854775807) rfl rfl rfl (by omega) | exact EX.addZ (m := 9223372036854775807) rfl rfl rfl rfl (by omega)) ?_
          refine OW.val rfl rfl (EX.sliceLH (s := [48, 49, 50, 51, 52, 53, 54, 55]) Try.underlying9 rfl rfl rfl (by simp only [List.length_cons, List.length_nil]; omega)) ?_
          refine OW.val rfl rfl (EX.move rfl) ?_
          refine OW.val rfl rfl (EX.addS rfl rfl (by first | omega | (simp only [List.length_append, List.length_cons, List.length_nil, List.length_take, List.length_drop, List.length_replicate]; omega))) ?_
          refine OW.val rfl rfl (EX.assign rfl) ?_
          refine OW.nil ?_
          refine KW.region ?_
          refine OW.val rfl rfl (EX.move rfl) ?_
          refine OW.val rfl rfl (by first | exact EX.shrN (s := 3) (p := 8) rfl rfl (by decide) (by decide) | exact EX.shrZ (s := 3) (p := 8) rfl rfl (by decide) (by decide)) ?_
          refine OW.val rfl rfl (EX.assign rfl) ?_
          refine OW.nil ?_
          refine KW.leave (KW.region ?_)
          refine OW.val rfl rfl (EX.move rfl) ?_
          refine OW.val rfl rfl (by first | exact EX.addN (b := 1) (m := 9223372036854775807) rfl rfl rfl (by omega) | exact EX.addZ (m := 9223372036854775807) rfl rfl rfl rfl (by omega)) ?_
          refine OW.val rfl rfl (EX.assign rfl) ?_
          refine OW.nil ?_
          refine KW.as 6 (str ((dgt r :: l))) rfl (by rw [octit_at r hr]; rfl) ?_
          refine KW.back3 (c + 1) (x / 8) (dgt r :: l) ⟨rfl, rfl, rfl, rfl, trivial⟩ rfl ?_ (by omega)
          refine ⟨by omega, by rw [hx, div_pow_step], by omega, by omega, by simp [hl], fun q => ?_⟩
          have hn : n = (n.toNat : Int) := by omega
          have hxn : x = ((n.toNat / 8 ^ c : Nat) : Int) := by rw [hx, hn]; simp
          have hp0 : 0 ≤ x := by rw [hxn]; exact Int.natCast_nonneg _
          have hr' := hrx hp0
          rw [octs_cons, he q, List.cons_append]
          congr 2
          generalize n.toNat / 8 ^ c = y at hxn ⊢
          omega
        · obtain rfl : c = k := by omega
          refine KW.exit rfl (KW.seq (KW.seq (KW.region ?_)))
          refine OW.val rfl rfl (EX.move rfl) ?_
          refine OW.val rfl rfl (by first | exact EX.neqN (b := 0) rfl rfl | exact EX.neqZ rfl rfl) ?_
          refine OW.nil ?_
          refine KW.condD rfl (fun h7 => ?_) (fun h7 => ?_)
          · have hd := octal_no (n := n) hk.1 hk.2 (.inr (by rw [← hx]; exact h7))
            refine KW.seq (KW.region ?_)
            refine OW.val rfl rfl (EX.assign rfl) ?_
            refine OW.val rfl rfl (EX.assign rfl) ?_
            refine OW.nil ?_
            refine KW.ret (ret2 rfl rfl rfl ?_)
            rw [hd]
            exact ⟨rfl, rfl⟩
          · have hx0 : x = 0 := Classical.not_not.1 h7
            have hn : 0 ≤ n := by
              rcases Int.lt_or_le n 0 with q | q
              · have := Int.ediv_neg_of_neg_of_pos q (show (0 : Int) < 8 ^ c by exact_mod_cast Nat.pow_pos (by decide))
                omega
              · exact q
            obtain ⟨a, rfl⟩ := Int.eq_ofNat_of_zero_le hn
            have hz : a / 8 ^ c = 0 := by rw [hx0] at hx; exact_mod_cast hx.symm
            have hd := octal_yes (n := a) hk.1 hk.2 hz
            refine KW.skip (KW.seq (KW.region ?_))
            refine OW.val rfl rfl (EX.move rfl) ?_
            refine OW.val rfl rfl (EX.assign rfl) ?_
            refine OW.val rfl rfl (EX.assign rfl) ?_
            refine OW.nil ?_
            refine KW.ret (ret2 rfl rfl rfl ?_)
            rw [hd, he (by omega)]
            exact ⟨rfl, rfl⟩
theorem octal_ok {n m : Int} (h : (octal n m).2 = 0) (hm : n ≤ 9007199254740992) : num (octal n m).1 = (n.toNat, 0) ∧ ((octal n m).1.length : Int) = m ∧ 0 ≤ n := by
  unfold octal at h ⊢
  split at h
  · simp at h
  · rename_i h1
    rw [if_neg h1]
    split at h
    · simp at h
    · rename_i h2
      rw [if_neg h2]
      have hn : 0 ≤ n := by omega
      obtain ⟨a, rfl⟩ := Int.eq_ofNat_of_zero_le hn
      have hz : a / 8 ^ (m.toNat - 1) = 0 := by
        have : ((a : Int) / 8 ^ (m.toNat - 1)) = 0 := Classical.byContradiction fun q => h2 (.inr q)
        exact_mod_cast this
      refine ⟨num_octs (by omega) hz (by omega), ?_, hn⟩
      simp [octs_length]
      omega
theorem octal_len (n m : Int) : (octal n m).1.length ≤ 20 := by
  unfold octal
  split
  · simp
  · split
    · simp
    · simp [octs_length]; omega
theorem text_len (s : List UInt8) (m : Int) : (text s m).1.length ≤ 512 := by
  unfold text
  split
  · simp
  · split
    · simp
    · simp [nul]; omega
theorem text_ok {s : List UInt8} {m : Int} (h : (text s m).2 = 0) : cut (text s m).1 = s ∧ ((text s m).1.length : Int) = m := by
  unfold text at h ⊢
  split at h
  · simp at h
  · rename_i h1
    rw [if_neg h1]
    split at h
    · simp at h
    · rename_i h2
      rw [if_neg h2]
      refine ⟨cut_nul (Classical.byContradiction fun q => h2 (.inr q)) _, ?_⟩
      simp [nul]; omega
theorem sum_iff (s : List UInt8) : ((sum s).2 = 0) ↔ s.length = 512 := by
  unfold sum
  split
  · rename_i h; simp; omega
  · rename_i h; simp; omega
theorem bytes_set (s : List UInt8) (rs : List Value) (k : Nat) (v : UInt8) (h : k < s.length) : (bytesV s ++ rs).set k (.int .u8 (v.toNat : Int)) = bytesV (s.set k v) ++ rs := by
  rw [List.set_append_left _ _ (by simpa [bytesV] using h)]
  congr 1
  simp [bytesV, List.map_set]
theorem bytes_get (s : List UInt8) (rs : List Value) (k : Nat) (h : k < s.length) : (bytesV s ++ rs)[k]? = some (.int .u8 ((s[k]).toNat : Int)) := by
  rw [List.getElem?_append_left (by simpa [bytesV] using h)]
  simp [bytesV, h]
theorem xor_byte {a b : Nat} (ha : a < 256) (hb : b ≤ 255) : (UInt8.ofNat (a ^^^ b)).toNat = a ^^^ b := by
  have : a ^^^ b < 2 ^ 8 := Nat.xor_lt_two_pow (by omega) (by omega)
  rw [UInt8.toNat_ofNat']
  exact Nat.mod_eq_of_lt this
theorem xor_ne {a b : Nat} (hb : b ≠ 0) : a ^^^ b ≠ a := by
  intro h
  have h1 : a ^^^ (a ^^^ b) = b := by rw [← Nat.xor_assoc, Nat.xor_self, Nat.zero_xor]
  rw [h, Nat.xor_self] at h1
  exact hb h1.symm

end Go.Proofs.Ytaoieiiggbpjeaa
