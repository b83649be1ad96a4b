/- ScriptQuotes, over plain functions: data are told alike by the program and by the reference, all of plain signs, and are read back. No condition beyond the statement's own. -/
import Derived.Test.YtifcpamliidabaaDoorPSx22
import Derived.Test.YtifcpamliidabaaDoorPfQ
import Derived.Test.YtifcpamliidabaaDoorPfA
set_option linter.unusedSimpArgs false
set_option linter.unusedVariables false
namespace Go.Proofs.YtifcpamliidabaaDoor.Pure
open Go.RowKit Go.Proofs.YtifcpamliidabaaDoor.PS Go.Proofs.YtifcpamliidabaaDoorW.PrintWords Go.Proofs.YtifcpamliidabaaDoorW.PrintLast Go.Proofs.YtifcpamliidabaaDoor.PlD Go.Proofs.YtifcpamliidabaaDoor.PfD Go.Proofs.YtifcpamliidabaaDoor.PfU Go.Proofs.YtifcpamliidabaaDoor.PfA Go.Proofs.YtifcpamliidabaaDoor.PfQ Go.Proofs.YtifcpamliidabaaDoor.HandQuote
theorem before (s : ByteArray) (K : Nat) (hK : 2 ≤ K) : script_Unquote.f K s (-1) = some (⟨#[]⟩, 0, 3, -1) := by
  obtain ⟨k, rfl⟩ : ∃ m, K = m + 1 := ⟨K - 1, by omega⟩
  unfold script_Unquote.f
  rw [if_pos (by decide)]
  simp only [script_Unquote.j0]
  rw [if_pos trivial]
  rfl
theorem quotes_j2 (s b : ByteArray) (hb : b.size ≤ 200) (a : Int) (h0 : 0 ≤ a) (h1 : a < 256) (K : Nat) (hK : 3000 ≤ K) : spoollaw48_ScriptQuotes.j2 K s b a false = some true := by
  obtain ⟨k, rfl⟩ : ∃ m, K = m + 1 := ⟨K - 1, by omega⟩
  obtain ⟨i, rfl⟩ : ∃ i : Nat, a = (i : Int) := ⟨a.toNat, by omega⟩
  simp only [spoollaw48_ScriptQuotes.j2]
  rw [if_neg Bool.false_ne_true, PlD.wrap_in (by omega) (by omega), Unquote_f b (by omega) i (by omega) k (by omega), rUnquote_f b (by omega) i (by omega) k (by omega), before s k (by omega), alive_f k (by omega)]
  simp only [Option.bind_some]
  by_cases hbad : (unqF b i).2.2 < 0
  · have eP : asP (unqF b i) = (strOfNums (unqF b i).1, (unqF b i).2.1, 0, 0) := by unfold asP; rw [if_pos hbad]
    have eR : asR (unqF b i) = (strOfNums (unqF b i).1, (unqF b i).2.1, -1) := by unfold asR; rw [if_pos hbad]
    rw [eP, eR]
    simp
  · have eP : asP (unqF b i) = (⟨#[]⟩, 0, 3, (unqF b i).2.2) := by unfold asP; rw [if_neg hbad]
    have eR : asR (unqF b i) = (⟨#[]⟩, 0, (unqF b i).2.2) := by unfold asR; rw [if_neg hbad]
    rw [eP, eR]
    simp only
    rw [if_pos (by omega)]
    simp
theorem quotes_l0 (s b q : ByteArray) (hs : s.size ≤ 200) (hb : b.size ≤ 200) (hq : L q = quoteN s) (hz : q.size ≤ 1000) (a : Int) (h0 : 0 ≤ a) (h1 : a < 256) (d : Nat) : ∀ (K i : Nat), q.size - i ≤ d → i ≤ q.size → d + 6000 ≤ K →
    spoollaw48_ScriptQuotes.l0 K s b a q (q.size : Int) (i : Int) = some true := by
  have fin : ∀ k, 5000 ≤ k → (if q.size + b.size ≤ 9223372036854775807 then ((script_Unquote.f k (q ++ b) 0).bind fun bt357 => ((spoolref48_Quote.f k s).bind fun t362 => (if q.toList = t362.toList then (if bt357.2.2.1 = 0 then (if bt357.1.toList = s.toList then (spoollaw48_ScriptQuotes.j2 k s b a (bt357.2.1 != (q.size : Int))) else (spoollaw48_ScriptQuotes.j2 k s b a true)) else (spoollaw48_ScriptQuotes.j2 k s b a true)) else (spoollaw48_ScriptQuotes.j2 k s b a true)))) else (none)) = some true := by
    intro k hk
    obtain ⟨r, e1, e2⟩ := rQuote_f s (by omega) k (by omega)
    have hU : script_Unquote.f k (q ++ b) 0 = some (asP (unqF (q ++ b) 0)) := Unquote_f (q ++ b) (by rw [ByteArray.size_append]; omega) 0 (by omega) k (by rw [ByteArray.size_append]; omega)
    have hB := unqF_back (q ++ b) s [] (L b) 0 (by rw [L_append, hq]; rfl) rfl
    have hl : (quoteN s).length = q.size := by rw [← hq, L_len]
    have hA : asP (unqF (q ++ b) 0) = (s, (q.size : Int), 0, 0) := by
      rw [hB]
      unfold asP
      rw [if_pos (show (-1 : Int) < 0 by decide), str_L, Nat.zero_add, hl]
    rw [if_pos (by omega), hU, hA, e1]
    simp only [Option.bind_some]
    rw [if_pos (L_inj.2 (by rw [hq, e2])), if_pos trivial, if_pos trivial, show ((q.size : Int) != (q.size : Int)) = false from bne_eq_false_iff_eq.mpr rfl]
    exact quotes_j2 s b hb a h0 h1 k (by omega)
  induction d with
  | zero =>
    intro K i hd hi hK
    obtain ⟨k, rfl⟩ : ∃ m, K = m + 1 := ⟨K - 1, by omega⟩
    simp only [spoollaw48_ScriptQuotes.l0]
    rw [if_neg (by omega)]
    exact fin k (by omega)
  | succ d ih =>
    intro K i hd hi hK
    obtain ⟨k, rfl⟩ : ∃ m, K = m + 1 := ⟨K - 1, by omega⟩
    simp only [spoollaw48_ScriptQuotes.l0]
    by_cases hlt : i < q.size
    · have hr : 32 ≤ bt q (i : Int) ∧ bt q (i : Int) ≤ 126 := by
        refine quoteN_range s _ ?_
        rw [← hq, ← L_get, List.getD_eq_getElem?_getD, List.getElem?_eq_getElem (by rw [L_len]; exact hlt)]
        exact List.getElem_mem _
      rw [if_pos (by omega), if_pos (by omega), if_pos (by omega), if_neg (by omega), if_neg (by omega), PlD.wrap_in (by omega) (by omega)]
      exact ih k (i + 1) (by omega) (by omega) (by omega)
    · rw [if_neg (by omega)]
      exact fin k (by omega)
theorem ScriptQuotes_K (s b : ByteArray) (a : Int) (h0 : 0 ≤ a) (h1 : a < 256) : ∀ K, 9000 ≤ K → spoollaw48_ScriptQuotes.f K s b a = some true := by
  intro K hK
  obtain ⟨k, rfl⟩ : ∃ m, K = m + 1 := ⟨K - 1, by omega⟩
  unfold spoollaw48_ScriptQuotes.f
  simp only [spoollaw48_ScriptQuotes.j0]
  rw [alive_f k (by omega)]
  by_cases hs : (s.size : Int) > 200
  · rw [if_pos hs]
    rfl
  · rw [if_neg hs]
    by_cases hb : (b.size : Int) > 200
    · rw [decide_eq_true hb]
      rfl
    · rw [decide_eq_false hb, if_neg Bool.false_ne_true]
      obtain ⟨q, e1, e2⟩ := Quote_f s (by omega)
      rw [e1]
      simp only [Option.bind_some]
      have hz : q.size ≤ 1000 := by
        rw [← L_len, e2]
        have := flat_len (L s)
        rw [L_len] at this
        simp only [quoteN, List.length_cons, List.length_append, List.length_nil]
        omega
      exact quotes_l0 s b q (by omega) (by omega) e2 hz a h0 h1 q.size k 0 (by omega) (by omega) (by omega)
theorem wfQ {n : Int} (h : (Lit.int .u8 n).wf = true) : 0 ≤ n ∧ n ≤ 255 := by
  simpa [Lit.wf, IntKind.min, IntKind.max, IntKind.signed, IntKind.bits] using h
theorem ScriptQuotes : spoollaw48_ScriptQuotes.Pure := fun a0 a1 a2 _ _ h => ⟨9000, ScriptQuotes_K a0 a1 a2 (by have := wfQ h; omega) (by have := wfQ h; omega) 9000 (Nat.le_refl _)⟩
end Go.Proofs.YtifcpamliidabaaDoor.Pure
