/- What telling data tells: the program and the reference at one; and data are read back. -/
import Derived.Test.YtifcpamliidabaaDoorPfU
import Derived.Test.YtifcpamliidabaaDoorPfT
import Derived.Test.YtifcpamliidabaaDoorPSx0
import Derived.Test.YtifcpamliidabaaDoorHandQuote
set_option linter.unusedSimpArgs false
set_option linter.unusedVariables false
namespace Go.Proofs.YtifcpamliidabaaDoor.PfQ
open Go.RowKit Go.Proofs.YtifcpamliidabaaDoor.PS Go.Proofs.YtifcpamliidabaaDoorW.PrintWords Go.Proofs.YtifcpamliidabaaDoorW.PrintLast Go.Proofs.YtifcpamliidabaaDoor.PlD Go.Proofs.YtifcpamliidabaaDoor.PfD Go.Proofs.YtifcpamliidabaaDoor.PfU Go.Proofs.YtifcpamliidabaaDoor.HandQuote
theorem quoteB_esc {c : Int} (h : c = 34 ∨ c = 92) : quoteB c = [92, c] := by unfold quoteB; rw [if_pos h]
theorem quoteB_hex {c : Int} (h : c < 32 ∨ 126 < c) : quoteB c = [92, 120, hexd (c / 16), hexd (c % 16)] := by unfold quoteB; rw [if_neg (by omega), if_pos h]
theorem quoteB_one {c : Int} (h1 : ¬ (c = 34 ∨ c = 92)) (h2 : ¬ (c < 32 ∨ 126 < c)) : quoteB c = [c] := by unfold quoteB; rw [if_neg h1, if_neg h2]
/-- A text's data. -/
def quoteN (s : ByteArray) : List Int := 34 :: ((L s).flatMap quoteB ++ [34])
theorem hexd_range (d : Int) (h0 : 0 ≤ d) (h1 : d < 16) : 48 ≤ hexd d ∧ hexd d ≤ 102 := by unfold hexd; split <;> omega
theorem quoteB_range (c : Int) (h0 : 0 ≤ c) (h1 : c < 256) : ∀ x ∈ quoteB c, 32 ≤ x ∧ x ≤ 126 := by
  have a := hexd_range (c / 16) (by omega) (by omega)
  have b := hexd_range (c % 16) (by omega) (by omega)
  unfold quoteB
  intro x hx
  split at hx
  · simp at hx; omega
  · split at hx
    · simp at hx; omega
    · simp at hx; omega
theorem quoteN_range (s : ByteArray) : ∀ x ∈ quoteN s, 32 ≤ x ∧ x ≤ 126 := by
  intro x hx
  unfold quoteN at hx
  simp only [List.mem_cons, List.mem_append, List.mem_flatMap, List.not_mem_nil, or_false] at hx
  rcases hx with h | ⟨c, hc, h⟩ | h
  · omega
  · have := L_byte s c hc
    exact quoteB_range c this.1 this.2 x h
  · omega
theorem Quote_f (s : ByteArray) (hs : s.size ≤ 10000000) : ∃ r, script_Quote.f s = some r ∧ L r = quoteN s := by
  unfold script_Quote.f
  rw [if_pos hs]
  refine ⟨_, rfl, ?_⟩
  have e : quoteL s = quoteN s := rfl
  rw [e]
  exact L_nums _ (fun x hx => by have := quoteN_range s x hx; omega)
theorem value_hexd (d : Int) (h0 : 0 ≤ d) (h1 : d < 16) : value (hexd d) = d := by
  unfold hexd value
  split <;> (repeat' split) <;> omega
theorem bt_L (t : ByteArray) (pre l : List Int) (x : Int) (i : Nat) (h : L t = pre ++ x :: l) (hi : i = pre.length) : bt t (i : Int) = x := by
  subst hi
  rw [← L_get, h, List.getD_eq_getElem?_getD, List.getElem?_append_right (Nat.le_refl _), Nat.sub_self]
  rfl
/-- Data are read back, whatever stands behind them. -/
theorem unq_back (t : ByteArray) (post : List Int) : ∀ (l pre acc : List Int) (d i : Nat), (∀ c ∈ l, 0 ≤ c ∧ c < 256) → L t = pre ++ (l.flatMap quoteB ++ 34 :: post) → i = pre.length → t.size < i + d →
    unqN t d acc i = (acc ++ l, ((i + (l.flatMap quoteB).length + 1 : Nat) : Int), -1) := by
  intro l
  induction l with
  | nil =>
    intro pre acc d i hl ht hi hd
    have hlen := L_len t
    rw [ht] at hlen
    simp only [List.flatMap_nil, List.nil_append, List.length_append, List.length_cons] at hlen ht
    obtain ⟨d, rfl⟩ : ∃ m, d = m + 1 := ⟨d - 1, by omega⟩
    unfold unqN
    rw [if_pos (by omega), if_pos (bt_L t pre post 34 i ht hi)]
    simp
  | cons c l ih =>
    intro pre acc d i hl ht hi hd
    have hc := hl c (by simp)
    have hl' : ∀ x ∈ l, 0 ≤ x ∧ x < 256 := fun x hx => hl x (by simp [hx])
    have hlen := L_len t
    rw [List.flatMap_cons, List.append_assoc] at ht
    rw [ht] at hlen
    rw [List.flatMap_cons]
    by_cases hq : c = 34 ∨ c = 92
    · rw [quoteB_esc hq] at ht hlen ⊢
      simp only [List.cons_append, List.nil_append, List.length_append, List.length_cons, List.length_nil] at ht hlen ⊢
      obtain ⟨d, rfl⟩ : ∃ m, d = m + 1 := ⟨d - 1, by omega⟩
      have b0 := bt_L t pre _ 92 i ht hi
      have b1 := bt_L t (pre ++ [92]) (l.flatMap quoteB ++ 34 :: post) c (i + 1) (by rw [ht]; simp) (by simp [hi])
      have he : esc t i = (c, 2) := by unfold esc; rw [b1, if_pos ⟨by omega, hq⟩]
      unfold unqN
      rw [if_pos (by omega), if_neg (by omega), if_pos b0, he, if_neg (show ¬ ((c, 2) : Int × Nat).2 = 0 from fun h => by cases h)]
      simp only
      rw [ih (pre ++ [92, c]) (acc ++ [c]) d (i + 2) hl' (by rw [ht]; simp) (by simp [hi]) (by omega)]
      simp
      omega
    · by_cases hx : c < 32 ∨ 126 < c
      · rw [quoteB_hex hx] at ht hlen ⊢
        simp only [List.cons_append, List.nil_append, List.length_append, List.length_cons, List.length_nil] at ht hlen ⊢
        obtain ⟨d, rfl⟩ : ∃ m, d = m + 1 := ⟨d - 1, by omega⟩
        have b0 := bt_L t pre _ 92 i ht hi
        have b1 := bt_L t (pre ++ [92]) (hexd (c / 16) :: hexd (c % 16) :: (l.flatMap quoteB ++ 34 :: post)) 120 (i + 1) (by rw [ht]; simp) (by simp [hi])
        have b2 := bt_L t (pre ++ [92, 120]) (hexd (c % 16) :: (l.flatMap quoteB ++ 34 :: post)) (hexd (c / 16)) (i + 2) (by rw [ht]; simp) (by simp [hi])
        have b3 := bt_L t (pre ++ [92, 120, hexd (c / 16)]) (l.flatMap quoteB ++ 34 :: post) (hexd (c % 16)) (i + 3) (by rw [ht]; simp) (by simp [hi])
        have v2 := value_hexd (c / 16) (by omega) (by omega)
        have v3 := value_hexd (c % 16) (by omega) (by omega)
        have he : esc t i = (c, 4) := by
          unfold esc
          rw [b1, b2, b3, v2, v3, if_neg (by omega), if_pos ⟨by omega, rfl, by omega, by omega⟩]
          congr 1
          omega
        unfold unqN
        rw [if_pos (by omega), if_neg (by omega), if_pos b0, he, if_neg (show ¬ ((c, 4) : Int × Nat).2 = 0 from fun h => by cases h)]
        simp only
        rw [ih (pre ++ [92, 120, hexd (c / 16), hexd (c % 16)]) (acc ++ [c]) d (i + 4) hl' (by rw [ht]; simp) (by simp [hi]) (by omega)]
        simp
        omega
      · rw [quoteB_one hq hx] at ht hlen ⊢
        simp only [List.cons_append, List.nil_append, List.length_append, List.length_cons, List.length_nil] at ht hlen ⊢
        obtain ⟨d, rfl⟩ : ∃ m, d = m + 1 := ⟨d - 1, by omega⟩
        have b0 := bt_L t pre _ c i ht hi
        unfold unqN
        rw [b0, if_pos (by omega), if_neg (by omega), if_neg (by omega), if_neg (by omega), ih (pre ++ [c]) (acc ++ [c]) d (i + 1) hl' (by rw [ht]; simp) (by simp [hi]) (by omega)]
        simp
        omega
theorem unqF_back (t s : ByteArray) (pre post : List Int) (i : Nat) (h : L t = pre ++ (quoteN s ++ post)) (hi : i = pre.length) : unqF t i = (L s, ((i + (quoteN s).length : Nat) : Int), -1) := by
  have hlen := L_len t
  rw [h] at hlen
  unfold quoteN at h hlen ⊢
  simp only [List.cons_append, List.length_append, List.length_cons, List.length_nil, List.append_assoc, List.nil_append] at h hlen ⊢
  unfold unqF
  have b0 := bt_L t pre _ 34 i h hi
  rw [if_neg (fun e => by rcases e with e | e; omega; exact e b0)]
  rw [unq_back t post (L s) (pre ++ [34]) [] t.size (i + 1) (L_byte s) (by rw [h]; simp) (by simp [hi]) (by omega)]
  simp
  omega
theorem str_L (s : ByteArray) : strOfNums (L s) = s := by
  have h := L_nums (L s) (L_byte s)
  have h2 := L_inj.2 h
  rw [ByteArray.toList_eq, ByteArray.toList_eq] at h2
  have h3 : (strOfNums (L s)).data = s.data := Array.toList_inj.1 h2
  have hx : ∀ a b : ByteArray, a.data = b.data → a = b := fun a b h => by cases a; cases b; simp_all
  exact hx _ _ h3
end Go.Proofs.YtifcpamliidabaaDoor.PfQ
