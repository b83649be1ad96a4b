/- What the document's Count, Points, Least tell. Conditions: rows of one to four ranges of bytes; the fuel. -/
import Derived.Test.YtedoopnjhpbjfaaDoorPlT
import Derived.Test.YtedoopnjhpbjfaaDoorPBx0
import Derived.Test.YtedoopnjhpbjfaaDoorPBx9
import Derived.Test.YtedoopnjhpbjfaaDoorPBx12
set_option linter.unusedSimpArgs false
set_option linter.unusedVariables false
namespace Go.Proofs.YtedoopnjhpbjfaaDoor.PfN
open Go.RowKit Go.Proofs.YtedoopnjhpbjfaaDoorW.PrintWords Go.Proofs.YtedoopnjhpbjfaaDoorW.PrintLast Go.Proofs.YtedoopnjhpbjfaaDoorW.PrintMore Go.Proofs.YtedoopnjhpbjfaaDoor.PB Go.Proofs.YtedoopnjhpbjfaaDoor.PlE Go.Proofs.YtedoopnjhpbjfaaDoor.PlB Go.Proofs.YtedoopnjhpbjfaaDoor.PlT Go.Proofs.YtedoopnjhpbjfaaDoor.Sets Go.Proofs.YtedoopnjhpbjfaaDoor.PfR Go.Proofs.YtedoopnjhpbjfaaDoor.HandOf
def cm (a b c : Int) : Int := if c ≤ a then 0 else if c ≤ b then c - a else b - a + 1
theorem wj' (j : Nat) (h : j < 1000000000) : wrap64 ((j : Int) + 1) = ((j + 1 : Nat) : Int) := by rw [w64 _ (by omega) (by omega)]; rfl
theorem c_l2 (rows : List (List S35)) (x3 : Int) (i j : Nat) (x5 a b : Int) (V : Int) (B : Nat) (hi : i < rows.length) (hj : j < (rd_L3 rows (i : Int)).length) (hr : rd_T35 (rd_L3 rows (i : Int)) (j : Int) = ⟨a, b⟩) (hab : 0 ≤ a ∧ a ≤ b ∧ b ≤ 255)
    (next : ∀ k, B ≤ k → spoolref08_Count.l1 k rows x3 (i : Int) (wrap64 (x5 * (b - a + 1))) (wrap64 ((j : Int) + 1)) = some V) :
    ∀ (d c k : Nat) (m : Int), c + d = 256 → m = cm a b (c : Int) → B + d + 1 ≤ k → spoolref08_Count.l2 k rows x3 (i : Int) x5 (j : Int) m (c : Int) = some V := by
  intro d
  induction d with
  | zero =>
    intro c k m h1 h2 h3
    obtain ⟨k, rfl⟩ : ∃ k', k = k' + 1 := ⟨k - 1, by omega⟩
    have hm : m = b - a + 1 := by rw [h2]; unfold cm; rw [if_neg (by omega), if_neg (by omega)]
    rw [spoolref08_Count.l2, if_neg (by omega), hm]
    exact next k (by omega)
  | succ d ih =>
    intro c k m h1 h2 h3
    obtain ⟨k, rfl⟩ : ∃ k', k = k' + 1 := ⟨k - 1, by omega⟩
    have hb : 0 ≤ cm a b (c : Int) ∧ cm a b (c : Int) ≤ 256 := by unfold cm; (repeat' split) <;> omega
    rw [spoolref08_Count.l2, if_pos (by omega), if_pos (by omega), if_pos (by omega), if_pos (by omega), if_pos (by omega), hr]
    by_cases c1 : (c : Int) ≥ a
    · rw [if_pos c1]
      by_cases c2 : (c : Int) ≤ b
      · rw [if_pos c2, wj' c (by omega)]
        refine ih (c + 1) k _ (by omega) ?_ (by omega)
        rw [h2, w64 _ (by omega) (by omega)]
        unfold cm
        (repeat' split) <;> omega
      · rw [if_neg c2, wj' c (by omega)]
        refine ih (c + 1) k _ (by omega) ?_ (by omega)
        rw [h2]
        unfold cm
        (repeat' split) <;> omega
    · rw [if_neg c1, wj' c (by omega)]
      refine ih (c + 1) k _ (by omega) ?_ (by omega)
      rw [h2]
      unfold cm
      (repeat' split) <;> omega
/-- A row of one to four ranges of bytes. -/
def Rw (r : List S35) : Prop := 1 ≤ r.length ∧ r.length ≤ 4 ∧ ∀ x ∈ r, 0 ≤ x.f0 ∧ x.f0 ≤ x.f1 ∧ x.f1 ≤ 255
theorem c_l1 (rows : List (List S35)) (x3 : Int) (i : Nat) (V P : Int) (B : Nat) (hi : i < rows.length) (hw : Rw (rd_L3 rows (i : Int)))
    (next : ∀ k, B ≤ k → spoolref08_Count.l0 k rows (wrap64 (x3 + P)) (wrap64 ((i : Int) + 1)) = some V) :
    ∀ (d j k : Nat) (x5 : Int), (rd_L3 rows (i : Int)).length = j + d → ((rd_L3 rows (i : Int)).drop j).foldl (fun n t => n * (t.f1 - t.f0 + 1)) x5 = P → 0 ≤ x5 → x5 ≤ 256 ^ j → B + 2 + d * 259 ≤ k → spoolref08_Count.l1 k rows x3 (i : Int) x5 (j : Int) = some V := by
  intro d
  induction d with
  | zero =>
    intro j k x5 h1 h2 h3 h4 h5
    obtain ⟨k, rfl⟩ : ∃ k', k = k' + 1 + 1 := ⟨k - 2, by omega⟩
    rw [List.drop_of_length_le (by omega)] at h2
    rw [spoolref08_Count.l1, if_pos (by omega), if_pos (by omega), if_neg (by omega), spoolref08_Count.j4, if_neg (by decide), show x5 = P from h2]
    exact next k (by omega)
  | succ d ih =>
    intro j k x5 h1 h2 h3 h4 h5
    obtain ⟨k, rfl⟩ : ∃ k', k = k' + 1 + 1 := ⟨k - 2, by omega⟩
    have hj4 : j < 4 := by have := hw.2.1; omega
    obtain ⟨a, b, hab⟩ : ∃ a b, rd_T35 (rd_L3 rows (i : Int)) (j : Int) = ⟨a, b⟩ := ⟨_, _, rfl⟩
    have hd : (rd_L3 rows (i : Int)).drop j = ⟨a, b⟩ :: (rd_L3 rows (i : Int)).drop (j + 1) := by rw [← hab]; exact drop_G _ j (by omega)
    have hm : (⟨a, b⟩ : S35) ∈ rd_L3 rows (i : Int) := List.mem_of_mem_drop (by rw [hd]; exact List.mem_cons_self ..)
    have hb := hw.2.2 _ hm
    simp only at hb
    rw [hd, List.foldl_cons] at h2
    have hp : (256 : Int) ^ j ≤ 16777216 := by
      have : j = 0 ∨ j = 1 ∨ j = 2 ∨ j = 3 := by omega
      rcases this with rfl | rfl | rfl | rfl <;> decide
    have hq : 0 ≤ x5 * (b - a + 1) := Int.mul_nonneg h3 (by omega)
    have hq2 : x5 * (b - a + 1) ≤ 256 ^ (j + 1) := by
      rw [Int.pow_succ]
      exact Int.mul_le_mul h4 (by omega) (by omega) (Int.le_trans h3 h4)
    have hq3 : (256 : Int) ^ (j + 1) ≤ 4294967296 := by rw [Int.pow_succ]; omega
    rw [spoolref08_Count.l1, if_pos (by omega), if_pos (by omega), if_pos (by omega), decide_eq_true (by omega), spoolref08_Count.j4, if_pos rfl]
    refine c_l2 rows x3 i j x5 a b V (B + 2 + d * 259) hi (by omega) hab hb (fun k' hk => ?_) 256 0 k 0 (by omega) (by unfold cm; rw [if_pos (by omega)]) (by omega)
    rw [w64 _ (by omega) (by omega), wj' j (by omega)]
    exact ih (j + 1) k' _ (by omega) h2 hq hq2 hk
theorem prod_nonneg : ∀ (r : List S35) (n : Int), (∀ x ∈ r, x.f0 ≤ x.f1) → 0 ≤ n → 0 ≤ r.foldl (fun n t => n * (t.f1 - t.f0 + 1)) n := by
  intro r
  induction r with
  | nil => intro n _ h; exact h
  | cons x r ih =>
    intro n hx h
    rw [List.foldl_cons]
    exact ih _ (fun y hy => hx y (List.mem_cons_of_mem _ hy)) (Int.mul_nonneg h (by have := hx x (List.mem_cons_self ..); omega))
def sumP (rows : List (List S35)) : Int := (rows.map prodL).sum
theorem sumP_nonneg : ∀ rows : List (List S35), (∀ r ∈ rows, Rw r) → 0 ≤ sumP rows := by
  intro rows
  induction rows with
  | nil => intro _; exact Int.le_refl _
  | cons r rows ih =>
    intro h
    have h1 := ih (fun x hx => h x (List.mem_cons_of_mem _ hx))
    have h2 : 0 ≤ prodL r := prod_nonneg r 1 (fun x hx => ((h r (List.mem_cons_self ..)).2.2 x hx).2.1) (by decide)
    have e : sumP (r :: rows) = prodL r + sumP rows := by simp [sumP]
    omega
theorem drop_L3' (l : List (List S35)) (j : Nat) (h : j < l.length) : l.drop j = rd_L3 l (j : Int) :: l.drop (j + 1) := by
  rw [List.drop_eq_getElem_cons h]
  simp [rd_L3, List.getD_eq_getElem?_getD, h]
theorem c_l0 (rows : List (List S35)) (hw : ∀ r ∈ rows, Rw r) (hl : rows.length < 1000000) (V : Int) (hV : V ≤ 1000000000000) : ∀ (d i k : Nat) (s : Int), rows.length = i + d → s + sumP (rows.drop i) = V → 0 ≤ s → 1100 * d + 2 ≤ k → spoolref08_Count.l0 k rows s (i : Int) = some V := by
  intro d
  induction d with
  | zero =>
    intro i k s h1 h2 h3 h4
    obtain ⟨k, rfl⟩ : ∃ k', k = k' + 1 := ⟨k - 1, by omega⟩
    rw [List.drop_of_length_le (by omega)] at h2
    have : s = V := by simpa [sumP] using h2
    rw [spoolref08_Count.l0, if_neg (by omega), this]
  | succ d ih =>
    intro i k s h1 h2 h3 h4
    obtain ⟨k, rfl⟩ : ∃ k', k = k' + 1 + 1 + 1 := ⟨k - 3, by omega⟩
    have hd := drop_L3' rows i (by omega)
    have hmem : rd_L3 rows (i : Int) ∈ rows := List.mem_of_mem_drop (by rw [hd]; exact List.mem_cons_self ..)
    have hr := hw _ hmem
    have hrest : ∀ r ∈ rows.drop (i + 1), Rw r := fun r h => hw r (List.mem_of_mem_drop h)
    have h5 := sumP_nonneg _ hrest
    have h6 : 0 ≤ prodL (rd_L3 rows (i : Int)) := prod_nonneg _ 1 (fun x hx => (hr.2.2 x hx).2.1) (by decide)
    have e : sumP (rows.drop i) = prodL (rd_L3 rows (i : Int)) + sumP (rows.drop (i + 1)) := by rw [hd]; simp [sumP]
    rw [e] at h2
    rw [spoolref08_Count.l0, if_pos (by omega), if_pos (by omega), if_neg (by have := hr.1; omega), decide_eq_false (by have := hr.2.1; omega), spoolref08_Count.j1, if_neg (by decide), spoolref08_Count.j2]
    refine c_l1 rows s i V (prodL (rd_L3 rows (i : Int))) (1100 * d + 2) (by omega) hr (fun k' hk => ?_) (rd_L3 rows (i : Int)).length 0 k 1 (by omega) rfl (by decide) (by decide) (by have := hr.2.1; omega)
    rw [w64 _ (by omega) (by omega), wj' i (by omega)]
    exact ih (i + 1) k' _ (by omega) (by omega) (by omega) hk
theorem cnt_le (P : Nat → Bool) : ∀ n, cnt P n ≤ n := by
  intro n
  induction n with
  | zero => exact Nat.le_refl _
  | succ n ih => simp only [cnt]; split <;> omega
theorem rows_Rw (l : List S35) (K : Nat) (hK : 1200000 ≤ K) : ∀ r ∈ (tiles K l).map rowT, Rw r := by
  intro r hr
  obtain ⟨t, ht, rfl⟩ := List.mem_map.1 hr
  obtain ⟨n, h1, h2⟩ := tiles_tile l K hK t ht
  refine ⟨?_, ?_, fun x hx => row_bytes h1 h2 x hx⟩
  · unfold rowT; rw [row_len h1]; unfold Cls at h1; omega
  · unfold rowT; rw [row_len h1]; unfold Cls at h1; omega
/-- As many texts as code points. -/
theorem RCnt_f (l : List S35) (hl : l.length ≤ 20) (K : Nat) (hK : 1200000 ≤ K) (k : Nat) (hk : 800000 ≤ k) : spoolref08_Count.f k ((tiles K l).map rowT) = some (len (lessG l)) := by
  have hn := tiles_len l K hK
  have hz := sz_cnt (tiles K l) (tiles_Dj l K hK)
  have hc := cnt_le (fun i => inB (tiles K l) (i : Int)) 1114112
  have e1 : sumP ((tiles K l).map rowT) = sz (tiles K l) := by
    unfold sumP
    rw [List.map_map]
    exact rows_prod (tiles K l) (tiles_tile l K hK)
  unfold spoolref08_Count.f
  refine c_l0 _ (rows_Rw l K hK) (by rw [List.length_map]; omega) (len (lessG l)) ?_ ((tiles K l).map rowT).length 0 k 0 (by omega) ?_ (Int.le_refl _) (by rw [List.length_map]; omega)
  · rw [← tiles_sz l K hK, hz]; omega
  · rw [List.drop_zero, e1, tiles_sz l K hK]; omega
theorem Points_f (l : List S35) (hl : l.length ≤ 20) (k : Nat) (hk : 1000 ≤ k) : spoolref08_Points.f k l = some (len (lessG l)) := by
  unfold spoolref08_Points.f
  have hs : setL (holdsL 4 l [gapR]) (l ++ [gapR]) = lessG l := set_less l [gapR]
  have hn := lessG_len l
  rw [show ([(⟨55296, 57343⟩ : S35)] : List S35) = [gapR] from rfl, Set_f 4 l [gapR] (by omega) (by simp) k (by simp; omega), Option.bind_some, hs, RCount_f (lessG l) (by omega) k (by omega), Option.bind_some, ofL_self (lessG_St l)]
/-! ### the least text -/
theorem Least_l0 (r : List S35) (hr : ∀ x ∈ r, 0 ≤ x.f0 ∧ x.f0 ≤ 255) (hl : r.length ≤ 4) : ∀ (d k j : Nat) (s : ByteArray), r.length = j + d → d < k → s.size ≤ 1000 + j → ∃ b, spoolref08_Least.l0 k r s (j : Int) = some b ∧ L b = L s ++ (r.drop j).map S35.f0 := by
  intro d
  induction d with
  | zero =>
    intro k j s h1 h2 h3
    obtain ⟨k, rfl⟩ : ∃ k', k = k' + 1 := ⟨k - 1, by omega⟩
    exact ⟨s, by rw [spoolref08_Least.l0, if_neg (by omega)], by rw [List.drop_of_length_le (by omega)]; simp⟩
  | succ d ih =>
    intro k j s h1 h2 h3
    obtain ⟨k, rfl⟩ : ∃ k', k = k' + 1 := ⟨k - 1, by omega⟩
    have hd : r.drop j = rd_T35 r (j : Int) :: r.drop (j + 1) := drop_G r j (by omega)
    have hx := hr (rd_T35 r (j : Int)) (List.mem_of_mem_drop (by rw [hd]; exact List.mem_cons_self ..))
    have e : ([(rd_T35 r (j : Int)).f0 % 256] : List Int) = [(rd_T35 r (j : Int)).f0] := by rw [show (rd_T35 r (j : Int)).f0 % 256 = (rd_T35 r (j : Int)).f0 by omega]
    have hL1 : L (strOfNums [(rd_T35 r (j : Int)).f0]) = [(rd_T35 r (j : Int)).f0] := L_nums _ (fun x hx' => by rw [List.mem_singleton.1 hx']; omega)
    have hz : (strOfNums [(rd_T35 r (j : Int)).f0]).size = 1 := by rw [← L_len, hL1]; rfl
    have hz2 : (s ++ strOfNums [(rd_T35 r (j : Int)).f0]).size = s.size + 1 := by rw [← L_len, L_append, List.length_append, L_len, hL1]; rfl
    obtain ⟨b, b1, b2⟩ := ih k (j + 1) (s ++ strOfNums [(rd_T35 r (j : Int)).f0]) (by omega) (by omega) (by omega)
    refine ⟨b, ?_, ?_⟩
    · rw [spoolref08_Least.l0, if_pos (by omega), if_pos (by omega), e, Option.bind_some, if_pos (by rw [hz]; omega), wj' j (by omega)]
      exact b1
    · rw [b2, L_append, hL1, hd, List.map_cons, List.append_assoc]
      rfl
theorem Least_f (r : List S35) (hr : Rw r) (k : Nat) (hk : 5 ≤ k) : ∃ b, spoolref08_Least.f k r = some b ∧ L b = r.map S35.f0 := by
  obtain ⟨b, b1, b2⟩ := Least_l0 r (fun x hx => by have := hr.2.2 x hx; omega) hr.2.1 r.length k 0 (⟨#[]⟩ : ByteArray) (by omega) (by have := hr.2.1; omega) (by decide)
  exact ⟨b, b1, by rw [b2]; rfl⟩
theorem less_lex : ∀ x y : List UInt8, Op.bytesLess x y = lexI (x.map fun b => (b.toNat : Int)) (y.map fun b => (b.toNat : Int)) := by
  intro x
  induction x with
  | nil => intro y; cases y <;> rfl
  | cons a x ih =>
    intro y
    cases y with
    | nil => rfl
    | cons b y =>
      rw [Op.bytesLess, List.map_cons, List.map_cons, lexI, ih y]
      congr 1
      · rw [decide_eq_decide, UInt8.lt_iff_toNat_lt]; omega
      · congr 1
        rw [Bool.eq_iff_iff, beq_iff_eq, decide_eq_true_iff]
        constructor
        · rintro rfl; rfl
        · intro h; exact UInt8.toNat_inj.1 (by omega)
theorem less_L (a b : ByteArray) : Op.bytesLess a.toList b.toList = lexI (L a) (L b) := by
  rw [less_lex, ByteArray.toList_eq, ByteArray.toList_eq]
  rfl
end Go.Proofs.YtedoopnjhpbjfaaDoor.PfN
