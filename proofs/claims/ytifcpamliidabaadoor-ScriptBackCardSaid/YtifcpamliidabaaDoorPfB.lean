/- Items' lines are read back as the items; what is read may be told. -/
import Derived.Test.YtifcpamliidabaaDoorPfX
import Derived.Test.YtifcpamliidabaaDoorPfP
set_option linter.unusedSimpArgs false
set_option linter.unusedVariables false
namespace Go.Proofs.YtifcpamliidabaaDoor.PfB
open Go.RowKit Go.Proofs.YtifcpamliidabaaDoor.PS Go.Proofs.YtifcpamliidabaaDoorW.PrintWords Go.Proofs.YtifcpamliidabaaDoorW.PrintLast Go.Proofs.YtifcpamliidabaaDoor.PlD Go.Proofs.YtifcpamliidabaaDoor.PfD Go.Proofs.YtifcpamliidabaaDoor.PfU Go.Proofs.YtifcpamliidabaaDoor.Pl Go.Proofs.YtifcpamliidabaaDoor.PfW Go.Proofs.YtifcpamliidabaaDoor.PfO Go.Proofs.YtifcpamliidabaaDoor.PfQ Go.Proofs.YtifcpamliidabaaDoor.PfR Go.Proofs.YtifcpamliidabaaDoor.PfV Go.Proofs.YtifcpamliidabaaDoor.PfX Go.Proofs.YtifcpamliidabaaDoor.PfP Go.Proofs.YtifcpamliidabaaDoor.HandKind Go.Proofs.YtifcpamliidabaaDoor.HandQuote Go.Proofs.YtifcpamliidabaaDoor.HandRd Go.Proofs.YtifcpamliidabaaDoor.HandOpM Go.Proofs.YtifcpamliidabaaDoor.HandItem Go.Proofs.YtifcpamliidabaaDoor.HandLine Go.Proofs.YtifcpamliidabaaDoor.HandParse
/-! ### words -/
def Ends (post : List Int) : Prop := post = [] ∨ ∃ q, post = 32 :: q
theorem word_here (t : ByteArray) (pre w post : List Int) (i : Nat) (hL : L t = pre ++ (w ++ post)) (hi : i = pre.length) (hw : w ≠ []) (hnb : ∀ c ∈ w, bl c = false) (hp : Ends post) :
    fromW t i = i ∧ toW t i = i + w.length ∧ L (t.extract i (i + w.length)) = w := by
  have hlen := L_len t
  rw [hL] at hlen
  simp only [List.length_append] at hlen
  obtain ⟨c, w', rfl⟩ : ∃ c w', w = c :: w' := by
    cases w with
    | nil => exact absurd rfl hw
    | cons c w' => exact ⟨c, w', rfl⟩
  have b0 := bt_L t pre (w' ++ post) c i (by rw [hL]; simp) hi
  have h1 : fromW t i = i := fromW_here (by simp only [List.length_cons] at hlen; omega) (by rw [b0]; exact hnb c (by simp))
  refine ⟨h1, ?_, ?_⟩
  · unfold toW
    rw [h1]
    refine run_eq nb t i (i + (c :: w').length) (by omega) (by omega) (fun k g1 g2 => ?_) (fun hlt => ?_)
    · exact nb_of (hnb _ (bt_mid t pre (c :: w') post k hL (by omega) (by omega)))
    · rcases hp with rfl | ⟨q, rfl⟩
      · simp only [List.length_nil] at hlen; omega
      · have := bt_L t (pre ++ (c :: w')) q 32 (i + (c :: w').length) (by rw [hL]; simp) (by simp [hi])
        rw [this]
        rfl
  · rw [L_sub, hL, List.take_append, List.drop_append]
    simp [hi]
theorem word_next (t : ByteArray) (pre w post : List Int) (i : Nat) (hL : L t = pre ++ 32 :: (w ++ post)) (hi : i = pre.length) (hw : w ≠ []) (hnb : ∀ c ∈ w, bl c = false) (hp : Ends post) :
    fromW t i = i + 1 ∧ toW t i = i + 1 + w.length ∧ L (t.extract (i + 1) (i + 1 + w.length)) = w := by
  obtain ⟨g1, g2, g3⟩ := word_here t (pre ++ [32]) w post (i + 1) (by rw [hL]; simp) (by simp [hi]) hw hnb hp
  obtain ⟨c, w', rfl⟩ : ∃ c w', w = c :: w' := by
    cases w with
    | nil => exact absurd rfl hw
    | cons c w' => exact ⟨c, w', rfl⟩
  have h1 := from_at t pre (w' ++ post) c i (by rw [hL]; simp) hi (hnb c (by simp))
  refine ⟨h1, ?_, g3⟩
  unfold toW at g2 ⊢
  rw [g1] at g2
  rw [h1, g2]
theorem num_back (t : ByteArray) (pre post : List Int) (n : Int) (h0 : 0 ≤ n) (h9 : n ≤ 999999999) (i : Nat) (hi : i = pre.length) (hL : L t = pre ++ 32 :: (textN n.toNat ++ post)) (hp : Ends post) (hs : t.size ≤ 140737488351232) (K : Nat) (hK : 5 * t.size + 60 ≤ K) (hit : i ≤ t.size) :
    numberF K t (i : Int) 0 0 = some (n, ((i + 1 + (textN n.toNat).length : Nat) : Int), 0, 0) := by
  obtain ⟨q1, q2, q3⟩ := word_next t pre (textN n.toNat) post i hL hi (textN_ne _) (digs_nb _) hp
  unfold numberF
  rw [word_f t hs i hit K (by omega), Option.bind_some]
  simp only
  have e3 : L (t.extract (fromW t i) (toW t i)) = textN n.toNat := by rw [q1, q2]; exact q3
  have hz : (t.extract (fromW t i) (toW t i)).size ≤ t.size := by
    have := toW_le t i hit
    simp
    omega
  rw [Parse_f _ (by omega) K (by omega), e3, parseL_text n.toNat (by omega), Option.bind_some]
  rw [if_neg (fun e => textN_ne n.toNat (by rw [← e3]; exact L_nil.1 e))]
  simp only
  rw [if_neg (by simp), q2, show ((n.toNat : Nat) : Int) = n by omega]
theorem op_end (t : ByteArray) (pre post : List Int) (k n : Int) (d : ByteArray) (h : told k n d = true) (i : Nat) (hi : i = pre.length) (hL : L t = pre ++ 32 :: (opL k n d ++ post)) (hp : Ends post) (hs : t.size ≤ 140737488351232) (K : Nat) (hK : 5 * t.size + 60 ≤ K) :
    opF K t (i : Int) 0 0 = some (k, n, d, ((i + 1 + (opL k n d).length : Nat) : Int), 0, 0) := by
  have hlen := L_len t
  rw [hL] at hlen
  simp only [List.length_append, List.length_cons] at hlen
  unfold told at h
  simp only [Bool.and_eq_true, decide_eq_true_eq] at h
  obtain ⟨⟨h1, h9⟩, h2⟩ := h
  obtain ⟨z1, z2, z3, z4⟩ := name_size k h1 h9
  have k0 : ¬ k = 0 := by omega
  unfold opF
  rw [word_f t hs i (by omega) K (by omega), Option.bind_some]
  simp only
  unfold opL at hL hlen ⊢
  by_cases k1 : k = 1
  · rw [if_pos k1] at hL hlen ⊢
    subst k1
    obtain ⟨g1, g2, g3⟩ := word_next t pre (nameL 1) (32 :: (quoteN d ++ post)) i (by rw [hL]; simp) hi z2 z3 (.inr ⟨_, rfl⟩)
    have e1 : t.extract (fromW t i) (toW t i) = rdOf ByteArray.empty tab_script_names 1 := of_L (by rw [g1, g2, g3]; rfl)
    rw [e1, z4, if_neg (by decide), if_pos rfl]
    have hto : toW t i ≤ t.size := toW_le t i (by omega)
    have hf : fromW t (toW t i) = toW t i + 1 := from_at t (pre ++ 32 :: nameL 1) ((L d).flatMap quoteB ++ [34] ++ post) 34 (toW t i) (by rw [hL]; simp [quoteN]) (by rw [g2]; simp [hi]; omega) rfl
    have hu := unqF_back t d (pre ++ 32 :: (nameL 1 ++ [32])) post (toW t i + 1) (by rw [hL]; simp) (by rw [g2]; simp [hi]; omega)
    unfold dataF
    rw [next_f t hs (toW t i) hto K (by omega) _ (by unfold mn mx; repeat' split <;> omega), Option.bind_some, hf]
    simp only
    rw [Unquote_f t hs (toW t i + 1) (by rw [g2]; simp only [List.length_append, List.length_cons] at hlen; omega) K (by omega), Option.bind_some, hu]
    unfold asP
    rw [if_pos (show (-1 : Int) < 0 by decide)]
    simp only
    rw [if_pos trivial, str_L, Option.bind_some, g2]
    simp only at h2
    have hn : n = 0 := by
      have : numd 1 = false := rfl
      rw [this] at h2
      simp at h2
      exact h2
    rw [hn]
    simp
    omega
  · rw [if_neg k1] at hL hlen ⊢
    cases hn : numd k with
    | true =>
      rw [hn] at h2 hL hlen
      simp only [if_true, Bool.and_eq_true, decide_eq_true_eq] at h2 hL hlen
      rw [if_pos rfl]
      obtain ⟨g1, g2, g3⟩ := word_next t pre (nameL k) (32 :: (textN n.toNat ++ post)) i (by rw [hL]; simp) hi z2 z3 (.inr ⟨_, rfl⟩)
      have e1 : t.extract (fromW t i) (toW t i) = rdOf ByteArray.empty tab_script_names k := of_L (by rw [g1, g2, g3]; rfl)
      have hto : toW t i ≤ t.size := toW_le t i (by omega)
      rw [e1, z4, if_neg k0, if_neg k1, numd_f, hn, Option.bind_some, if_pos rfl]
      rw [num_back t (pre ++ 32 :: nameL k) post n h2.1.1 h2.1.2 (toW t i) (by rw [g2]; simp [hi]; omega) (by rw [hL]; simp) hp hs K hK hto, Option.bind_some, empty_of h2.2, g2]
      simp
      omega
    | false =>
      rw [hn] at h2 hL hlen
      simp only [Bool.false_eq_true, if_false, Bool.and_eq_true, beq_iff_eq, Bool.or_eq_true, decide_eq_true_eq] at h2 hL hlen
      rw [if_neg Bool.false_ne_true]
      obtain ⟨g1, g2, g3⟩ := word_next t pre (nameL k) post i hL hi z2 z3 hp
      have e1 : t.extract (fromW t i) (toW t i) = rdOf ByteArray.empty tab_script_names k := of_L (by rw [g1, g2, g3]; rfl)
      rw [e1, z4, if_neg k0, if_neg k1, numd_f, hn, Option.bind_some, if_neg Bool.false_ne_true, empty_of (h2.2.resolve_left k1), h2.1, g2]
/-! ### an item -/
def bodyL (h c a b : Int) (d : ByteArray) : List Int := headL h ++ ((if h = 1 ∨ h = 2 then 32 :: textN c.toNat else []) ++ (if told a b d then 32 :: opL a b d else []))
theorem line_body (h c a b : Int) (d : ByteArray) : lineL h c a b d = bodyL h c a b d ++ [10] := by unfold lineL bodyL; simp only [List.append_assoc]
theorem head_at (h : Int) (h1 : 1 ≤ h) (h5 : h ≤ 5) : headL h ≠ [] ∧ (∀ c ∈ headL h, bl c = false) ∧ headF (rdOf ByteArray.empty tab_script_heads h) = h := by
  have key : ∀ j : Fin 5, headL ((j.val + 1 : Nat) : Int) ≠ [] ∧ (∀ c ∈ headL ((j.val + 1 : Nat) : Int), bl c = false) ∧ headF (rdOf ByteArray.empty tab_script_heads ((j.val + 1 : Nat) : Int)) = ((j.val + 1 : Nat) : Int) := by decide +kernel
  have := key ⟨(h - 1).toNat, by omega⟩
  rwa [show (((h - 1).toNat + 1 : Nat) : Int) = h by omega] at this
theorem last_word (y : ByteArray) (hs : y.size ≤ 140737488351232) (K : Nat) (hK : 5 * y.size + 60 ≤ K) : ∃ w, wordF K y (y.size : Int) = some (w, (y.size : Int), (y.size : Int)) ∧ w.toList = ([] : List UInt8) := by
  have h1 : fromW y y.size = y.size := run_end (Nat.le_refl _)
  have h2 : toW y y.size = y.size := by unfold toW; rw [h1]; exact run_end (Nat.le_refl _)
  refine ⟨_, ?_, (word_nil y y.size y.size (Nat.le_refl _) (Nat.le_refl _)).2 rfl⟩
  rw [word_f y hs y.size (Nat.le_refl _) K (by omega), h1, h2]
theorem none3_out {a b : Int} {d : ByteArray} (h : none3 a b d = true) : a = 0 ∧ b = 0 ∧ d = ⟨#[]⟩ := by
  unfold none3 at h
  simp only [Bool.and_eq_true, beq_iff_eq] at h
  exact ⟨h.1, h.2.1, empty_of (by rw [← L_len, L_nil.1 h.2.2]; rfl)⟩
theorem item_back (y : ByteArray) (hs : y.size ≤ 140737488351232) (h c a b : Int) (d : ByteArray) (hr : rightI h c a b d = true) (hL : L y = bodyL h c a b d) (K : Nat) (hK : 5 * y.size + 60 ≤ K) :
    itemF K y 0 0 0 = some (h, c, a, b, d, true, (y.size : Int), 0, 0) := by
  obtain ⟨c1, c2, c3, c4, c5, c6, c7⟩ := right_cases _ _ _ _ _ hr
  obtain ⟨z1, z2, z3⟩ := head_at h c1 c2
  have hlen := L_len y
  rw [hL] at hlen
  unfold bodyL at hL hlen
  have hE : Ends ((if h = 1 ∨ h = 2 then 32 :: textN c.toNat else []) ++ (if told a b d then 32 :: opL a b d else [])) := by
    split
    · exact .inr ⟨_, rfl⟩
    · split
      · exact .inr ⟨_, rfl⟩
      · exact .inl rfl
  obtain ⟨g1, g2, g3⟩ := word_here y [] (headL h) _ 0 (by rw [hL]; rfl) rfl z1 z2 hE
  rw [Nat.zero_add] at g2 g3
  have hW : wordF K y 0 = some (y.extract (fromW y 0) (toW y 0), (fromW y 0 : Int), (toW y 0 : Int)) := word_f y hs 0 (by omega) K (by omega)
  have e1 : y.extract (fromW y 0) (toW y 0) = rdOf ByteArray.empty tab_script_heads h := of_L (by rw [g1, g2]; exact g3)
  have hne : ¬ (rdOf ByteArray.empty tab_script_heads h).toList = ([] : List UInt8) := fun e => z1 (L_nil.1 e)
  obtain ⟨w, l1, l2⟩ := last_word y hs K hK
  unfold itemF
  rw [hW, Option.bind_some]
  simp only
  rw [e1, if_neg hne, z3, g2]
  unfold midF
  rw [if_neg (show ¬ h = 0 by omega)]
  by_cases k1 : h = 1
  · rw [if_pos k1]
    have ht := c5 k1
    rw [ht, if_pos (Or.inl k1), if_pos rfl] at hL hlen
    simp only [List.length_append, List.length_cons] at hlen
    rw [num_back y (headL h) (32 :: opL a b d) c c3 c4 (headL h).length rfl (by rw [hL]; simp) (.inr ⟨_, rfl⟩) hs K hK (by omega)]
    simp only [Option.bind_some]
    rw [op_end y (headL h ++ 32 :: textN c.toNat) [] a b d ht ((headL h).length + 1 + (textN c.toNat).length) (by simp; omega) (by rw [hL]; simp) (.inl rfl) hs K hK]
    simp only [Option.bind_some]
    rw [show (headL h).length + 1 + (textN c.toNat).length + 1 + (opL a b d).length = y.size by omega, l1, Option.bind_some]
    simp only
    rw [if_pos l2]
  · rw [if_neg k1]
    have hT := told_none _ _ _ (c6 k1)
    obtain ⟨q1, q2, q3⟩ := none3_out (c6 k1)
    by_cases k2 : h = 2
    · rw [if_pos k2]
      rw [hT, if_pos (Or.inr k2), if_neg Bool.false_ne_true] at hL hlen
      simp only [List.length_append, List.length_cons, List.length_nil] at hlen
      rw [num_back y (headL h) [] c c3 c4 (headL h).length rfl (by rw [hL]; simp) (.inl rfl) hs K hK (by omega)]
      simp only [Option.bind_some]
      rw [show (headL h).length + 1 + (textN c.toNat).length = y.size by omega, l1, Option.bind_some]
      simp only
      rw [if_pos l2, q1, q2, q3]
    · rw [if_neg k2]
      rw [hT, if_neg (show ¬ (h = 1 ∨ h = 2) by omega), if_neg Bool.false_ne_true] at hL hlen
      simp only [List.length_append, List.length_nil] at hlen
      simp only [Option.bind_some]
      rw [show (headL h).length = y.size by omega, l1, Option.bind_some]
      simp only
      rw [if_pos l2, q1, q2, q3, c7 (by omega)]
theorem body_ne (h c a b : Int) (d : ByteArray) (hr : rightI h c a b d = true) : ∀ x ∈ bodyL h c a b d, x ≠ 10 := by
  obtain ⟨c1, c2, _⟩ := right_cases _ _ _ _ _ hr
  have hdig : ∀ n x, x ∈ textN n → x ≠ 10 := fun n x hx => by have := textN_dig n x hx; unfold dig at this; omega
  have hhead : ∀ x ∈ headL h, x ≠ 10 := by
    have key : ∀ j : Fin 5, ∀ x ∈ headL ((j.val + 1 : Nat) : Int), x ≠ 10 := by decide +kernel
    have := key ⟨(h - 1).toNat, by omega⟩
    rwa [show (((h - 1).toNat + 1 : Nat) : Int) = h by omega] at this
  have hname : ∀ k : Int, 1 ≤ k → k ≤ 9 → ∀ x ∈ nameL k, x ≠ 10 := by
    intro k h1 h9
    have key : ∀ j : Fin 9, ∀ x ∈ nameL ((j.val + 1 : Nat) : Int), x ≠ 10 := by decide +kernel
    have := key ⟨(k - 1).toNat, by omega⟩
    rwa [show (((k - 1).toNat + 1 : Nat) : Int) = k by omega] at this
  intro x hx
  unfold bodyL at hx
  rcases List.mem_append.1 hx with e | e
  · exact hhead x e
  · rcases List.mem_append.1 e with e | e
    · split at e
      · rcases List.mem_cons.1 e with e | e
        · omega
        · exact hdig _ x e
      · cases e
    · split at e
      · rename_i ht
        unfold told at ht
        simp only [Bool.and_eq_true, decide_eq_true_eq] at ht
        rcases List.mem_cons.1 e with e | e
        · omega
        · unfold opL at e
          split at e
          · rcases List.mem_append.1 e with e | e
            · exact hname 1 (by decide) (by decide) x e
            · rcases List.mem_cons.1 e with e | e
              · omega
              · have := quoteN_range _ x e; omega
          · split at e
            · rcases List.mem_append.1 e with e | e
              · exact hname a ht.1.1 ht.1.2 x e
              · rcases List.mem_cons.1 e with e | e
                · omega
                · exact hdig _ x e
            · exact hname a ht.1.1 ht.1.2 x e
      · cases e
theorem item_none (y : ByteArray) (hz : y.size = 0) (K : Nat) (hK : 60 ≤ K) : ∃ t, itemF K y 0 0 0 = some (0, 0, 0, 0, ⟨#[]⟩, false, t, 0, 0) := by
  have hW : wordF K y 0 = some (y.extract (fromW y 0) (toW y 0), (fromW y 0 : Int), (toW y 0 : Int)) := word_f y (by omega) 0 (by omega) K (by omega)
  have h1 : fromW y 0 = 0 := run_end (by omega)
  have h2 : toW y 0 = 0 := by unfold toW; rw [h1]; exact run_end (by omega)
  unfold itemF
  rw [hW, Option.bind_some]
  simp only
  rw [if_pos ((word_nil y _ _ (by omega) (by omega)).2 (by omega))]
  exact ⟨_, rfl⟩
/-! ### all lines -/
theorem fold_back (t : ByteArray) (ht : t.size ≤ 65536) (K : Nat) (hK : 5 * t.size + 60 ≤ K) : ∀ (l : List S51) (d i : Nat) (acc : List S51) (pre : List Int), (∀ x ∈ l, rightX x = true) → L t = pre ++ lin l → i = pre.length → t.size < i + d → acc.length + l.length ≤ 900000 →
    foldF K (linesN t d i) acc = some (acc ++ l, 0, 0) := by
  intro l
  induction l with
  | nil =>
    intro d i acc pre hr hL hi hd ha
    have hlen := L_len t
    rw [hL] at hlen
    simp only [lin, List.flatMap_nil, List.append_nil] at hlen
    obtain ⟨d, rfl⟩ : ∃ m, d = m + 1 := ⟨d - 1, by omega⟩
    simp only [linesN]
    have hn : nlF (t.extract i t.size) < 0 := by
      rcases nl_run t i (by omega) with ⟨q, _⟩ | ⟨_, _, q⟩
      · exact q
      · have := run_ge nn t i
        omega
    obtain ⟨q, hq⟩ := item_none (t.extract i t.size) (by simp; omega) K (by omega)
    rw [if_pos hn, foldF, hq, Option.bind_some]
    simp only
    rw [if_neg (by simp), if_pos (by simp only [List.length_nil] at ha; omega), if_neg Bool.false_ne_true, foldF, List.append_nil]
  | cons x l ih =>
    intro d i acc pre hr hL hi hd ha
    have hx := hr x (List.mem_cons_self ..)
    have hbody : lin (x :: l) = bodyL x.f0 x.f1 x.f2.f0 x.f2.f1 x.f2.f2 ++ (10 :: lin l) := by
      unfold lin
      rw [List.flatMap_cons]
      unfold lineI
      rw [line_body]
      simp
    rw [hbody] at hL
    have hlen := L_len t
    rw [hL] at hlen
    simp only [List.length_append, List.length_cons] at hlen ha
    obtain ⟨d, rfl⟩ : ∃ m, d = m + 1 := ⟨d - 1, by omega⟩
    have hne := body_ne _ _ _ _ _ hx
    have hit := fun (y : ByteArray) hs hy hK => item_back y hs x.f0 x.f1 x.f2.f0 x.f2.f1 x.f2.f2 hx hy K hK
    generalize bodyL x.f0 x.f1 x.f2.f0 x.f2.f1 x.f2.f2 = B at *
    have hrun : run nn t i = i + B.length := by
      refine run_eq nn t i (i + B.length) (by omega) (by omega) (fun k g1 g2 => ?_) (fun _ => ?_)
      · exact bne_iff_ne.mpr (hne _ (bt_mid t pre B (10 :: lin l) k hL (by omega) (by omega)))
      · have := bt_L t (pre ++ B) (lin l) 10 (i + B.length) (by rw [hL]; simp) (by simp [hi])
        unfold nn
        rw [this]
        rfl
    have hn : ¬ nlF (t.extract i t.size) < 0 ∧ (nlF (t.extract i t.size)).toNat = B.length := by
      rcases nl_run t i (by omega) with ⟨_, q⟩ | ⟨q1, q2, _⟩
      · omega
      · exact ⟨by omega, by omega⟩
    have hy : L (t.extract i (i + B.length)) = B := by
      rw [L_sub, hL, List.take_append, List.drop_append]
      simp [hi]
    have hys : (t.extract i (i + B.length)).size = B.length := by rw [← L_len, hy]
    simp only [linesN]
    rw [if_neg hn.1, hn.2, foldF, hit (t.extract i (i + B.length)) (by omega) hy (by omega), Option.bind_some]
    simp only
    rw [if_neg (by simp), if_pos (by omega), if_pos trivial]
    have := ih d (i + B.length + 1) (acc ++ [⟨x.f0, x.f1, ⟨x.f2.f0, x.f2.f1, x.f2.f2⟩⟩]) (pre ++ (B ++ [10])) (fun y hy => hr y (List.mem_cons_of_mem _ hy)) (by rw [hL]; simp) (by simp [hi]; omega) (by omega) (by rw [List.length_append, List.length_singleton]; omega)
    rw [this, List.append_assoc]
    rfl
theorem parse_back (l : List S51) (hr : ∀ x ∈ l, rightX x = true) (hz : (lin l).length ≤ 65536) (hl : l.length ≤ 900000) (K : Nat) (hK : 400000 ≤ K) : script_Parse.f K (strOfNums (lin l)) = some (l, 0, 0) := by
  have hL : L (strOfNums (lin l)) = lin l := L_nums _ (lin_byte l)
  have hs : (strOfNums (lin l)).size = (lin l).length := by rw [← L_len, hL]
  unfold script_Parse.f linesU
  rw [if_pos (by omega)]
  have := fold_back (strOfNums (lin l)) (by omega) K (by omega) l ((strOfNums (lin l)).size + 1) 0 [] [] hr (by rw [hL]; rfl) rfl (by omega) (by simpa using hl)
  rw [this]
  rfl
/-! ### what is read may be told -/
theorem findL_le (s : ByteArray) : ∀ (l : List ByteArray) (i : Nat), findL l i s = 0 ∨ (0 < findL l i s ∧ findL l i s < i + l.length)
  | [], i => .inl rfl
  | x :: l, i => by
    unfold findL
    split
    · rename_i h
      exact .inr ⟨h.1, by simp⟩
    · rcases findL_le s l (i + 1) with h | ⟨h1, h2⟩
      · exact .inl h
      · exact .inr ⟨h1, by simp only [List.length_cons]; omega⟩
theorem kind_range (s : ByteArray) : kindF s = 0 ∨ (1 ≤ kindF s ∧ kindF s ≤ 9) := by
  have h := findL_le s tab_script_names 0
  have e : tab_script_names.length = 10 := rfl
  unfold kindF
  omega
theorem head_range (s : ByteArray) : headF s = 0 ∨ (1 ≤ headF s ∧ headF s ≤ 5) := by
  have h := findL_le s tab_script_heads 0
  have e : tab_script_heads.length = 6 := rfl
  unfold headF
  omega
/-- A place of a text. -/
def In (s : ByteArray) (A : Int) : Prop := 0 ≤ A ∧ A ≤ (s.size : Int)
theorem wrong_ne (e ea x y : Int) (hx : x ≠ 0) : (wrongF e ea x y).1 ≠ 0 := by
  unfold wrongF
  split
  · exact hx
  · assumption
theorem wrong_in (s : ByteArray) (e ea x y : Int) (h1 : In s ea) (h2 : In s y) : In s (wrongF e ea x y).2 := by
  unfold wrongF
  split
  · exact h2
  · exact h1
theorem num_spec (s : ByteArray) (hs : s.size ≤ 140737488351232) (i : Nat) (hi : i ≤ s.size) (K : Nat) (hK : 5 * s.size + 60 ≤ K) (e ea : Int) (hea : In s ea) :
    ∃ (n e' A : Int) (t : Nat), numberF K s (i : Int) e ea = some (n, (t : Int), e', A) ∧ t ≤ s.size ∧ In s A ∧ (e' = 0 → e = 0 ∧ 0 ≤ n ∧ n ≤ 999999999) := by
  have h1 := toW_le s i hi
  have h2 := toW_ge s i
  unfold numberF
  rw [word_f s hs i hi K (by omega), Option.bind_some]
  simp only
  have hsz : (s.extract (fromW s i) (toW s i)).size ≤ s.size := by simp; omega
  rw [Parse_f _ (by omega) K (by omega), Option.bind_some]
  have hin : In s (fromW s i : Int) := ⟨by omega, by omega⟩
  by_cases c1 : (s.extract (fromW s i) (toW s i)).toList = ([] : List UInt8)
  · rw [if_pos c1]
    exact ⟨_, _, _, _, rfl, h1, wrong_in s _ _ _ _ hea hin, fun h => absurd h (wrong_ne _ _ _ _ (by decide))⟩
  · rw [if_neg c1]
    cases hp : (parseL (L (s.extract (fromW s i) (toW s i)))).2 with
    | false =>
      rw [if_pos rfl]
      exact ⟨_, _, _, _, rfl, h1, wrong_in s _ _ _ _ hea hin, fun h => absurd h (wrong_ne _ _ _ _ (by decide))⟩
    | true =>
      rw [if_neg (by simp)]
      obtain ⟨b1, b2, _⟩ := parseL_back _ hp
      exact ⟨_, _, _, _, rfl, h1, hea, fun h => ⟨h, b1, b2⟩⟩
theorem unqN_len (s : ByteArray) (d : Nat) : ∀ (acc : List Int) (i : Nat), i ≤ s.size → acc.length ≤ i → (unqN s d acc i).1.length ≤ s.size := by
  induction d with
  | zero => intro acc i _ _; simp [unqN]
  | succ d ih =>
    intro acc i hi ha
    unfold unqN
    split
    · split
      · simp only; omega
      · split
        · split
          · simp
          · rcases esc_le s i with h | ⟨h3, h4⟩
            · contradiction
            · exact ih _ _ h4 (by rw [List.length_append, List.length_singleton]; omega)
        · split
          · simp
          · exact ih _ _ (by omega) (by rw [List.length_append, List.length_singleton]; omega)
    · simp
theorem unqF_len (s : ByteArray) (i : Nat) (hi : i ≤ s.size) : (unqF s i).1.length ≤ s.size := by
  unfold unqF
  split
  · simp
  · rename_i h
    exact unqN_len s _ _ _ (by omega) (by simp)
theorem strOf_size (l : List Int) : (strOfNums l).size = l.length := by
  have : (strOfNums l).data.toList.length = l.length := by rw [strOfNums_data, List.length_map]
  rw [Array.length_toList] at this
  exact this
theorem op_spec (s : ByteArray) (hs : s.size ≤ 140737488351232) (i : Nat) (hi : i ≤ s.size) (K : Nat) (hK : 5 * s.size + 60 ≤ K) (e ea : Int) (hea : In s ea) :
    ∃ (k n e' A : Int) (d : ByteArray) (t : Nat), opF K s (i : Int) e ea = some (k, n, d, (t : Int), e', A) ∧ t ≤ s.size ∧ In s A ∧ (e' = 0 → e = 0 ∧ told k n d = true ∧ d.size ≤ s.size) := by
  have h1 := toW_le s i hi
  have h2 := toW_ge s i
  have hin : In s (fromW s i : Int) := ⟨by omega, by omega⟩
  unfold opF
  rw [word_f s hs i hi K (by omega), Option.bind_some]
  simp only
  have hk := kind_range (s.extract (fromW s i) (toW s i))
  generalize kindF (s.extract (fromW s i) (toW s i)) = k at *
  by_cases k0 : k = 0
  · rw [if_pos k0]
    exact ⟨_, _, _, _, _, _, rfl, h1, wrong_in s _ _ _ _ hea hin, fun h => absurd h (wrong_ne _ _ _ _ (by decide))⟩
  · rw [if_neg k0]
    have hk9 : 1 ≤ k ∧ k ≤ 9 := by omega
    by_cases k1 : k = 1
    · rw [if_pos k1]
      have g1 := fromW_le s (toW s i) h1
      have hu := unqF_to s (fromW s (toW s i)) g1
      have hul := unqF_len s (fromW s (toW s i)) g1
      unfold dataF
      rw [next_f s hs _ h1 K (by omega) _ (by unfold mn mx; repeat' split <;> omega), Option.bind_some]
      simp only
      rw [Unquote_f s hs _ (by omega) K (by omega), Option.bind_some]
      by_cases hb : (unqF s (fromW s (toW s i))).2.2 < 0
      · obtain ⟨t, ht, ht2⟩ := hu.1 hb
        have eP : asP (unqF s (fromW s (toW s i))) = (strOfNums (unqF s (fromW s (toW s i))).1, (t : Int), 0, 0) := by unfold asP; rw [if_pos hb, ht]
        rw [eP]
        simp only
        rw [if_pos trivial, Option.bind_some]
        refine ⟨_, _, _, _, _, _, rfl, ht2, hea, fun h => ⟨h, ?_, by rw [strOf_size]; exact hul⟩⟩
        unfold told
        rw [decide_eq_true (show (1 : Int) ≤ 1 ∧ (1 : Int) ≤ 9 by decide), show numd 1 = false from rfl, decide_eq_true (rfl : (1 : Int) = 1)]
        rfl
      · have eP : asP (unqF s (fromW s (toW s i))) = (⟨#[]⟩, 0, 3, (unqF s (fromW s (toW s i))).2.2) := by unfold asP; rw [if_neg hb]
        rw [eP]
        simp only
        rw [if_neg (by decide), Option.bind_some]
        exact ⟨_, _, _, _, _, _, rfl, h1, wrong_in s _ _ _ _ hea ⟨by omega, hu.2⟩, fun h => absurd h (wrong_ne _ _ _ _ (by decide))⟩
    · rw [if_neg k1, numd_f, Option.bind_some]
      cases hn : numd k with
      | true =>
        rw [if_pos rfl]
        obtain ⟨n, e', A, t, q1, q2, q3, q4⟩ := num_spec s hs (toW s i) h1 K hK e ea hea
        rw [q1, Option.bind_some]
        refine ⟨_, _, _, _, _, _, rfl, q2, q3, fun h => ⟨(q4 h).1, ?_, Nat.zero_le _⟩⟩
        obtain ⟨_, v1, v2⟩ := q4 h
        unfold told
        rw [decide_eq_true hk9, hn, if_pos rfl, decide_eq_true (⟨v1, v2⟩ : 0 ≤ n ∧ n ≤ 999999999)]
        rfl
      | false =>
        rw [if_neg Bool.false_ne_true]
        refine ⟨_, _, _, _, _, _, rfl, h1, hea, fun h => ⟨h, ?_, Nat.zero_le _⟩⟩
        unfold told
        rw [decide_eq_true hk9, hn, if_neg Bool.false_ne_true]
        simp
        exact .inr rfl
theorem mid_spec (s : ByteArray) (hs : s.size ≤ 140737488351232) (h : Int) (hh : h = 0 ∨ (1 ≤ h ∧ h ≤ 5)) (a : Int) (ha : In s a) (i : Nat) (hi : i ≤ s.size) (K : Nat) (hK : 5 * s.size + 60 ≤ K) :
    ∃ (c k n e' A : Int) (d : ByteArray) (t : Nat), midF K s h a (i : Int) 0 0 = some (c, k, n, d, (t : Int), e', A) ∧ t ≤ s.size ∧ In s A ∧ (e' = 0 → rightI h c k n d = true ∧ d.size ≤ s.size) := by
  have h00 : In s 0 := ⟨by omega, by omega⟩
  unfold midF
  by_cases h0 : h = 0
  · rw [if_pos h0]
    exact ⟨_, _, _, _, _, _, _, rfl, hi, ha, fun h => absurd h (show ¬ (3 : Int) = 0 by decide)⟩
  · rw [if_neg h0]
    by_cases k1 : h = 1
    · rw [if_pos k1]
      obtain ⟨n, e1, A1, t1, q1, q2, q3, q4⟩ := num_spec s hs i hi K hK 0 0 h00
      rw [q1, Option.bind_some]
      simp only
      obtain ⟨k, m, e2, A2, d, t2, p1, p2, p3, p4⟩ := op_spec s hs t1 q2 K hK e1 A1 q3
      rw [p1, Option.bind_some]
      refine ⟨_, _, _, _, _, _, _, rfl, p2, p3, fun he => ?_⟩
      obtain ⟨u1, u2, u3⟩ := p4 he
      obtain ⟨_, v1, v2⟩ := q4 u1
      refine ⟨?_, u3⟩
      unfold rightI dec
      rw [if_pos k1, u2, decide_eq_true (⟨v1, v2⟩ : 0 ≤ n ∧ n ≤ 999999999)]
      rfl
    · rw [if_neg k1]
      by_cases k2 : h = 2
      · rw [if_pos k2]
        obtain ⟨n, e1, A1, t1, q1, q2, q3, q4⟩ := num_spec s hs i hi K hK 0 0 h00
        rw [q1, Option.bind_some]
        refine ⟨_, _, _, _, _, _, _, rfl, q2, q3, fun he => ⟨?_, Nat.zero_le _⟩⟩
        obtain ⟨_, v1, v2⟩ := q4 he
        unfold rightI dec
        rw [if_neg k1, if_pos k2, decide_eq_true (⟨v1, v2⟩ : 0 ≤ n ∧ n ≤ 999999999), show none3 0 0 ⟨#[]⟩ = true by decide +kernel]
        rfl
      · rw [if_neg k2]
        refine ⟨_, _, _, _, _, _, _, rfl, hi, h00, fun he => ⟨?_, Nat.zero_le _⟩⟩
        unfold rightI
        rw [if_neg k1, if_neg k2, if_pos (show h = 3 ∨ h = 4 ∨ h = 5 by omega), show none3 0 0 ⟨#[]⟩ = true by decide +kernel]
        rfl
theorem item_spec (s : ByteArray) (hs : s.size ≤ 140737488351232) (K : Nat) (hK : 5 * s.size + 60 ≤ K) :
    ∃ (h c k n t E A : Int) (d : ByteArray) (is : Bool), itemF K s 0 0 0 = some (h, c, k, n, d, is, t, E, A) ∧ In s A ∧ (E = 0 → is = true → rightI h c k n d = true ∧ d.size ≤ s.size) := by
  have h1 := toW_le s 0 (by omega)
  have h2 := toW_ge s 0
  have hW : wordF K s 0 = some (s.extract (fromW s 0) (toW s 0), (fromW s 0 : Int), (toW s 0 : Int)) := word_f s hs 0 (by omega) K (by omega)
  unfold itemF
  rw [hW, Option.bind_some]
  simp only
  by_cases hne : (s.extract (fromW s 0) (toW s 0)).toList = ([] : List UInt8)
  · rw [if_pos hne]
    exact ⟨_, _, _, _, _, _, _, _, _, rfl, ⟨by omega, by omega⟩, fun _ h => by cases h⟩
  · rw [if_neg hne]
    obtain ⟨c, k, n, e', A, d, t, q1, q2, q3, q4⟩ := mid_spec s hs (headF (s.extract (fromW s 0) (toW s 0))) (head_range _) (fromW s 0 : Int) ⟨by omega, by omega⟩ (toW s 0) h1 K hK
    rw [q1, Option.bind_some]
    simp only
    rw [word_f s hs t q2 K (by omega), Option.bind_some]
    have g1 := toW_le s t q2
    have g2 := toW_ge s t
    simp only
    by_cases hv : (s.extract (fromW s t) (toW s t)).toList = ([] : List UInt8)
    · rw [if_pos hv]
      exact ⟨_, _, _, _, _, _, _, _, _, rfl, q3, fun he _ => q4 he⟩
    · rw [if_neg hv]
      exact ⟨_, _, _, _, _, _, _, _, _, rfl, wrong_in s _ _ _ _ q3 ⟨by omega, by omega⟩, fun he => absurd he (wrong_ne _ _ _ _ (by decide))⟩
theorem dat_snoc (l : List S51) (x : S51) : dat (l ++ [x]) = dat l + x.f2.f2.size := by
  unfold dat
  rw [List.map_append, List.sum_append, List.map_singleton, List.sum_singleton]
theorem fold_spec (s : ByteArray) (hs : s.size ≤ 65536) (K : Nat) (hK : 5 * s.size + 60 ≤ K) (d : Nat) : ∀ (i : Nat) (acc : List S51), s.size < i + d → i ≤ s.size → acc.length ≤ i → dat acc ≤ i → (∀ x ∈ acc, rightX x = true) →
    ∃ r E A, foldF K (linesN s d i) acc = some (r, E, A) ∧ (E ≠ 0 → r = [] ∧ In s A) ∧ (E = 0 → (∀ x ∈ r, rightX x = true) ∧ r.length ≤ s.size + 1 ∧ dat r ≤ s.size) := by
  induction d with
  | zero => intro i acc h1 h2; omega
  | succ d ih =>
    intro i acc h1 hi ha hda hr
    simp only [linesN]
    -- one line's item
    have one : ∀ (y : ByteArray) (rest : List (Int × ByteArray)), i + y.size ≤ s.size → (∀ acc' : List S51, acc'.length ≤ i + 1 → dat acc' ≤ i + y.size → (∀ x ∈ acc', rightX x = true) → ∃ r E A, foldF K rest acc' = some (r, E, A) ∧ (E ≠ 0 → r = [] ∧ In s A) ∧ (E = 0 → (∀ x ∈ r, rightX x = true) ∧ r.length ≤ s.size + 1 ∧ dat r ≤ s.size)) →
        ∃ r E A, foldF K (((i : Int), y) :: rest) acc = some (r, E, A) ∧ (E ≠ 0 → r = [] ∧ In s A) ∧ (E = 0 → (∀ x ∈ r, rightX x = true) ∧ r.length ≤ s.size + 1 ∧ dat r ≤ s.size) := by
      intro y rest hy hrest
      obtain ⟨h, c, k, n, t, E, A, dd, is, p1, p2, p3⟩ := item_spec y (by omega) K (by omega)
      unfold In at p2
      rw [foldF, p1, Option.bind_some]
      simp only
      by_cases hE : E = 0
      · rw [if_neg (fun h => h hE), if_pos (by omega)]
        cases is with
        | true =>
          obtain ⟨v1, v2⟩ := p3 hE rfl
          rw [if_pos rfl]
          refine hrest _ (by rw [List.length_append, List.length_singleton]; omega) (by rw [dat_snoc]; simp only; omega) (fun x hx => ?_)
          rcases List.mem_append.1 hx with hx | hx
          · exact hr x hx
          · rw [List.mem_singleton.1 hx]; exact v1
        | false =>
          rw [if_neg Bool.false_ne_true]
          exact hrest _ (by omega) (by omega) hr
      · rw [if_pos hE, if_pos (by omega)]
        exact ⟨_, _, _, rfl, fun _ => ⟨rfl, by omega, by omega⟩, fun h => absurd h hE⟩
    rcases nl_run s i hi with ⟨q1, q2⟩ | ⟨q1, q2, q3⟩
    · rw [if_pos q1]
      refine one _ _ (by simp; omega) (fun acc' b1 b2 b3 => ⟨_, _, _, rfl, fun h => absurd rfl h, fun _ => ⟨b3, by omega, ?_⟩⟩)
      have : (s.extract i s.size).size = s.size - i := by simp
      omega
    · rw [if_neg (by omega)]
      have hz : (s.extract i (i + (nlF (s.extract i s.size)).toNat)).size = (nlF (s.extract i s.size)).toNat := by simp; omega
      refine one _ _ (by omega) (fun acc' b1 b2 b3 => ih (i + (nlF (s.extract i s.size)).toNat + 1) acc' (by omega) (by omega) (by omega) (by omega) b3)
theorem parse_spec (s : ByteArray) (hs : s.size ≤ 65536) (K : Nat) (hK : 5 * s.size + 60 ≤ K) : ∃ r E A, script_Parse.f K s = some (r, E, A) ∧ (E ≠ 0 → r = [] ∧ In s A) ∧ (E = 0 → (∀ x ∈ r, rightX x = true) ∧ r.length ≤ s.size + 1 ∧ dat r ≤ s.size) := by
  unfold script_Parse.f linesU
  rw [if_pos hs]
  exact fold_spec s hs K hK (s.size + 1) 0 [] (by omega) (by omega) (by simp) (by simp [dat]) (fun x hx => by cases hx)
end Go.Proofs.YtifcpamliidabaaDoor.PfB
