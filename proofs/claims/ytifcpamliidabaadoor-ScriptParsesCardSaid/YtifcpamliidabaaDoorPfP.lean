import Derived.Test.YtifcpamliidabaaDoorPSx11
import Derived.Test.YtifcpamliidabaaDoorPfO
import Derived.Test.YtifcpamliidabaaDoorPSx17
import Derived.Test.YtifcpamliidabaaDoorPSx18
/- The document's example holds. -/
namespace Go.Proofs.YtifcpamliidabaaDoor.PfA
open Go.RowKit Go.Proofs.YtifcpamliidabaaDoor.PS Go.Proofs.YtifcpamliidabaaDoorW.PrintWords Go.Proofs.YtifcpamliidabaaDoorW.PrintLast
set_option maxRecDepth 100000 in
theorem alive_40 : spoollaw48_alive.f 40 = some true := by decide +kernel
theorem alive_f (K : Nat) (hK : 40 ≤ K) : spoollaw48_alive.f K = some true := by
  obtain ⟨d, rfl⟩ : ∃ d, K = 40 + d := ⟨K - 40, by omega⟩
  clear hK
  induction d with
  | zero => exact alive_40
  | succ d ih => exact spoollaw48_alive.mono _ _ ih
end Go.Proofs.YtifcpamliidabaaDoor.PfA

/- What reading a text's lines tells: the program and the reference at one. -/
set_option linter.unusedSimpArgs false
set_option linter.unusedVariables false
namespace Go.Proofs.YtifcpamliidabaaDoor.PfP
open Go.RowKit Go.Proofs.YtifcpamliidabaaDoor.PS Go.Proofs.YtifcpamliidabaaDoorW.PrintWords Go.Proofs.YtifcpamliidabaaDoorW.PrintLast Go.Proofs.YtifcpamliidabaaDoor.PlD Go.Proofs.YtifcpamliidabaaDoor.PfD Go.Proofs.YtifcpamliidabaaDoor.PfU Go.Proofs.YtifcpamliidabaaDoor.Pl Go.Proofs.YtifcpamliidabaaDoor.PfW Go.Proofs.YtifcpamliidabaaDoor.HandRd Go.Proofs.YtifcpamliidabaaDoor.HandItem Go.Proofs.YtifcpamliidabaaDoor.HandParse Go.Proofs.YtifcpamliidabaaDoor.HandLine Go.Proofs.YtifcpamliidabaaDoor.PfO
def nn (c : Int) : Bool := c != 10
theorem byte_at (t : ByteArray) (k : Nat) (hk : k < t.size) : t.data.toList[k]? = some (10 : UInt8) ↔ bt t (k : Int) = 10 := by
  have h1 : k < t.data.toList.length := by simpa using hk
  rw [List.getElem?_eq_getElem h1, ← L_get]
  unfold L
  rw [List.getD_eq_getElem?_getD, List.getElem?_map, List.getElem?_eq_getElem h1]
  simp only [Option.map_some, Option.getD_some, Option.some.injEq]
  constructor
  · intro h; rw [h]; rfl
  · intro h
    have : (t.data.toList[k]).toNat = 10 := by omega
    exact UInt8.toNat_inj.1 this
/-- Where the line ends. -/
theorem nl_run (s : ByteArray) (i : Nat) (hi : i ≤ s.size) : (nlF (s.extract i s.size) < 0 ∧ run nn s i = s.size) ∨ (0 ≤ nlF (s.extract i s.size) ∧ run nn s i = i + (nlF (s.extract i s.size)).toNat ∧ run nn s i < s.size) := by
  have hz : (s.extract i s.size).size = s.size - i := by simp
  have hb : ∀ k, i + k < s.size → ((s.extract i s.size).data.toList[k]? = some (10 : UInt8) ↔ bt s ((i + k : Nat) : Int) = 10) := fun k h => by
    rw [byte_at _ _ (by rw [hz]; omega), bt_sub s i s.size k h (Nat.le_refl _)]
  rcases nlF_two (s.extract i s.size) with h | ⟨h0, h1⟩
  · left
    refine ⟨by omega, run_eq nn s i s.size hi (Nat.le_refl _) (fun k hk hk2 => ?_) (fun h => by omega)⟩
    have := Lib.indexByte_none h (k - i)
    rw [Ne, hb (k - i) (by omega), show i + (k - i) = k by omega] at this
    exact bne_iff_ne.mpr this
  · right
    obtain ⟨o, ho⟩ : ∃ o : Nat, nlF (s.extract i s.size) = (o : Int) := ⟨(nlF (s.extract i s.size)).toNat, by omega⟩
    obtain ⟨g1, g2⟩ := Lib.indexByte_some (l := (s.extract i s.size).data.toList) (c := 10) (o := o) ho
    rw [ho] at h1 ⊢
    rw [Int.toNat_natCast]
    have hlt : i + o < s.size := by omega
    have := run_eq nn s i (i + o) (by omega) (by omega) (fun k hk hk2 => by
      have := g2 (k - i) (by omega)
      rw [Ne, hb (k - i) (by omega), show i + (k - i) = k by omega] at this
      exact bne_iff_ne.mpr this) (fun h => by
      have := (hb o hlt).1 g1
      unfold nn
      rw [this]
      rfl)
    exact ⟨by omega, this, by omega⟩
theorem Parse_l1 (s : ByteArray) (hs : s.size ≤ 140737488351232) (acc : List S51) (fr : Int) (b : Nat) (d : Nat) : ∀ (K j : Nat), s.size - j ≤ d → j ≤ s.size → (run nn s j - j) + 1 + b ≤ K → ∃ K', b ≤ K' ∧ K ≤ K' + (run nn s j - j) + 1 ∧ spoolref48_Parse.l1 K s acc fr (j : Int) = spoolref48_Parse.j2 K' s acc fr (run nn s j : Int) := by
  induction d with
  | zero =>
    intro K j hd hj hK
    obtain ⟨k, rfl⟩ : ∃ m, K = m + 1 := ⟨K - 1, by omega⟩
    have he : run nn s j = j := run_end (by omega)
    simp only [spoolref48_Parse.l1]
    rw [if_neg (by omega)]
    exact ⟨k, by omega, by omega, by rw [he]⟩
  | succ d ih =>
    intro K j hd hj hK
    obtain ⟨k, rfl⟩ : ∃ m, K = m + 1 := ⟨K - 1, by omega⟩
    simp only [spoolref48_Parse.l1]
    by_cases hlt : j < s.size
    · rw [if_pos (by omega), if_pos (by omega)]
      by_cases h10 : bt s (j : Int) = 10
      · have he : run nn s j = j := run_here hlt (by unfold nn; rw [h10]; rfl)
        rw [if_pos h10]
        exact ⟨k, by omega, by omega, by rw [he]⟩
      · have he : run nn s j = run nn s (j + 1) := run_next hlt (bne_iff_ne.mpr h10)
        have hg := run_ge nn s (j + 1)
        rw [if_neg h10, PlD.wrap_in (by omega) (by omega)]
        obtain ⟨K', g1, g2, g3⟩ := ih k (j + 1) (by omega) (by omega) (by omega)
        exact ⟨K', g1, by omega, by rw [he]; exact g3⟩
    · have he : run nn s j = j := run_end (by omega)
      rw [if_neg (by omega)]
      exact ⟨k, by omega, by omega, by rw [he]⟩
set_option maxHeartbeats 1000000 in
theorem parse_eq (s : ByteArray) (hs : s.size ≤ 65536) (K2 : Nat) (hK2 : 5 * s.size + 100 ≤ K2) (d : Nat) : ∀ (K i : Nat) (acc : List S51), s.size < i + d → i ≤ s.size → acc.length ≤ i → 3 * (s.size + 1 - i) + 5 * s.size + 200 ≤ K →
    ∃ r E A, spoolref48_Parse.l0 K s acc (i : Int) = some (r, E, A) ∧ foldF K2 (linesN s d i) acc = some (r, E, A) := by
  induction d with
  | zero => intro K i acc h1 h2; omega
  | succ d ih =>
    intro K i acc h1 hi ha hK
    obtain ⟨k, rfl⟩ : ∃ m, K = m + 1 := ⟨K - 1, by omega⟩
    have hge := run_ge nn s i
    have hle := run_le nn s i hi
    obtain ⟨K', g1, g2, g3⟩ := Parse_l1 s (by omega) acc (i : Int) (3 * (s.size - run nn s i) + 5 * s.size + 200) s.size k i (by omega) hi (by omega)
    simp only [spoolref48_Parse.l0]
    rw [if_pos (by omega), g3]
    obtain ⟨k', rfl⟩ : ∃ m, K' = m + 1 := ⟨K' - 1, by omega⟩
    simp only [spoolref48_Parse.j2]
    rw [if_pos (by omega), if_pos (by omega), if_pos (by omega), Int.toNat_natCast, Int.toNat_natCast]
    have hsy : (s.extract i (run nn s i)).size = run nn s i - i := by simp; omega
    have hN : spoolref48_Next.f k' (s.extract i (run nn s i)) 0 = some ((fromW (s.extract i (run nn s i)) 0 : Int), (toW (s.extract i (run nn s i)) 0 : Int)) := rNext_f _ (by omega) 0 (by omega) k' (by omega)
    rw [hN]
    simp only [Option.bind_some]
    -- the list of lines
    have hl : ∃ rest, linesN s (d + 1) i = ((i : Int), s.extract i (run nn s i)) :: rest ∧ ((run nn s i = s.size ∧ rest = []) ∨ (run nn s i < s.size ∧ rest = linesN s d (run nn s i + 1))) := by
      simp only [linesN]
      rcases nl_run s i hi with ⟨q1, q2⟩ | ⟨q1, q2, q3⟩
      · rw [if_pos q1, q2]
        exact ⟨[], rfl, .inl ⟨rfl, rfl⟩⟩
      · rw [if_neg (by omega), ← q2]
        exact ⟨_, rfl, .inr ⟨q3, rfl⟩⟩
    obtain ⟨rest, e1, e2⟩ := hl
    rw [e1]
    -- what follows
    have hnext : ∀ (acc' : List S51), acc'.length ≤ i + 1 → ∃ r E A, spoolref48_Parse.l0 k' s acc' (wrap64 ((run nn s i : Int) + 1)) = some (r, E, A) ∧ foldF K2 rest acc' = some (r, E, A) := by
      intro acc' hacc
      rw [PlD.wrap_in (by omega) (by omega), show ((run nn s i : Int) + 1) = ((run nn s i + 1 : Nat) : Int) by omega]
      rcases e2 with ⟨e3, rfl⟩ | ⟨e3, rfl⟩
      · obtain ⟨k2, rfl⟩ : ∃ m, k' = m + 1 := ⟨k' - 1, by omega⟩
        simp only [spoolref48_Parse.l0]
        rw [if_neg (by omega)]
        exact ⟨_, _, _, rfl, rfl⟩
      · exact ih k' (run nn s i + 1) acc' (by omega) (by omega) (by omega) (by omega)
    by_cases hw : fromW (s.extract i (run nn s i)) 0 < toW (s.extract i (run nn s i)) 0
    · rw [if_pos (by omega)]
      obtain ⟨H', C', x', n', E, A, H, C, x, n, t, d', dd, p1, p2, p3, p4, p5⟩ := line_eq (s.extract i (run nn s i)) (by omega) hw k' K2 (by omega) (by omega)
      rw [p1, foldF, p2]
      simp only [Option.bind_some]
      by_cases hE : E = 0
      · obtain ⟨r1, r2, r3, r4, r5⟩ := p3 hE
        rw [if_pos hE, if_pos (by omega), if_neg (fun h => h hE), if_pos (by omega), r1, r2, r3, r4, r5]
        exact hnext _ (by simp; omega)
      · rw [if_neg hE, if_pos hE, if_pos (by omega), PlD.wrap_in (by omega) (by omega)]
        exact ⟨_, _, _, rfl, rfl⟩
    · rw [if_neg (by omega), foldF]
      have hW : wordF K2 (s.extract i (run nn s i)) 0 = some ((s.extract i (run nn s i)).extract (fromW (s.extract i (run nn s i)) 0) (toW (s.extract i (run nn s i)) 0), (fromW (s.extract i (run nn s i)) 0 : Int), (toW (s.extract i (run nn s i)) 0 : Int)) := word_f _ (by omega) 0 (by omega) K2 (by omega)
      have g := toW_ge (s.extract i (run nn s i)) 0
      have g' := toW_le (s.extract i (run nn s i)) 0 (by omega)
      unfold itemF
      rw [hW]
      simp only [Option.bind_some]
      rw [if_pos ((word_nil _ _ _ g g').2 (by omega))]
      simp only [Option.bind_some]
      rw [if_neg (by simp), if_pos (by omega)]
      exact hnext _ (by omega)
theorem parse_f (s : ByteArray) (hs : s.size ≤ 65536) (K : Nat) (hK : 9 * s.size + 300 ≤ K) : ∃ r E A, spoolref48_Parse.f K s = some (r, E, A) ∧ script_Parse.f K s = some (r, E, A) := by
  unfold spoolref48_Parse.f script_Parse.f
  rw [if_pos hs]
  exact parse_eq s hs K (by omega) (s.size + 1) K 0 [] (by omega) (by omega) (by simp) (by omega)
theorem Same_l0 (a : List S51) (ha : a.length ≤ 1000000000) (d : Nat) : ∀ (K j : Nat), a.length - j ≤ d → j ≤ a.length → d < K → spoolref48_Same.l0 K a a (j : Int) = some true := by
  induction d with
  | zero =>
    intro K j hd hj hK
    obtain ⟨k, rfl⟩ : ∃ m, K = m + 1 := ⟨K - 1, by omega⟩
    simp only [spoolref48_Same.l0]
    rw [if_neg (by omega)]
  | succ d ih =>
    intro K j hd hj hK
    obtain ⟨k, rfl⟩ : ∃ m, K = m + 1 := ⟨K - 1, by omega⟩
    simp only [spoolref48_Same.l0]
    by_cases hlt : j < a.length
    · rw [if_pos (by omega), if_pos (by omega), if_pos (by omega), if_neg (by simp), PlD.wrap_in (by omega) (by omega)]
      exact ih k (j + 1) (by omega) (by omega) (by omega)
    · rw [if_neg (by omega)]
theorem Same_f (a : List S51) (ha : a.length ≤ 1000000000) (K : Nat) (hK : a.length + 1 ≤ K) : spoolref48_Same.f K a a = some true := by
  unfold spoolref48_Same.f
  rw [if_pos rfl]
  exact Same_l0 a ha a.length K 0 (by omega) (by omega) (by omega)
theorem foldF_len (K : Nat) : ∀ (r : List (Int × ByteArray)) (acc l : List S51) (E A : Int), foldF K r acc = some (l, E, A) → acc.length ≤ 1000000 → l.length ≤ 1000000
  | [], acc, l, E, A, h, ha => by
    simp only [foldF, Option.some.injEq, Prod.mk.injEq] at h
    rw [← h.1]; exact ha
  | (x, y) :: r, acc, l, E, A, h, ha => by
    simp only [foldF] at h
    obtain ⟨it, _, h2⟩ := Option.bind_eq_some_iff.mp h
    split at h2
    · split at h2
      · simp only [Option.some.injEq, Prod.mk.injEq] at h2
        rw [← h2.1]; simp
      · cases h2
    · split at h2
      · rename_i hl
        refine foldF_len K r _ l E A h2 ?_
        split
        · simp; omega
        · omega
      · cases h2
theorem parse_len (s : ByteArray) (K : Nat) (l : List S51) (E A : Int) (h : script_Parse.f K s = some (l, E, A)) : l.length ≤ 1000000 := by
  unfold script_Parse.f at h
  split at h
  · exact foldF_len K _ _ _ _ _ h (by simp)
  · split at h
    · simp only [Option.some.injEq, Prod.mk.injEq] at h
      rw [← h.1]; simp
    · cases h
end Go.Proofs.YtifcpamliidabaaDoor.PfP
