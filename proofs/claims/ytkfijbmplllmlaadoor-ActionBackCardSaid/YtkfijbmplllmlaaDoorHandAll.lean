/- The words of a line: what the iterator hands to its loop, and what All makes of it. -/
import Derived.Test.YtkfijbmplllmlaaDoorPAx3
import Derived.Test.YtkfijbmplllmlaaDoorPl
import Derived.RangeFuncBox
import Derived.RangeFuncLeaves
import Derived.Shelf.Abstract
import Derived.OwnWalkIn
import Derived.TacticsInMore
import Derived.LoopNIn
import Derived.LoopIn
import Derived.WalkSmall
namespace Go.Proofs.YtkfijbmplllmlaaDoor.HandAll
open Go.RowKit Go.Shelf Go.Proofs.YtkfijbmplllmlaaDoorW.PrintWords Go.Proofs.YtkfijbmplllmlaaDoorW.PrintLast Go.Proofs.YtkfijbmplllmlaaDoorW.PrintMore Go.Proofs.YtkfijbmplllmlaaDoor.PA Go.Proofs.YtkfijbmplllmlaaDoor.Pl

theorem wide_fn (f : FuncId) : Fence.wide.fn f = True := rfl
theorem wide_depth : Fence.wide.depth = none := rfl
theorem round_fn (l : Nat) (f : FuncId) : (Fence.wide.inRound l).fn f = True := rfl
theorem round_depth (l : Nat) : (Fence.wide.inRound l).depth = none := rfl
attribute [local go_sem] Oper.semAt_some wide_fn wide_depth round_fn round_depth

/-! ### Next, told by the plain functions -/
theorem wrap_in {i : Int} (h0 : -9223372036854775808 ≤ i) (h1 : i ≤ 9223372036854775807) : wrap64 i = i := by
  unfold wrap64
  omega
theorem blank_f (c : Int) : words_Blank.f c = some (bl c) := by
  unfold words_Blank.f bl
  split <;> simp_all
theorem nb_f (c : Int) : words_Next_1.f c = some (nb c) := by
  unfold words_Next_1.f
  rw [blank_f]
  rfl
theorem span_bl (s : ByteArray) (hs : s.size ≤ 140737488351232) (d : Nat) : ∀ (k i : Nat), s.size - i ≤ d → i ≤ s.size → d < k → words_span_words_Blank.l0 k s (i : Int) = some (run bl s i : Int) := by
  induction d with
  | zero =>
    intro k i hd hi hk
    obtain ⟨k, rfl⟩ : ∃ m, k = m + 1 := ⟨k - 1, by omega⟩
    simp only [words_span_words_Blank.l0]
    rw [if_neg (by omega), run_end (by omega)]
  | succ d ih =>
    intro k i hd hi hk
    obtain ⟨k, rfl⟩ : ∃ m, k = m + 1 := ⟨k - 1, by omega⟩
    simp only [words_span_words_Blank.l0]
    by_cases hlt : i < s.size
    · rw [if_pos (by omega), if_pos (by omega), blank_f]
      simp only [Option.bind_some]
      cases hp : bl (bt s (i : Int)) with
      | true => rw [if_pos rfl, wrap_in (by omega) (by omega), run_next hlt hp]; exact ih k (i + 1) (by omega) (by omega) (by omega)
      | false => rw [if_neg (by simp), run_here hlt hp]
    · rw [if_neg (by omega), run_end (by omega)]
theorem span_nb (s : ByteArray) (hs : s.size ≤ 140737488351232) (d : Nat) : ∀ (k i : Nat), s.size - i ≤ d → i ≤ s.size → d < k → words_span_words_Next_1.l0 k s (i : Int) = some (run nb s i : Int) := by
  induction d with
  | zero =>
    intro k i hd hi hk
    obtain ⟨k, rfl⟩ : ∃ m, k = m + 1 := ⟨k - 1, by omega⟩
    simp only [words_span_words_Next_1.l0]
    rw [if_neg (by omega), run_end (by omega)]
  | succ d ih =>
    intro k i hd hi hk
    obtain ⟨k, rfl⟩ : ∃ m, k = m + 1 := ⟨k - 1, by omega⟩
    simp only [words_span_words_Next_1.l0]
    by_cases hlt : i < s.size
    · rw [if_pos (by omega), if_pos (by omega), nb_f]
      simp only [Option.bind_some]
      cases hp : nb (bt s (i : Int)) with
      | true => rw [if_pos rfl, wrap_in (by omega) (by omega), run_next hlt hp]; exact ih k (i + 1) (by omega) (by omega) (by omega)
      | false => rw [if_neg (by simp), run_here hlt hp]
    · rw [if_neg (by omega), run_end (by omega)]

theorem span_bl_f (s : ByteArray) (hs : s.size ≤ 140737488351232) (k : Nat) (hk : s.size < k) : words_span_words_Blank.f k s = some (run bl s 0 : Int) :=
  span_bl s hs s.size k 0 (by omega) (by omega) hk
theorem span_nb_f (s : ByteArray) (hs : s.size ≤ 140737488351232) (k : Nat) (hk : s.size < k) : words_span_words_Next_1.f k s = some (run nb s 0 : Int) :=
  span_nb s hs s.size k 0 (by omega) (by omega) hk
/-- The next word from a byte on, in a text that isn't too long. -/
theorem next_f (s : ByteArray) (hs : s.size ≤ 140737488351232) (i : Nat) (hi : i ≤ s.size) (k : Nat) (hk : s.size < k) (j : Int) (hj : mn (mx j 0) (s.size : Int) = (i : Int)) : words_Next.f k s j = some ((fromW s i : Int), (toW s i : Int)) := by
  have h1 := fromW_le s i hi
  have h2 := fromW_ge s i
  have h3 := toW_ge s i
  have h4 := toW_le s i hi
  unfold words_Next.f
  rw [hj, if_pos (by omega), if_pos (by omega), Int.toNat_natCast]
  have r1 := run_from bl s i hi _ 0 rfl (by omega)
  have r1' : i + run bl (s.extract i s.size) 0 = fromW s i := r1
  rw [span_bl_f _ (by rw [size_from]; omega) k (by rw [size_from]; omega), Option.bind_some]
  rw [show wrap64 ((i : Int) + (run bl (s.extract i s.size) 0 : Int)) = (fromW s i : Int) by rw [wrap_in (by omega) (by omega)]; omega, if_pos (by omega), if_pos (by omega), Int.toNat_natCast]
  have r2 := run_from nb s (fromW s i) h1 _ 0 rfl (by omega)
  have r2' : fromW s i + run nb (s.extract (fromW s i) s.size) 0 = toW s i := r2
  rw [span_nb_f _ (by rw [size_from]; omega) k (by rw [size_from]; omega), Option.bind_some]
  rw [show wrap64 ((fromW s i : Int) + (run nb (s.extract (fromW s i) s.size) 0 : Int)) = (toW s i : Int) by rw [wrap_in (by omega) (by omega)]; omega]

/-! ### the iterator -/
theorem next_calls (s : ByteArray) (hs : s.size ≤ 140737488351232) (i : Int) (h0 : 0 ≤ i) (hi : i ≤ s.size) (w : World) :
    Calls Tryd.prog 33 #[.string s, .int .i64 i] w fun e w' => e = .returned (.tuple #[.int .i64 (fromW s i.toNat : Int), .int .i64 (toW s i.toNat : Int)]) ∧ Below w.heap.size w w' := by
  obtain ⟨n, rfl⟩ := Int.eq_ofNat_of_zero_le h0
  rw [Int.toNat_natCast]
  exact words_Next.calls _ s (n : Int) _ _ w (next_f s hs n (by omega) (s.size + 1) (by omega) _ (by unfold mn mx; repeat' split <;> omega))
theorem next_in (m : Nat) (s : ByteArray) (hs : s.size ≤ 140737488351232) (i : Int) (h0 : 0 ≤ i) (hi : i ≤ s.size) (w : World) :
    CallsIn Fence.wide m Tryd.prog 33 #[.string s, .int .i64 i] w fun e w' => e = .returned (.tuple #[.int .i64 (fromW s i.toNat : Int), .int .i64 (toW s i.toNat : Int)]) ∧ Below w.heap.size w w' :=
  callsIn_wide.2 (next_calls s hs i h0 hi w)

set_option maxRecDepth 100000 in
set_option maxHeartbeats 1000000 in
theorem each_in (m : Nat) (s : ByteArray) (w : World) :
    CallsIn Fence.wide m Tryd.prog 22 #[.string s] w fun e w' => e = .returned (.func (.func 32) #[] #[.pointer (some ⟨w.heap.size, 0, none⟩)]) ∧ w' = w.alloc (.cells #[.string s] 9) := by
  refine callsIn_of_wp Tryd.func22 rfl trivial ?_ rfl
  simp only [Tryd.ntmps22, List.size_toArray, List.length_cons, List.length_nil, Nat.reduceAdd, Nat.reduceSub, Array.replicate_succ, Array.replicate_zero, List.push_toArray, List.append_toArray, List.nil_append, List.cons_append]
  gi_wp2
  go_ret
  exact ⟨rfl, rfl⟩

/-- What the loop's body keeps: the box of the text. -/
def KeepsBox (Bs : Nat) (s : ByteArray) (A B : World) : Prop := A.cell? ⟨Bs, 0, none⟩ = some (.string s) → B.cell? ⟨Bs, 0, none⟩ = some (.string s)
def enc2 (x : Nat × Nat) : Array Value := #[.int .i64 (x.1 : Int), .int .i64 (x.2 : Int)]
def meas (s : ByteArray) (f t : Int) : Nat := (s.size - t.toNat) * 2 + (if f < t then 1 else 0)
theorem meas_lt (s : ByteArray) (i : Nat) (h : fromW s i < toW s i) (h1 : toW s i ≤ s.size) : meas s (fromW s (toW s i) : Int) (toW s (toW s i) : Int) < meas s (fromW s i : Int) (toW s i : Int) := by
  have h2 := fromW_ge s (toW s i)
  have h3 := toW_ge s (toW s i)
  have h4 := toW_le s (toW s i) h1
  unfold meas
  rw [if_pos (show (fromW s i : Int) < (toW s i : Int) by omega), Int.toNat_natCast, Int.toNat_natCast]
  by_cases h5 : fromW s (toW s i) < toW s (toW s i)
  · rw [if_pos (by omega)]; omega
  · rw [if_neg (by omega)]; omega
def Told (s : ByteArray) (i : Nat) (pre : List (Nat × Nat)) : Prop := pre ++ allW s i = allW s 0 ∧ pre.length ≤ i ∧ i ≤ s.size

set_option maxRecDepth 100000 in
set_option maxHeartbeats 2000000 in
theorem each1_in (m : Nat) (hm : 1 ≤ m) (l Bs : Nat) (s : ByteArray) (hs : s.size ≤ 140737488351232) (J Jx : List (Nat × Nat) → World → Prop)
    (hJ : ∀ (pre : List (Nat × Nat)) (W W' : World), J pre W → Below W.heap.size W W' → J pre W')
    (hY : ∀ pre x W, J pre W → pre.length < s.size → YieldAt Fence.wide (m - 1) Tryd.prog l (enc2 x) W fun e W' =>
      (e = .returned (.bool true) ∧ J (pre ++ [x]) W' ∧ KeepsBox Bs s W W') ∨ (e = .returned (.bool false) ∧ Jx (pre ++ [x]) W'))
    (W : World) (hc : W.cell? ⟨Bs, 0, none⟩ = some (.string s)) (h0 : J [] W) :
    CallsIn Fence.wide m Tryd.prog 32 #[.func (.yield l) #[] #[], .pointer (some ⟨Bs, 0, none⟩)] W fun e W' => (∃ v, e = .returned v) ∧
      ((∃ ys, ys = allW s 0 ∧ J ys W') ∨ (∃ pre, True ∧ Jx pre W')) := by
  have HJ0 := Aside0.mk h0
  clear h0
  refine callsIn_of_wp Tryd.func32 rfl trivial ?_ rfl
  simp only [Tryd.ntmps32, List.size_toArray, List.length_cons, List.length_nil, Nat.reduceAdd, Nat.reduceSub, Array.replicate_succ, Array.replicate_zero, List.push_toArray, List.append_toArray, List.nil_append, List.cons_append]
  gi_wp2_with (gi_at_call 33; refine (next_in _ s hs 0 (by omega) (by omega) _).mono ?_; rintro e W1 ⟨rfl, hb1⟩)
  have HC : Aside0 (W1.cell? ⟨Bs, 0, none⟩ = some (.string s)) := ⟨(hb1.cell (World.block_lt_of_cell? W _ hc)).trans hc⟩
  have HJ1 : Aside0 (J [] W1) := ⟨hJ _ _ _ HJ0.out hb1⟩
  clear hc HJ0
  gi_loopw [3, 4] (fun f t wr => ∃ (i : Nat) (pre : List (Nat × Nat)), f = .int .i64 (fromW s i : Int) ∧ t = .int .i64 (toW s i : Int) ∧ Aside0 (Told s i pre) ∧ Aside0 (J pre wr) ∧ Aside0 (wr.cell? ⟨Bs, 0, none⟩ = some (.string s)))
    (fun f t _ => meas s (intOf f) (intOf t))
  case atStart => exact ⟨0, [], rfl, rfl, ⟨by simp [Told]⟩, HJ1, HC⟩
  case round =>
    clear HJ1 HC hb1
    obtain ⟨i, pre, rfl, rfl, HT, HJ, HC⟩ := hrel
    obtain ⟨ht1, ht2, ht3⟩ := HT.out
    have hf1 := fromW_ge s i
    have hf2 := toW_ge s i
    have hf3 := toW_le s i ht3
    by_cases hlt : fromW s i < toW s i
    · have hi := toW_lt s i hlt
      rw [allW_eq, if_pos hlt] at ht1
      obtain ⟨fn, tmps, assign, body, hy, hR⟩ := hY pre (fromW s i, toW s i) wr HJ.out (by omega)
      have HT1 := Aside0.mk ht1
      clear ht1 HT HJ
      have hd : decide ((fromW s i : Int) < (toW s i : Int)) = true := by simp; omega
      unfold enc2 at hy
      gi_wp2
      refine hR.mono ?_
      clear hY hR hy
      rintro e W3 (⟨rfl, hJ3, hk3⟩ | ⟨rfl, hJx3⟩)
      · have hc3 := hk3 HC.out
        have HJ3 := Aside0.mk hJ3
        clear hk3 HC hJ3
        gi_wp2_with (gi_at_call 33; refine (next_in _ s hs _ (by omega) (by omega) _).mono ?_; rintro e W4 ⟨rfl, hb4⟩; rw [Int.toNat_natCast])
        have HC4 : Aside0 (W4.cell? ⟨Bs, 0, none⟩ = some (.string s)) := ⟨(hb4.cell (World.block_lt_of_cell? W3 _ hc3)).trans hc3⟩
        have HJ4 : Aside0 (J (pre ++ [(fromW s i, toW s i)]) W4) := ⟨hJ _ _ _ HJ3.out hb4⟩
        clear hc3 HJ3 hb4
        go_roundw
        case rel => exact ⟨toW s i, pre ++ [(fromW s i, toW s i)], rfl, rfl, ⟨by rw [List.append_assoc]; exact HT1.out, by rw [List.length_append, List.length_singleton]; omega, hf3⟩, HJ4, HC4⟩
        case measure => exact meas_lt s i hlt hf3
      · gi_wp2
        go_end0
        exact ⟨⟨_, rfl⟩, .inr ⟨_, trivial, hJx3⟩⟩
    · have hd : decide ((fromW s i : Int) < (toW s i : Int)) = false := by simp; omega
      rw [allW_eq, if_neg hlt, List.append_nil] at ht1
      have HT1 := Aside0.mk ht1
      clear ht1 HT hY
      gi_wp2
      go_end0
      exact ⟨⟨_, rfl⟩, .inl ⟨_, HT1.out, HJ.out⟩⟩

/-! ### All -/
def toS (x : Nat × Nat) : S48 := ⟨(x.1 : Int), (x.2 : Int)⟩
/-- What All tells: of a text that isn't too long (the row of words has room). -/
def words_All.f (s : ByteArray) : Option (List S48) := if s.size ≤ 1000000 then some ((allW s 0).map toS) else none
/-- A row of pairs, as the printed texts tell it. -/
theorem row_of_pairs {W : World} {base : Nat} {v : Value} {l : List (Nat × Nat)} (h : W.ownsRow base 48 2 v l.length (pairs l)) : Kd.R k48 48 W base (fun _ => True) v (l.map toS) := by
  refine ⟨fun _ _ => trivial, pairs l, by rw [List.length_map]; exact h, ⟨by rw [pairs_length, List.length_map]; rfl, fun j p hp => ?_⟩⟩
  rw [List.getElem?_map] at hp
  obtain ⟨x, hx, rfl⟩ := Option.map_eq_some_iff.1 hp
  have e : ((pairs l).drop (j * 2)).take 2 = [.int .i64 (x.1 : Int), .int .i64 (x.2 : Int)] := pairs_drop l j x hx
  show k48.M W base _ (toS x) (((pairs l).drop (j * 2)).take 2)
  rw [e]
  exact k48_mkM W base _ (toS x)
/-- Between two rounds of All's loop. -/
structure AllAt (w0 : World) (B Bs : Nat) (s : ByteArray) (pre : List (Nat × Nat)) (W : World) : Prop where
  box : ∃ v, W.heap[B]? = some (.cells #[v] 37 (0, 0)) ∧ W.ownsRow w0.heap.size 48 2 v pre.length (pairs pre)
  text : W.heap[Bs]? = some (.cells #[.string s] 9 (0, 0))
  below : Below w0.heap.size w0 W
theorem cell_box {W : World} {B : Nat} {v : Value} {t : TypeId} (h : W.heap[B]? = some (.cells #[v] t (0, 0))) : W.cell? ⟨B, 0, none⟩ = some v ∧ W.frozen? ⟨B, 0, none⟩ = false := by
  constructor <;> simp [World.cell?, World.frozen?, h]
theorem keeps_t {Bs : Nat} {s : ByteArray} {A B C : World} (h : KeepsBox Bs s A B) (k : KeepsBox Bs s B C) : KeepsBox Bs s A C := fun hc => k (h hc)
theorem keeps_b {Bs : Nat} {s : ByteArray} (W : World) (l : Nat) (o o' : Obj) (h : W.heap[l]? = some o) (ho : o.isCells = false) : KeepsBox Bs s W (W.putObj l o') := by
  intro hc
  obtain ⟨o2, h2, h3⟩ := cells_of_cell hc
  have hne : Bs ≠ l := by
    rintro rfl
    rw [h] at h2
    cases h2
    rw [ho] at h3
    cases h3
  unfold World.cell? at hc ⊢
  rw [World.putObj_heap_other hne]
  exact hc
theorem row_cells {W : World} {base e size n : Nat} {v : Value} {xs : List Value} (h : W.ownsRow base e size v n xs) : ∀ r, v.ownBlock = some r → ∃ o : Obj, W.heap[r]? = some o ∧ o.isCells = true := by
  intro r hr
  obtain ⟨cells, hc⟩ := own_typed h r hr
  exact ⟨_, hc, rfl⟩
theorem all_own (w0 : World) (B Bs E : Nat) (s : ByteArray) (hE : w0.heap.size ≤ E) : OwnFrom E (AllAt w0 B Bs s) := by
  intro pre A C row h hg hr
  have far : ∀ {k : Nat} {o : Obj}, A.heap[k]? = some o → o.isCells = true → some k ≠ row := fun hk hc e => by
    obtain ⟨_, o', h1, h2⟩ := hr _ e.symm
    rw [hk] at h1
    cases h1
    rw [hc] at h2
    cases h2
  obtain ⟨v, hv, hrow⟩ := h.box
  refine ⟨⟨v, (hg.block _ (Array.getElem?_eq_some_iff.1 hv).1 (far hv rfl)).trans hv, hrow.kept hg ?_⟩, (hg.block _ (Array.getElem?_eq_some_iff.1 h.text).1 (far h.text rfl)).trans h.text, h.below.grown hg h.below.size (fun k e => Nat.le_trans hE (hr k e).1)⟩
  cases hb : v.ownBlock with
  | none => exact .inl rfl
  | some r =>
    obtain ⟨o, h1, h2⟩ := row_cells hrow r hb
    exact .inr (far h1 h2)
theorem each_stops (m : Nat) (hm : 1 ≤ m) (Bs : Nat) (s : ByteArray) (hs : s.size ≤ 140737488351232) (w : World) (hB : Bs < w.heap.size) (hc : w.cell? ⟨Bs, 0, none⟩ = some (.string s)) :
    SeqStopsK Fence.wide m Tryd.prog 32 #[.pointer (some ⟨Bs, 0, none⟩)] enc2 (KeepsBox Bs s) (fun ys => ys = allW s 0) (fun _ => True) s.size w := fun l J Jx W hW hJ _ hY h0 =>
  each1_in m hm l Bs s hs J Jx (fun pre A C h hb => hJ pre A C none h (grown_of_below hb none) (fun r e => by cases e)) hY W ((hW.cell (p := ⟨Bs, 0, none⟩) hB).trans hc) h0
theorem info48' : ∃ i, Tryd.prog.info? 48 = some i ∧ i.zero = some (.agg #[.int .i64 0, .int .i64 0]) ∧ i.size = 2 ∧ i.bytes = 16 := by
  obtain ⟨i, h1, h2, h3, h4⟩ := info_parts info48
  exact ⟨i, h1, h2, h3, h4⟩

set_option maxRecDepth 100000 in
set_option maxHeartbeats 2000000 in
theorem all_in (m : Nat) (hm : 4 ≤ m) (s : ByteArray) (hs : s.size ≤ 1000000) (w : World) :
    CallsIn Fence.wide m Tryd.prog 13 #[.string s] w fun e w' => ∃ v : Value, e = .returned v ∧ w'.ownsRow w.heap.size 48 2 v (allW s 0).length (pairs (allW s 0)) ∧ Below w.heap.size w w' := by
  have h1 : 1 ≤ m := by omega
  obtain ⟨i0, hi, hz0, hz1, hz2⟩ := info48'
  refine callsIn_of_wp_marks Tryd.func13 rfl trivial ?_ rfl
  simp only [Tryd.ntmps13, List.size_toArray, List.length_cons, List.length_nil, Nat.reduceAdd, Nat.reduceSub, Array.replicate_succ, Array.replicate_zero, List.push_toArray, List.append_toArray, List.nil_append, List.cons_append]
  gi_wp2_with (gi_at_call 22; refine (each_in _ s _).mono ?_; rintro e w' ⟨rfl, rfl⟩)
  have hbox : ((w.alloc (.cells #[.slice none 0 0] 37)).alloc (.cells #[.string s] 9)).heap[w.heap.size + 1]? = some (.cells #[.string s] 9 (0, 0)) := by
    have := World.alloc_heap_new (w.alloc (.cells #[.slice none 0 0] 37)) (.cells #[.string s] 9)
    rwa [World.size_alloc] at this
  have hout : ((w.alloc (.cells #[.slice none 0 0] 37)).alloc (.cells #[.string s] 9)).heap[w.heap.size]? = some (.cells #[.slice none 0 0] 37 (0, 0)) :=
    (Below.heap_alloc _ _ _ (by simp)).trans (World.alloc_heap_new w _)
  refine wpIn_rangeFunc_ownG rfl h1 (gf := 32) (lb := #[.pointer (some ⟨w.heap.size + 1, 0, none⟩)]) rfl trivial (enters_of Tryd.func32 (by kernel_rfl) rfl)
    (each_stops (m - 1) (by omega) (w.heap.size + 1) s (by omega) _ (by simp) (cell_box hbox).1) (fun h k => keeps_t h k) (fun W l o o' _ h ho _ => keeps_b W l o o' h ho) (Below.refl _ _) (fun _ => rfl)
    (AllAt w w.heap.size (w.heap.size + 1) s) (fun _ _ _ => False) (all_own _ _ _ _ _ (by simp; omega)) (fun _ _ _ _ _ hs _ _ => hs)
    ⟨⟨_, hout, World.ownsRow_nil _ _ _ _⟩, hbox, ((Below.refl _ w).alloc (Nat.le_refl _) _).alloc (by simp) _⟩
    (fun x => { tmps := #[.string s, undef, .slice none 0 0, .pointer (some ⟨w.heap.size, 0, none⟩), .int .i64 (x.1 : Int), .int .i64 (x.2 : Int), .string s, .func (.func 32) #[] #[.pointer (some ⟨w.heap.size + 1, 0, none⟩)], .int .i64 (x.1 : Int), .int .i64 (x.2 : Int), undef, undef, undef, undef, undef, undef, undef], defers := [] }) ?assign ?body ?done ?stop
  case assign =>
    intro l x W K hK
    unfold enc2
    gi_wp2
    exact hK
  case body =>
    rintro l pre x W h hlen
    obtain ⟨v, hv, hrow⟩ := h.box
    have hv' : Boxed W w.heap.size 37 v := hv
    have ht : Boxed W (w.heap.size + 1) 9 (.string s) := h.text
    have hb := h.below
    have hn := hb.size
    have hc := hv'.cell
    have hf := hv'.frozen
    have HV := Aside0.mk hv'
    have HT := Aside0.mk ht
    have HB := Aside0.mk hb
    clear hv hv' ht h hbox hout hb
    gi_wp2_with (gi_at_builtin; refine wpListIn_append_own _ rfl _ _ 37 rfl w.heap.size 48 i0 (.agg #[.int .i64 0, .int .i64 0]) 2 16 Tryd.underlying37 hi hz0 hz1 hz2 rfl (by decide) _ _ _ rfl (hrow.alloc _) ⟨W.heap.size, 0, none⟩ 1 1 [.int .i64 (x.1 : Int), .int .i64 (x.2 : Int)] rfl rfl (cell_two_new _ _ _ _) (by simp [Value.oneCell']) (by unfold maxLen; omega) (by omega) (by simp; omega) ?_; intro v' w3 hown' hg3 hnil3; clear hnil3; obtain ⟨g, cap, hq⟩ := ownsRow_succ hown'; rw [hq]; rw [hq] at hown'; clear hq; have HA := Aside0.mk (HV.out.appended (by decide) hrow hn (Nat.le_refl _) hown' hg3); have HO := Aside0.mk hown'; have HG := Aside0.mk hg3; have hc3 := HA.out.1.cell; have hf3 := HA.out.1.frozen; clear hown' hg3 hc hf)
    obtain ⟨a1, a2, a3, a4, a5⟩ := HA.out
    have ht2 : Boxed (w3.setCell ⟨w.heap.size, 0, none⟩ (.slice (some ⟨g, 0, none⟩) (pre.length + 1) cap)) (w.heap.size + 1) 9 (.string s) :=
      ((HT.out.alloc _).kept HG.out (HT.out.not_row (by decide) hrow)).kept (grownBy_setCell' _ _ _) (by simp)
    refine ⟨a4.from _, fun _ => ht2.cell, ⟨⟨_, a2, ?_⟩, ht2, HB.out.trans a5⟩⟩
    rw [List.length_append, pairs_append]
    exact a3
  case done =>
    rintro D ys W hD rfl h hK
    have hD2 : w.heap.size ≤ D := by simp only [World.size_alloc] at hD; omega
    clear hD
    obtain ⟨v, hv, hrow⟩ := h.box
    have hv' : Boxed W w.heap.size 37 v := hv
    have hc := hv'.cell
    have hf := hv'.frozen
    have hb := h.below
    have HROW := Aside0.mk hrow
    have HB := Aside0.mk hb
    have HK := Aside0.mk hK
    clear hv hv' h hrow hb hK hbox hout
    gi_wp2
    refine ⟨by simp, .inl ⟨_, _, rfl, run_takeDeferred HK.out, ?_⟩⟩
    exact ⟨_, results_tmp rfl _ _ _, _, rfl, ownsRow_putObj HROW.out _ HK.out rfl, HB.out.grown (grownBy_putObj' W _ _) HB.out.size (fun k e => by cases e; omega)⟩
  case stop =>
    rintro D c pre W _ _ h _
    exact h.elim

/-- All, as the printed texts want it told. -/
theorem words_All.calls (a0 : ByteArray) (r : List S48) (w : World) (h : words_All.f a0 = some r) :
    Calls Tryd.prog 13 #[.string a0] w fun e w' => ∃ v0_ : Value, e = .returned (v0_) ∧ Kd.R k48 48 w' w.heap.size (fun _ => True) v0_ r ∧ Below w.heap.size w w' := by
  unfold words_All.f at h
  by_cases hs : a0.size ≤ 1000000
  · rw [if_pos hs] at h
    obtain rfl := Option.some.inj h
    refine (callsIn_wide.1 (all_in 9 (by omega) a0 hs w)).mono ?_
    rintro e w' ⟨v, rfl, hr, hb⟩
    exact ⟨v, rfl, row_of_pairs hr, hb⟩
  · rw [if_neg hs] at h
    cases h
end Go.Proofs.YtkfijbmplllmlaaDoor.HandAll
