/- arena.Same by hand: whether two trees are the same. Conditions: lengths, and the second tree's size. -/
import Derived.Test.YtbgoaigbkfibbaaPfF
import Derived.Test.YtbgoaigbkfibbaaPAx0
import Derived.Test.YtbgoaigbkfibbaaPAx5
set_option linter.unusedSimpArgs false
set_option linter.unusedVariables false
namespace Go.Proofs.Ytbgoaigbkfibbaa.HandSame
open Go.RowKit Go.Maps Go.WideMaps Go.Proofs.Ytbgoaigbkfibbaa.PA Go.Proofs.YtbgoaigbkfibbaaW.PrintWords Go.Proofs.YtbgoaigbkfibbaaW.PrintLast Go.Proofs.YtbgoaigbkfibbaaW.PrintMore Go.Proofs.Ytbgoaigbkfibbaa.HandRight Go.Proofs.Ytbgoaigbkfibbaa.HandKey Go.Proofs.Ytbgoaigbkfibbaa.HandTwin Go.Proofs.Ytbgoaigbkfibbaa.HandAt Go.Proofs.Ytbgoaigbkfibbaa.PfT
def treeB (l : List S41) (s : List (List S55)) : Bool := decide (l.length ≤ 4096) && (List.range l.length).all (fun i => rightN (rd_T41 l (i : Int)) (i : Int) (s.length : Int)) && s.all (fun x => decide (x.length < 2147483648))
theorem treeB_ok {l : List S41} {s : List (List S55)} : treeB l s = true ↔ TreeOK l s := by
 unfold treeB
 simp only [Bool.and_eq_true, decide_eq_true_eq, List.all_eq_true, List.mem_range]
 constructor
 ·rintro ⟨⟨h1, h2⟩, h3⟩
  refine ⟨h1, ?_, h3⟩
  intro i h0 hl
  have := h2 i.toNat (by omega)
  rwa [show ((i.toNat : Nat) : Int) = i by omega] at this
 ·intro h
  exact ⟨⟨h.nodes, fun i hi => h.right i (by omega) (by omega)⟩, h.short⟩
def okB (la : List S41) (sa : List (List S55)) (ra : Int) (lb : List S41) (sb : List (List S55)) (rb : Int) : Bool :=
 (treeB la sa && treeB lb sb) && (decide (0 ≤ ra ∧ ra < (la.length : Int)) && decide (0 ≤ rb ∧ rb < (lb.length : Int))) && decide (C lb rb < 1000000000)
def arena_Same.f (k : Nat) (l0_0 : List S41) (l0_1 : List (List S55)) (a0_2 : Int) (l1_0 : List S41) (l1_1 : List (List S55)) (a1_2 : Int) : Option Bool :=
 (arena_Check.f k l0_0 l0_1 a0_2).bind fun c => if c = 0 then ((arena_Check.f k l1_0 l1_1 a1_2).bind fun d => if d = 0 then (if okB l0_0 l0_1 a0_2 l1_0 l1_1 a1_2 = true then some (T l0_0 l1_0 l0_1 l1_1 a0_2 a1_2) else none) else some false) else some false
theorem arena_Same.mono : ∀ a0 a1 a2 b0 b1 b2 k, LeO (arena_Same.f k a0 a1 a2 b0 b1 b2) (arena_Same.f (k + 1) a0 a1 a2 b0 b1 b2) := by
 intro a0 a1 a2 b0 b1 b2 k
 unfold arena_Same.f
 refine LeO.bind (arena_Check.mono _ _ _ _) (fun c => ?_)
 refine LeO.ite ?_ (LeO.refl _)
 exact LeO.bind (arena_Check.mono _ _ _ _) (fun d => LeO.refl _)
theorem at_root (w W : World) (A0 : Option Addr) (c0 : Nat) (la : List S41) (A1 : Option Addr) (c1 : Nat) (sa : List (List S55)) (ra : Int) (B0 : Option Addr) (d0 : Nat) (lb : List S41) (B1 : Option Addr) (d1 : Nat) (sb : List (List S55)) (rb : Int)
  (hB : Below w.heap.size w W) (a0 : Kd.C k41 w A0 la.length la) (a1 : Kd.C (Kd.slice 55 k55) w A1 sa.length sa) (b0 : Kd.C k41 w B0 lb.length lb) (b1 : Kd.C (Kd.slice 55 k55) w B1 sb.length sb) (hok : okB la sa ra lb sb rb = true) :
  Calls Try.prog 35 #[.pointer (some ⟨W.heap.size + 1, 0, none⟩), .int .i64 ra, .int .i64 rb] ((W.alloc (.map #[] 0)).alloc (.cells #[.slice A0 la.length c0, .slice A1 sa.length c1, .int .i64 ra, .slice B0 lb.length d0, .slice B1 sb.length d1, .int .i64 rb, .map (some W.heap.size)] 63))
   fun e W' => e = .returned (.bool (T la lb sa sb ra rb)) ∧ Below w.heap.size w W' := by
 unfold okB at hok
 simp only [Bool.and_eq_true, decide_eq_true_eq, treeB_ok] at hok
 obtain ⟨⟨⟨ha, hb⟩, ⟨r0, r1⟩, s0, s1⟩, hC⟩ := hok
 have hsz := hB.size
 have hV := tw_ok ⟨w, W.heap.size + 1, W.heap.size, A0, c0, la, A1, c1, sa, ra, B0, d0, lb, B1, d1, sb, rb, T la lb sa sb, C lb⟩ (by show w.heap.size ≤ W.heap.size + 1; omega) hsz ha hb a0 a1 b0 b1 rfl rfl
 have hobj : ((W.alloc (.map #[] 0)).alloc (.cells #[.slice A0 la.length c0, .slice A1 sa.length c1, .int .i64 ra, .slice B0 lb.length d0, .slice B1 sb.length d1, .int .i64 rb, .map (some W.heap.size)] 63)).heap[W.heap.size + 1]? = some (.cells #[.slice A0 la.length c0, .slice A1 sa.length c1, .int .i64 ra, .slice B0 lb.length d0, .slice B1 sb.length d1, .int .i64 rb, .map (some W.heap.size)] 63) := by
  have := blk_new (W.alloc (.map #[] 0)) (.cells #[.slice A0 la.length c0, .slice A1 sa.length c1, .int .i64 ra, .slice B0 lb.length d0, .slice B1 sb.length d1, .int .i64 rb, .map (some W.heap.size)] 63)
  rw [show (W.alloc (.map #[] 0)).heap.size = W.heap.size + 1 by simp] at this
  exact this
 refine (all_at _ hV (rb.toNat + 1) ra rb r0 r1 s0 s1 (by omega) _ 0 (.map []) ⟨?_, hobj, ?_, memo_nil _, ⟨[], rfl⟩⟩ (by show 0 + C lb rb < 2 ^ 62; omega)).mono ?_
 ·exact below_alloc (below_alloc hB _) _
 ·exact (World.ownsMap_made W Try.prog 75 (plainElem Try.prog 3)).alloc _
 ·rintro e W' ⟨rfl, n', D', hn, hS, hg⟩
  exact ⟨rfl, hS.1⟩
theorem cells25 {w : World} {g : Nat} {v0 v1 v2 : Value} (h : w.heap[g]? = some (.cells #[v0, v1, v2] 25 (0, 0))) : w.cell? ⟨g, 0, none⟩ = some v0 ∧ w.cell? ⟨g, 1, none⟩ = some v1 ∧ w.cell? ⟨g, 2, none⟩ = some v2 :=
 ⟨(blk_cell h 0).trans rfl, (blk_cell h 1).trans rfl, (blk_cell h 2).trans rfl⟩
theorem two_boxes (w : World) (o1 o2 : Obj) : ((w.alloc o1).alloc o2).heap[w.heap.size]? = some o1 ∧ ((w.alloc o1).alloc o2).heap[w.heap.size + 1]? = some o2 := by
 refine ⟨blk_alloc (blk_new w o1) o2, ?_⟩
 have := blk_new (w.alloc o1) o2
 simpa using this
set_option maxRecDepth 100000 in
set_option maxHeartbeats 2000000 in
theorem arena_Same.calls (k : Nat) (A0_0 : Option Addr) (c0_0 : Nat) (l0_0 : List (S41)) (A0_1 : Option Addr) (c0_1 : Nat) (l0_1 : List (List (S55))) (a0_2 : Int) (A1_0 : Option Addr) (c1_0 : Nat) (l1_0 : List (S41)) (A1_1 : Option Addr) (c1_1 : Nat) (l1_1 : List (List (S55))) (a1_2 : Int) (r : Bool) (w : World)
  (hr0_0 : Kd.C k41 w A0_0 l0_0.length l0_0) (hc0_0 : l0_0.length ≤ c0_0) (hr0_1 : Kd.C (Kd.slice 55 k55) w A0_1 l0_1.length l0_1) (hc0_1 : l0_1.length ≤ c0_1) (hr1_0 : Kd.C k41 w A1_0 l1_0.length l1_0) (hc1_0 : l1_0.length ≤ c1_0) (hr1_1 : Kd.C (Kd.slice 55 k55) w A1_1 l1_1.length l1_1) (hc1_1 : l1_1.length ≤ c1_1)
  (h : arena_Same.f k l0_0 l0_1 a0_2 l1_0 l1_1 a1_2 = some r) :
  Calls Try.prog 12 #[.agg #[.slice A0_0 l0_0.length c0_0, .slice A0_1 l0_1.length c0_1, .int .i64 a0_2], .agg #[.slice A1_0 l1_0.length c1_0, .slice A1_1 l1_1.length c1_1, .int .i64 a1_2]] w fun e w' => e = .returned (.bool r) ∧ Below w.heap.size w w' := by
 unfold arena_Same.f at h
 obtain ⟨c, hc⟩ : ∃ c, arena_Check.f k l0_0 l0_1 a0_2 = some c := by
  cases e : arena_Check.f k l0_0 l0_1 a0_2 with
  | none => rw [e] at h; cases h
  | some c => exact ⟨c, rfl⟩
 rw [hc] at h
 simp only [Option.bind_some] at h
 have HR0 := Aside0.mk hr0_0
 have HR1 := Aside0.mk hr0_1
 have HQ0 := Aside0.mk hr1_0
 have HQ1 := Aside0.mk hr1_1
 have HC0 := Aside0.mk (And.intro hc0_0 hc0_1)
 have HC1 := Aside0.mk (And.intro hc1_0 hc1_1)
 have HC := Aside0.mk hc
 clear hr0_0 hr0_1 hr1_0 hr1_1 hc0_0 hc0_1 hc1_0 hc1_1 hc
 have hmm := @run_makeMap Try.prog
 by_cases c0 : c = 0
 case neg =>
  rw [if_neg c0] at h
  cases h
  have c0' : decide (c = 0) = false := decide_eq_false c0
  have c0'' : (c == 0) = false := beq_eq_false_iff_ne.mpr c0
  go_enter Try.func12, Try.ntmps12
  go_wp2_with (go_at_call 9; (with_reducible refine (arena_Check.calls k A0_0 c0_0 l0_0 A0_1 c0_1 l0_1 a0_2 c _ (Kd.C_alloc (Kd.C_alloc HR0.out _) _) HC0.out.1 (Kd.C_alloc (Kd.C_alloc HR1.out _) _) HC0.out.2 HC.out).mono ?_); rintro e w4 ⟨rfl, hb4⟩)
  go_ret
  exact ⟨rfl, below_then (below_alloc (below_alloc (Below.refl _ _) _) _) (by simp; omega) hb4⟩
 rw [if_pos c0] at h
 subst c0
 obtain ⟨d, hd⟩ : ∃ d, arena_Check.f k l1_0 l1_1 a1_2 = some d := by
  cases e : arena_Check.f k l1_0 l1_1 a1_2 with
  | none => rw [e] at h; cases h
  | some c => exact ⟨c, rfl⟩
 rw [hd] at h
 simp only [Option.bind_some] at h
 have HD := Aside0.mk hd
 clear hd
 obtain ⟨b1, b2⟩ := two_boxes w (.cells #[.slice A0_0 l0_0.length c0_0, .slice A0_1 l0_1.length c0_1, .int .i64 a0_2] 25 (0, 0)) (.cells #[.slice A1_0 l1_0.length c1_0, .slice A1_1 l1_1.length c1_1, .int .i64 a1_2] 25 (0, 0))
 have HB1 := Aside0.mk b1
 have HB2 := Aside0.mk b2
 clear b1 b2
 by_cases d0 : d = 0
 case neg =>
  rw [if_neg d0] at h
  cases h
  have d0' : decide (d = 0) = false := decide_eq_false d0
  have d0'' : (d == 0) = false := beq_eq_false_iff_ne.mpr d0
  go_enter Try.func12, Try.ntmps12
  go_wp2_with (first | (go_at_call 9; (with_reducible refine (arena_Check.calls k A0_0 c0_0 l0_0 A0_1 c0_1 l0_1 a0_2 0 _ (Kd.C_alloc (Kd.C_alloc HR0.out _) _) HC0.out.1 (Kd.C_alloc (Kd.C_alloc HR1.out _) _) HC0.out.2 HC.out).mono ?_); rintro e w4 ⟨rfl, hb4⟩; have HB4 : Aside0 (Below w.heap.size w w4) := ⟨below_then (below_alloc (below_alloc (Below.refl _ _) _) _) (by simp; omega) hb4⟩; obtain ⟨y0, y1, y2⟩ := cells25 (blk_below HB2.out hb4); clear hb4) | (go_at_call 9; (with_reducible refine (arena_Check.calls k A1_0 c1_0 l1_0 A1_1 c1_1 l1_1 a1_2 d _ (Kd.C_below HQ0.out HB4.out) HC1.out.1 (Kd.C_below HQ1.out HB4.out) HC1.out.2 HD.out).mono ?_); rintro e w5 ⟨rfl, hb5⟩; have HB5 : Aside0 (Below w.heap.size w w5) := ⟨below_then HB4.out HB4.out.size hb5⟩; clear hb5))
  go_ret
  exact ⟨rfl, HB5.out⟩
 rw [if_pos d0] at h
 subst d0
 have hok : okB l0_0 l0_1 a0_2 l1_0 l1_1 a1_2 = true := by
  cases e : okB l0_0 l0_1 a0_2 l1_0 l1_1 a1_2 with
  | false => rw [e] at h; simp at h
  | true => rfl
 rw [if_pos hok] at h
 cases h
 have HOK := Aside0.mk hok
 clear hok
 go_enter Try.func12, Try.ntmps12
 go_wp2_with (first | (go_at_call 9; (with_reducible refine (arena_Check.calls k A0_0 c0_0 l0_0 A0_1 c0_1 l0_1 a0_2 0 _ (Kd.C_alloc (Kd.C_alloc HR0.out _) _) HC0.out.1 (Kd.C_alloc (Kd.C_alloc HR1.out _) _) HC0.out.2 HC.out).mono ?_); rintro e w4 ⟨rfl, hb4⟩; have HB4 : Aside0 (Below w.heap.size w w4) := ⟨below_then (below_alloc (below_alloc (Below.refl _ _) _) _) (by simp; omega) hb4⟩; have HX4 := Aside0.mk (blk_below HB1.out hb4); have HY4 := Aside0.mk (blk_below HB2.out hb4); obtain ⟨y0, y1, y2⟩ := cells25 HY4.out; clear hb4) | (go_at_call 9; (with_reducible refine (arena_Check.calls k A1_0 c1_0 l1_0 A1_1 c1_1 l1_1 a1_2 0 _ (Kd.C_below HQ0.out HB4.out) HC1.out.1 (Kd.C_below HQ1.out HB4.out) HC1.out.2 HD.out).mono ?_); rintro e w5 ⟨rfl, hb5⟩; have HB5 : Aside0 (Below w.heap.size w w5) := ⟨below_then HB4.out HB4.out.size hb5⟩; clear y0 y1 y2; obtain ⟨z0, z1, z2⟩ := cells25 (blk_below HX4.out hb5); obtain ⟨y0, y1, y2⟩ := cells25 (blk_below HY4.out hb5); have z2' := fun o1 o2 => cell_al2 z2 o1 o2; have y2' := fun o1 o2 => cell_al2 y2 o1 o2; clear hb5) | (go_at_call 35; (refine (at_root w w5 A0_0 c0_0 l0_0 A0_1 c0_1 l0_1 a0_2 A1_0 c1_0 l1_0 A1_1 c1_1 l1_1 a1_2 HB5.out HR0.out HR1.out HQ0.out HQ1.out HOK.out).mono ?_); rintro e w6 ⟨rfl, hb6⟩))
 go_ret
 exact ⟨rfl, hb6⟩
end Go.Proofs.Ytbgoaigbkfibbaa.HandSame
