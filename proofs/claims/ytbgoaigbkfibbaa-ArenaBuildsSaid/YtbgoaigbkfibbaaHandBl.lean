/- A builder: its nodes and sets in rows of its own; how many there are, and one more. Conditions: none beyond the rows' lengths. -/
import Derived.Test.YtbgoaigbkfibbaaPAx0
import Derived.Test.YtbgoaigbkfibbaaHandRight
import Derived.Test.YtbgoaigbkfibbaaHandNil
set_option linter.unusedSimpArgs false
set_option linter.unusedVariables false
namespace Go.Proofs.Ytbgoaigbkfibbaa.HandBl
open Go.RowKit Go.Proofs.YtbgoaigbkfibbaaW.PrintWords Go.Proofs.YtbgoaigbkfibbaaW.PrintLast Go.Proofs.YtbgoaigbkfibbaaW.PrintMore Go.Proofs.Ytbgoaigbkfibbaa.PA Go.Proofs.Ytbgoaigbkfibbaa.HandRight
theorem info41 : (Try.prog.info? 41).map (fun i => (i.zero, i.size, i.bytes)) = some (some (.agg #[(.int .i64 0), (.int .i64 0), (.int .i64 0), (.int .i64 0), (.int .i64 0), (.int .i64 0)]), 6, 48) := by kernel_rfl
theorem info37 : (Try.prog.info? 37).map (fun i => (i.zero, i.size, i.bytes)) = some (some (.slice none 0 0), 1, 24) := by kernel_rfl
/-- A builder: two rows of its own in a box. -/
structure BAt (w0 : World) (g : Nat) (u v : Value) (ns : List S41) (ss : List (List S55)) (W : World) : Prop where
 lo : w0.heap.size ≤ g
 box : W.heap[g]? = some (.cells #[u, v] 65 (0, 0))
 n : Kd.R k41 41 W w0.heap.size (fun _ => True) u ns
 s : Kd.R (Kd.slice 55 k55) 37 W w0.heap.size (fun _ => True) v ss
 below : Below w0.heap.size w0 W
theorem BAt.under {w0 : World} {g : Nat} {u v : Value} {ns : List S41} {ss : List (List S55)} {W W' : World} (h : BAt w0 g u v ns ss W) (hb : Below W.heap.size W W') : BAt w0 g u v ns ss W' :=
 ⟨h.lo, blk_below h.box hb, Kd.R_below h.n hb, Kd.R_below h.s hb, below_then h.below h.below.size hb⟩
theorem BAt.c0 {w0 : World} {g : Nat} {u v : Value} {ns : List S41} {ss : List (List S55)} {W : World} (h : BAt w0 g u v ns ss W) : W.cell? ⟨g, 0, none⟩ = some u := (blk_cell h.box 0).trans rfl
theorem BAt.c1 {w0 : World} {g : Nat} {u v : Value} {ns : List S41} {ss : List (List S55)} {W : World} (h : BAt w0 g u v ns ss W) : W.cell? ⟨g, 1, none⟩ = some v := (blk_cell h.box 1).trans rfl
theorem eqP (w : World) (p : Option Addr) : (binOp .eql 35 (.pointer p) (.pointer none)).run Try.prog w = .ok (.bool p.isNone) w := run_eql_pointer_nil w 35 p (by kernel_rfl)
attribute [local go_sem high] eqP
set_option maxRecDepth 100000 in
set_option maxHeartbeats 1000000 in
theorem len_calls (w0 : World) (g : Nat) (u v : Value) (ns : List S41) (ss : List (List S55)) (W : World) (h : BAt w0 g u v ns ss W) :
  Calls Try.prog 26 #[.pointer (some ⟨g, 0, none⟩)] W fun e W' => e = .returned (.int .i64 (ns.length : Int)) ∧ W' = W := by
 obtain ⟨A, c, rfl, _, _⟩ := Kd.R_reads h.n
 have hc := h.c0
 clear h
 go_enter Try.func26, Try.ntmps26
 go_wp2
 go_ret
 exact ⟨rfl, rfl⟩
def thereB (n : Nat) (xs : List Int) : Bool := xs.all fun x => decide (0 ≤ x) && decide (x < (n : Int))
theorem rd_drop (xs : List Int) (j : Nat) (h : j < xs.length) : xs.drop j = rd xs (j : Int) :: xs.drop (j + 1) := by
 rw [List.drop_eq_getElem_cons h]
 simp [rd, rdOf, List.getD_eq_getElem?_getD, h]
set_option maxRecDepth 100000 in
set_option maxHeartbeats 1000000 in
theorem there_calls (w0 : World) (g : Nat) (u v : Value) (ns : List S41) (ss : List (List S55)) (W : World) (h : BAt w0 g u v ns ss W) (A : Option Addr) (c : Nat) (xs : List Int) (hx : Kd.C (Kd.int .i64) W A xs.length xs) (hl : xs.length < 2 ^ 31) (b : Bool) (hb : thereB ns.length xs = b) :
  Calls Try.prog 43 #[.pointer (some ⟨g, 0, none⟩), .slice A xs.length c] W fun e W' => e = .returned (.bool b) ∧ W' = W := by
 have H := Aside0.mk h
 have HX := Aside0.mk hx
 have HL := Aside0.mk hl
 have HB := Aside0.mk hb
 clear h hx hl hb
 go_enter Try.func43, Try.ntmps43
 go_wp2
 go_loopg [9] (xs.length + 1) (fun kq v9 w' => ∃ (x : Int) (j : Nat), v9 = .int .i64 x ∧ Aside0 (x = (j : Int)) ∧ Aside0 (j + kq = xs.length + 1) ∧ Aside0 (thereB ns.length (xs.drop j) = b) ∧ w' = W)
 case atStart => exact ⟨0, 0, rfl, ⟨rfl⟩, ⟨by omega⟩, ⟨by rw [List.drop_zero]; exact HB.out⟩, rfl⟩
 case round =>
  obtain ⟨x, j, rfl, HX1, HJ, HQ, rfl⟩ := hrel
  have hx := HX1.out
  by_cases cc : j < xs.length
  ·have p1 : 0 ≤ x := by omega
   have p2 : x < (xs.length : Int) := by omega
   obtain ⟨ad, eA, hxa⟩ := Kd.at_int HX.out x p1 p2
   subst eA
   replace p1' : decide (0 ≤ x) = true := decide_eq_true p1
   replace p2' : decide (x < (xs.length : Int)) = true := decide_eq_true p2
   replace p1 := eq_true p1
   replace p2 := eq_true p2
   obtain ⟨a, ha⟩ : ∃ a, rd xs x = a := ⟨_, rfl⟩
   rw [ha] at hxa
   have hL := HL.out
   have hw : wrap64 (x + 1) = ((j + 1 : Nat) : Int) := by unfold wrap64; omega
   have hq := HQ.out
   rw [rd_drop xs j cc, ← hx, ha] at hq
   have HW := Aside0.mk hw
   have HC := Aside0.mk cc
   clear hw hL HQ hx cc ha
   by_cases a0 : a < 0
   ·have hq' : b = false := by
     rw [← hq]
     simp [thereB, show ¬ (0 ≤ a) by omega]
    have HQ' := Aside0.mk hq'
    have a0' : decide (a < 0) = true := decide_eq_true a0
    clear hq hq'
    go_wp2_with (go_at_call 26; (refine (len_calls w0 g u v ns ss _ H.out).mono ?_); rintro e w4 ⟨rfl, rfl⟩)
    go_ret
    exact ⟨by rw [HQ'.out]; rfl, rfl⟩
   ·have a0' : decide (a < 0) = false := decide_eq_false a0
    by_cases a1 : (ns.length : Int) ≤ a
    ·have hq' : b = false := by
      rw [← hq]
      simp [thereB, show ¬ (a < (ns.length : Int)) by omega]
     have HQ' := Aside0.mk hq'
     have a1' : decide ((ns.length : Int) ≤ a) = true := decide_eq_true a1
     have a1'' : decide (a ≥ (ns.length : Int)) = true := decide_eq_true a1
     clear hq hq'
     go_wp2_with (go_at_call 26; (refine (len_calls w0 g u v ns ss _ H.out).mono ?_); rintro e w4 ⟨rfl, rfl⟩)
     go_ret
     exact ⟨by rw [HQ'.out]; rfl, rfl⟩
    ·have HQ' : Aside0 (thereB ns.length (xs.drop (j + 1)) = b) := ⟨by
      rw [← hq]
      simp [thereB, show 0 ≤ a by omega, show a < (ns.length : Int) by omega]⟩
     have a1' : decide ((ns.length : Int) ≤ a) = false := decide_eq_false a1
     have a1'' : decide (a ≥ (ns.length : Int)) = false := decide_eq_false a1
     clear hq
     go_wp2_with (go_at_call 26; (refine (len_calls w0 g u v ns ss _ H.out).mono ?_); rintro e w4 ⟨rfl, rfl⟩)
     cases gk with
     | zero => have := HJ.out; have := HC.out; omega
     | succ k1 =>
      go_roundg k1
      case measure => omega
      case rel => exact ⟨_, j + 1, rfl, ⟨HW.out⟩, ⟨by have := HJ.out; omega⟩, HQ', rfl⟩
  ·have p2' : decide (x < (xs.length : Int)) = false := decide_eq_false (by omega)
   have hq := HQ.out
   rw [List.drop_eq_nil_of_le (by omega)] at hq
   have HQ' : Aside0 (b = true) := ⟨by rw [← hq]; rfl⟩
   clear hq HQ hx cc
   go_wp2
   go_ret
   exact ⟨by rw [HQ'.out]; rfl, rfl⟩
theorem cell_al {W : World} {p : Addr} {u : Value} (h : W.cell? p = some u) (o1 : Obj) : (W.alloc o1).cell? p = some u := ((below_alloc (Below.refl _ W) o1).cell (World.block_lt_of_cell? W _ h)).trans h
theorem kept_put {W W1 w3 : World} {g j : Nat} {u : Value} {row : Option Nat} (h1 : Below W.heap.size W W1) (hg : W1.drew.grownBy w3 row) : Kept W (w3.setCell ⟨g, j, none⟩ u) (fun k => k = g ∨ some k = row) := by
 refine ⟨?_, fun i hi hn => ?_⟩
 ·have := h1.size
  have h2 : W1.heap.size ≤ w3.heap.size := hg.size
  have h3 : (w3.setCell ⟨g, j, none⟩ u).heap.size = w3.heap.size := by simp
  omega
 ·have hs := h1.size
  rw [Below.heap_setCell w3 ⟨g, j, none⟩ u i (fun e => hn (.inl e))]
  rw [hg.block i (show i < W1.heap.size by omega) (fun e => hn (.inr e))]
  exact h1.block i hi
set_option maxRecDepth 100000 in
set_option maxHeartbeats 2000000 in
/-- add, where a node may be added. -/
theorem add_calls (w0 : World) (g : Nat) (u v : Value) (ns : List S41) (ss : List (List S55)) (n0 n1 n2 n3 n4 n5 : Int) (W : World) (h : BAt w0 g u v ns ss W) (B : Option Addr) (cb : Nat) (xs : List Int) (hx : Kd.C (Kd.int .i64) W B xs.length xs) (hl : xs.length < 2 ^ 31) (hb : thereB ns.length xs = true) (hn : ns.length < 4096) :
  Calls Try.prog 36 #[.pointer (some ⟨g, 0, none⟩), .agg #[.int .i64 n0, .int .i64 n1, .int .i64 n2, .int .i64 n3, .int .i64 n4, .int .i64 n5], .slice B xs.length cb] W fun e W' => e = .returned (.int .i64 (ns.length : Int)) ∧ ∃ u', BAt w0 g u' v (ns ++ [⟨n0, n1, n2, n3, n4, n5⟩]) ss W' ∧ Kept W W' (fun k => k = g ∨ some k = u.ownBlock) ∧ (∀ k, some k = u'.ownBlock → some k = u.ownBlock ∨ W.heap.size ≤ k) := by
 obtain ⟨A, c, rfl, _, _⟩ := Kd.R_reads h.n
 have H := Aside0.mk h
 have hc0 := h.c0
 have hc := cell_al hc0 (.cells #[.int .i64 n0, .int .i64 n1, .int .i64 n2, .int .i64 n3, .int .i64 n4, .int .i64 n5] 41 (0, 0))
 have hnb := blk_new W (.cells #[.int .i64 n0, .int .i64 n1, .int .i64 n2, .int .i64 n3, .int .i64 n4, .int .i64 n5] 41 (0, 0))
 have hn0 : (W.alloc (.cells #[.int .i64 n0, .int .i64 n1, .int .i64 n2, .int .i64 n3, .int .i64 n4, .int .i64 n5] 41 (0, 0))).cell? ⟨W.heap.size, 0, none⟩ = some (.int .i64 n0) := (blk_cell hnb 0).trans rfl
 have hn1 : (W.alloc (.cells #[.int .i64 n0, .int .i64 n1, .int .i64 n2, .int .i64 n3, .int .i64 n4, .int .i64 n5] 41 (0, 0))).cell? ⟨W.heap.size, 1, none⟩ = some (.int .i64 n1) := (blk_cell hnb 1).trans rfl
 have hn2 : (W.alloc (.cells #[.int .i64 n0, .int .i64 n1, .int .i64 n2, .int .i64 n3, .int .i64 n4, .int .i64 n5] 41 (0, 0))).cell? ⟨W.heap.size, 2, none⟩ = some (.int .i64 n2) := (blk_cell hnb 2).trans rfl
 have hn3 : (W.alloc (.cells #[.int .i64 n0, .int .i64 n1, .int .i64 n2, .int .i64 n3, .int .i64 n4, .int .i64 n5] 41 (0, 0))).cell? ⟨W.heap.size, 3, none⟩ = some (.int .i64 n3) := (blk_cell hnb 3).trans rfl
 have hn4 : (W.alloc (.cells #[.int .i64 n0, .int .i64 n1, .int .i64 n2, .int .i64 n3, .int .i64 n4, .int .i64 n5] 41 (0, 0))).cell? ⟨W.heap.size, 4, none⟩ = some (.int .i64 n4) := (blk_cell hnb 4).trans rfl
 have hn5 : (W.alloc (.cells #[.int .i64 n0, .int .i64 n1, .int .i64 n2, .int .i64 n3, .int .i64 n4, .int .i64 n5] 41 (0, 0))).cell? ⟨W.heap.size, 5, none⟩ = some (.int .i64 n5) := (blk_cell hnb 5).trans rfl
 have H1 := Aside0.mk (h.under (below_alloc (Below.refl _ W) (.cells #[.int .i64 n0, .int .i64 n1, .int .i64 n2, .int .i64 n3, .int .i64 n4, .int .i64 n5] 41 (0, 0))))
 have HX := Aside0.mk (Kd.C_alloc hx (.cells #[.int .i64 n0, .int .i64 n1, .int .i64 n2, .int .i64 n3, .int .i64 n4, .int .i64 n5] 41 (0, 0)))
 have HXL := Aside0.mk hl
 have HBB := Aside0.mk hb
 have HL := Aside0.mk hn
 have hq : decide ((ns.length : Int) ≥ 4096) = false := decide_eq_false (by omega)
 have hq' : decide ((4096 : Int) ≤ (ns.length : Int)) = false := decide_eq_false (by omega)
 clear h hx hl hb hn hnb hc0
 go_enter Try.func36, Try.ntmps36
 go_wp2_with (go_at_call 43; (refine (there_calls w0 g _ v ns ss _ H1.out B cb xs HX.out HXL.out true HBB.out).mono ?_); rintro e w4 ⟨rfl, rfl⟩)
 generalize hW1 : W.alloc (.cells #[.int .i64 n0, .int .i64 n1, .int .i64 n2, .int .i64 n3, .int .i64 n4, .int .i64 n5] 41 (0, 0)) = W1 at *
 have HW1 : Aside0 (Below W.heap.size W W1) := ⟨by rw [← hW1]; exact below_alloc (Below.refl _ _) _⟩
 have H2 := Aside0.mk (H1.out.under (below_drew1 (Below.refl _ W1)))
 refine start_ (n := 11) (S := fun w' => w'.cell? ⟨g, 0, none⟩ = some (.slice A ns.length c) ∧ w'.cell? ⟨W.heap.size, 0, none⟩ = some (.int .i64 n0) ∧ w'.cell? ⟨W.heap.size, 1, none⟩ = some (.int .i64 n1) ∧ w'.cell? ⟨W.heap.size, 2, none⟩ = some (.int .i64 n2) ∧ w'.cell? ⟨W.heap.size, 3, none⟩ = some (.int .i64 n3) ∧ w'.cell? ⟨W.heap.size, 4, none⟩ = some (.int .i64 n4) ∧ w'.cell? ⟨W.heap.size, 5, none⟩ = some (.int .i64 n5)) (ds := [7, 10]) #[false, false, false, false, false, false, false, false, false, false, false] (by kernel_rfl) rfl rfl ⟨hc, hn0, hn1, hn2, hn3, hn4, hn5⟩ (fun hHeld => ?_)
 refine pq_ (i := 0) (n := 23) (bA 11 1) (by kernel_rfl) ?_
 refine pq_ (i := 1) (n := 24) (bA 11 3) (by kernel_rfl) ?_
 refine pq_ (i := 2) (n := 25) (bA 11 7) (by kernel_rfl) ?_
 refine pq_ (i := 3) (n := 26) (bA 11 15) (by kernel_rfl) ?_
 refine take_ (i := 4) (N := some 27) (v := ?_) (a' := ?_) (bA 11 31) rfl rfl (by kernel_rfl) (fun _ _ _ h => h) (Or.inl ⟨by rfl, ?_⟩) hHeld ?_ ?_
 rotate_left
 ·rintro w' ⟨s0, s1, s2, s3, s4, s5, s6⟩
  go_simp
  with_reducible rfl
 rotate_left
 ·exact nrm_
 refine take_ (i := 5) (N := some 28) (v := ?_) (a' := ?_) (bA 11 63) rfl rfl (by kernel_rfl) (fun _ _ _ h => h) (Or.inl ⟨by rfl, ?_⟩) hHeld ?_ ?_
 rotate_left
 ·rintro w' ⟨s0, s1, s2, s3, s4, s5, s6⟩
  go_simp
  with_reducible rfl
 rotate_left
 ·exact nrm_
 refine one_ (i := 6) (N := some 29) (bA 11 127) rfl rfl (by kernel_rfl) (by decide) (fun K hK => ?_)
 refine value_ (w1 := ?_) (v := ?_) (by rfl) rfl ?_ ?_
 rotate_left 2
 ·go_simp
  constructor
  ·rfl
  ·rfl
 refine hK.out _ _ ⟨(cell_al (W := W1.drew) hc _), (cell_al (W := W1.drew) hn0 _), (cell_al (W := W1.drew) hn1 _), (cell_al (W := W1.drew) hn2 _), (cell_al (W := W1.drew) hn3 _), (cell_al (W := W1.drew) hn4 _), (cell_al (W := W1.drew) hn5 _)⟩ (fun hHeld => ?_)
 clear hK K
 refine norm_ (a' := ?_) ?_ ?_
 rotate_left
 ·show Act.put _ (some 29) _ = _
  exact nrm_
 refine last_ (i := 7) (N := some 30) #[true, true, true, true, true, true, true, true, false, false, false] rfl rfl (by kernel_rfl) (by decide) (fun K hK => ?_)
 refine Kd.R_append_step k41 (w0 := w0) w0.heap.size (by rfl) (.tmp 27) (.tmp 29) 22 41 (.agg #[(.int .i64 0), (.int .i64 0), (.int .i64 0), (.int .i64 0), (.int .i64 0), (.int .i64 0)]) 48 rfl Try.underlying22 info41 rfl (by decide) (by omega) (.slice A ns.length c) ns ⟨n0, n1, n2, n3, n4, n5⟩ [.int .i64 n0, .int .i64 n1, .int .i64 n2, .int .i64 n3, .int .i64 n4, .int .i64 n5] (fun _ => True) (fun _ => False) rfl rfl (k41_mkM _ _ _ ⟨n0, n1, n2, n3, n4, n5⟩) (fun _ hk => hk.elim) (fun _ _ => trivial) H2.out.n H2.out.below H2.out.below.size (by have := HL.out; omega) ?_
 intro v1 w3 ho hb hg hat
 have hbox := blk_grown H2.out.box hg (Kd.R_ne H2.out.n H2.out.box (by decide))
 have HS3 := Aside0.mk (Kd.R_over H2.out.s H2.out.n (by decide) hg)
 obtain ⟨A1, c1, e1, _, _⟩ := Kd.R_reads ho
 rw [show (ns ++ [(⟨n0, n1, n2, n3, n4, n5⟩ : S41)]).length = ns.length + 1 by simp] at e1
 subst e1
 have hc3 : w3.cell? ⟨g, 0, none⟩ = some (.slice A ns.length c) := (blk_cell hbox 0).trans rfl
 have hf3 := blk_frozen hbox 0
 have HO := Aside0.mk ho
 have HBX := Aside0.mk hbox
 have HBW := Aside0.mk hb
 have HG := Aside0.mk hg
 have HAT := Aside0.mk hat
 clear ho hb hg hat hbox
 refine hK.out _ _ ?_
 clear hK K
 refine norm_ (a' := ?_) ?_ ?_
 rotate_left
 ·show Act.put _ (some 30) _ = _
  exact nrm_
 refine pq_ (i := 8) (n := 31) (bA 11 511) (by kernel_rfl) ?_
 refine pq_ (i := 9) (n := 32) (bA 11 1023) (by kernel_rfl) ?_
 refine last_ (i := 10) (N := none) #[true, true, true, true, true, true, true, true, true, true, true] rfl rfl (by kernel_rfl) (by decide) (fun K hK => ?_)
 refine skip_ (w1 := ?_) (by rfl) rfl ?_ ?_
 rotate_left
 ·go_simp
  rfl
 refine hK.out _ _ ?_
 clear hK K
 refine done_ (by kernel_rfl) ?_
 have hb4 : (w3.setCell ⟨g, 0, none⟩ (.slice A1 (ns.length + 1) c1)).heap[g]? = some (.cells #[.slice A1 (ns.length + 1) c1, v] 65 (0, 0)) := blk_put HBX.out 0 _ rfl
 have hcell : (w3.setCell ⟨g, 0, none⟩ (.slice A1 (ns.length + 1) c1)).cell? ⟨g, 0, none⟩ = some (.slice A1 (ns.length + 1) c1) := (blk_cell hb4 0).trans rfl
 have HF : Aside0 (BAt w0 g (.slice A1 (ns.length + 1) c1) v (ns ++ [⟨n0, n1, n2, n3, n4, n5⟩]) ss (w3.setCell ⟨g, 0, none⟩ (.slice A1 (ns.length + 1) c1))) := ⟨⟨H.out.lo, hb4, Kd.R_set HO.out HBX.out (by decide) 0 _, Kd.R_set HS3.out HBX.out (by decide) 0 _, HBW.out.setCell H.out.lo _⟩⟩
 have hL := HL.out
 have hw1 : wrap64 (((ns.length + 1 : Nat) : Int) - 1) = (ns.length : Int) := by unfold wrap64; omega
 have hw2 : wrap64 ((ns.length : Int) + 1 - 1) = (ns.length : Int) := by unfold wrap64; omega
 have hw3' : wrap64 (ns.length : Int) = (ns.length : Int) := by unfold wrap64; omega
 have HAT2 : Aside0 (∀ k, some k = (Value.slice A1 (ns.length + 1) c1).ownBlock → some k = (Value.slice A ns.length c).ownBlock ∨ W.heap.size ≤ k) := ⟨by
  intro k hk
  rcases HAT.out with h1 | ⟨b, h1, h2⟩
  ·exact .inl (hk.trans h1)
  ·right
   rw [h1] at hk
   injection hk with hk
   have := HW1.out.size
   have h3 : W1.heap.size ≤ b := h2
   omega⟩
 have HK : Aside0 (Kept W (w3.setCell ⟨g, 0, none⟩ (.slice A1 (ns.length + 1) c1)) (fun k => k = g ∨ some k = (Value.slice A ns.length c).ownBlock)) := ⟨kept_put HW1.out HG.out⟩
 clear hb4 hL hW1
 go_wp2_with fail
 go_ret
 exact ⟨by first | rfl | simp [*], _, HF.out, HK.out, HAT2.out⟩
set_option maxRecDepth 100000 in
set_option maxHeartbeats 2000000 in
/-- add, where a part is not there. -/
theorem add_not (w0 : World) (g : Nat) (u v : Value) (ns : List S41) (ss : List (List S55)) (n0 n1 n2 n3 n4 n5 : Int) (W : World) (h : BAt w0 g u v ns ss W) (B : Option Addr) (cb : Nat) (xs : List Int) (hx : Kd.C (Kd.int .i64) W B xs.length xs) (hl : xs.length < 2 ^ 31) (hb : thereB ns.length xs = false) (hn : ns.length < 4096) :
  Calls Try.prog 36 #[.pointer (some ⟨g, 0, none⟩), .agg #[.int .i64 n0, .int .i64 n1, .int .i64 n2, .int .i64 n3, .int .i64 n4, .int .i64 n5], .slice B xs.length cb] W fun e W' => e = .returned (.int .i64 (-1)) ∧ Below W.heap.size W W' := by
 obtain ⟨A, c, rfl, _, _⟩ := Kd.R_reads h.n
 have hc0 := h.c0
 have hc := cell_al hc0 (.cells #[.int .i64 n0, .int .i64 n1, .int .i64 n2, .int .i64 n3, .int .i64 n4, .int .i64 n5] 41 (0, 0))
 have H1 := Aside0.mk (h.under (below_alloc (Below.refl _ W) (.cells #[.int .i64 n0, .int .i64 n1, .int .i64 n2, .int .i64 n3, .int .i64 n4, .int .i64 n5] 41 (0, 0))))
 have HX := Aside0.mk (Kd.C_alloc hx (.cells #[.int .i64 n0, .int .i64 n1, .int .i64 n2, .int .i64 n3, .int .i64 n4, .int .i64 n5] 41 (0, 0)))
 have HXL := Aside0.mk hl
 have HBB := Aside0.mk hb
 have hq : decide ((ns.length : Int) ≥ 4096) = false := decide_eq_false (by omega)
 have hq' : decide ((4096 : Int) ≤ (ns.length : Int)) = false := decide_eq_false (by omega)
 clear h hx hl hb hn hc0
 go_enter Try.func36, Try.ntmps36
 go_wp2_with (go_at_call 43; (refine (there_calls w0 g _ v ns ss _ H1.out B cb xs HX.out HXL.out false HBB.out).mono ?_); rintro e w4 ⟨rfl, rfl⟩)
 go_ret
 exact ⟨rfl, below_alloc (Below.refl _ _) _⟩
end Go.Proofs.Ytbgoaigbkfibbaa.HandBl
