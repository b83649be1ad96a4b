import Derived.Test.YtlihkebmonfefaaDoorPGx0
import Derived.Test.YtlihkebmonfefaaDoorPGx19
import Derived.Test.YtlihkebmonfefaaDoorHandRight
import Derived.Test.YtlihkebmonfefaaDoorHandNode
/- The document's Print, by hand: a node of a tree that may be. Conditions: the tree lies there; what each node's text is. -/
set_option linter.unusedSimpArgs false
set_option linter.unusedVariables false
namespace Go.Proofs.YtlihkebmonfefaaDoor.HandRef
open Go.RowKit Go.Proofs.YtlihkebmonfefaaDoorW.PrintWords Go.Proofs.YtlihkebmonfefaaDoorW.PrintLast Go.Proofs.YtlihkebmonfefaaDoorW.PrintMore Go.Proofs.YtlihkebmonfefaaDoor.PG Go.Proofs.YtlihkebmonfefaaDoor.HandRight
open Go.Proofs.YtlihkebmonfefaaDoor.HandNode (right2 right34 right5 right1)
theorem cell_al {W : World} {p : Addr} {u : Value} (h : W.cell? p = some u) (o1 : Obj) : (W.alloc o1).cell? p = some u := ((below_alloc (Below.refl _ W) o1).cell (World.block_lt_of_cell? W _ h)).trans h
def parB (is : Bool) (t : ByteArray) : ByteArray := if is then ((⟨#[40]⟩ : ByteArray) ++ t) ++ (⟨#[41]⟩ : ByteArray) else t
theorem parB_size (is : Bool) (t : ByteArray) : (parB is t).size ≤ t.size + 2 := by
 cases is with
 | false => exact Nat.le_add_right _ _
 | true =>
  show (((⟨#[40]⟩ : ByteArray) ++ t) ++ (⟨#[41]⟩ : ByteArray)).size ≤ _
  rw [ByteArray.size_append, ByteArray.size_append]
  show 1 + t.size + 1 ≤ _
  omega
def RefC (ad : Addr) (c0 : Nat) (la : List S48) (A1 : Option Addr) (c1 : Nat) (sa : List (List S60)) (r i : Int) (t : ByteArray) : Prop := t.size ≤ 1000000000 ∧ ∀ W : World, Kd.C k48 W (some ad) la.length la → Kd.C (Kd.slice 60 k60) W A1 sa.length sa →
 Calls Tryd.prog 9 #[.agg #[.slice (some ad) la.length c0, .slice A1 sa.length c1, .int .i64 r], .int .i64 i] W fun e W' => e = .returned (.string t) ∧ Below W.heap.size W W'
set_option maxRecDepth 100000 in
set_option maxHeartbeats 2000000 in
theorem part_ref {ad : Addr} {c0 : Nat} {la : List S48} {A1 : Option Addr} {c1 : Nat} {sa : List (List S60)} {r i : Int} {t : ByteArray} (h : RefC ad c0 la A1 c1 sa r i t) (is : Bool) (W : World) (h0 : Kd.C k48 W (some ad) la.length la) (h1 : Kd.C (Kd.slice 60 k60) W A1 sa.length sa) :
  Calls Tryd.prog 21 #[.agg #[.slice (some ad) la.length c0, .slice A1 sa.length c1, .int .i64 r], .int .i64 i, .bool is] W fun e W' => e = .returned (.string (parB is t)) ∧ Below W.heap.size W W' := by
 have hu25 := Tryd.underlying25
 have hbx := blk_new W (.cells #[.slice (some ad) la.length c0, .slice A1 sa.length c1, .int .i64 r] 25 (0, 0))
 have hB1 : Below W.heap.size W (W.alloc (.cells #[.slice (some ad) la.length c0, .slice A1 sa.length c1, .int .i64 r] 25 (0, 0))) := below_alloc (Below.refl _ W) _
 have b0 : (W.alloc (.cells #[.slice (some ad) la.length c0, .slice A1 sa.length c1, .int .i64 r] 25 (0, 0))).cell? ⟨W.heap.size, 0, none⟩ = some (.slice (some ad) la.length c0) := (blk_cell hbx 0).trans rfl
 have b1 : (W.alloc (.cells #[.slice (some ad) la.length c0, .slice A1 sa.length c1, .int .i64 r] 25 (0, 0))).cell? ⟨W.heap.size, 1, none⟩ = some (.slice A1 sa.length c1) := (blk_cell hbx 1).trans rfl
 have b2 : (W.alloc (.cells #[.slice (some ad) la.length c0, .slice A1 sa.length c1, .int .i64 r] 25 (0, 0))).cell? ⟨W.heap.size, 2, none⟩ = some (.int .i64 r) := (blk_cell hbx 2).trans rfl
 have hs := h.1
 have hs1 : 1 + t.size ≤ 9223372036854775807 := by omega
 have hs2 : 1 + t.size + 1 ≤ 9223372036854775807 := by omega
 have HC := Aside0.mk (h.2 _ (Kd.C_below h0 hB1) (Kd.C_below h1 hB1))
 have HB1 := Aside0.mk hB1
 clear h hbx hB1 h0 h1 hs
 cases is with
 | true =>
  go_enter Tryd.func21, Tryd.ntmps21
  go_wp2_with (go_at_call 9; refine HC.out.mono ?_; rintro e w2 ⟨rfl, hb⟩; have HB2 := Aside0.mk (below_then HB1.out HB1.out.size hb); clear hb HC HB1)
  go_ret
  exact ⟨rfl, HB2.out⟩
 | false =>
  go_enter Tryd.func21, Tryd.ntmps21
  go_wp2_with (go_at_call 9; refine HC.out.mono ?_; rintro e w2 ⟨rfl, hb⟩; have HB2 := Aside0.mk (below_then HB1.out HB1.out.size hb); clear hb HC HB1)
  go_ret
  exact ⟨rfl, HB2.out⟩
set_option maxRecDepth 100000 in
set_option maxHeartbeats 2000000 in
theorem ref_one (ad : Addr) (c0 : Nat) (la : List S48) (A1 : Option Addr) (c1 : Nat) (sa : List (List S60)) (r i : Int) (h0 : 0 ≤ i) (h1 : i < (la.length : Int)) (x0 x1 x2 x3 x4 x5 : Int) (hX : rd_T48 la i = ⟨x0, x1, x2, x3, x4, x5⟩) (hR : rightN ⟨x0, x1, x2, x3, x4, x5⟩ i (sa.length : Int) = true) (hop : x0 = 1) 
  (W : World) (a0 : Kd.C k48 W (some ad) la.length la) (a1 : Kd.C (Kd.slice 60 k60) W A1 sa.length sa) : Calls Tryd.prog 9 #[.agg #[.slice (some ad) la.length c0, .slice A1 sa.length c1, .int .i64 r], .int .i64 i] W fun e W' => e = .returned (.string ⟨#[40, 41]⟩) ∧ Below W.heap.size W W' := by
 have hu25 := Tryd.underlying25
 obtain ⟨_, eA, hx0, hx1, hx2, hx3, hx4, hx5⟩ := at_T48 a0 i h0 h1
 cases eA
 rw [hX] at hx0 hx1 hx2 hx3 hx4 hx5
 subst hop
 have p0 : (0 ≤ i) = True := eq_true h0
 have p1 : (i < (la.length : Int)) = True := eq_true h1
 have hB1 : Below W.heap.size W (W.alloc (.cells #[.slice (some ad) la.length c0, .slice A1 sa.length c1, .int .i64 r] 25 (0, 0))) := below_alloc (Below.refl _ W) _
 have hB2 : Below W.heap.size W ((W.alloc (.cells #[.slice (some ad) la.length c0, .slice A1 sa.length c1, .int .i64 r] 25 (0, 0))).alloc (.cells #[.int .i64 1, .int .i64 x1, .int .i64 x2, .int .i64 x3, .int .i64 x4, .int .i64 x5] 48 (0, 0))) := below_alloc hB1 _
 have hbt := blk_new W (.cells #[.slice (some ad) la.length c0, .slice A1 sa.length c1, .int .i64 r] 25 (0, 0))
 have hbn := blk_new (W.alloc (.cells #[.slice (some ad) la.length c0, .slice A1 sa.length c1, .int .i64 r] 25 (0, 0))) (.cells #[.int .i64 1, .int .i64 x1, .int .i64 x2, .int .i64 x3, .int .i64 x4, .int .i64 x5] 48 (0, 0))
 have c0' : (W.alloc (.cells #[.slice (some ad) la.length c0, .slice A1 sa.length c1, .int .i64 r] 25 (0, 0))).cell? ⟨W.heap.size, 0, none⟩ = some (.slice (some ad) la.length c0) := (blk_cell hbt 0).trans rfl
 have hx0' := cell_al hx0 (.cells #[.slice (some ad) la.length c0, .slice A1 sa.length c1, .int .i64 r] 25 (0, 0))
 have hx1' := cell_al hx1 (.cells #[.slice (some ad) la.length c0, .slice A1 sa.length c1, .int .i64 r] 25 (0, 0))
 have hx2' := cell_al hx2 (.cells #[.slice (some ad) la.length c0, .slice A1 sa.length c1, .int .i64 r] 25 (0, 0))
 have hx3' := cell_al hx3 (.cells #[.slice (some ad) la.length c0, .slice A1 sa.length c1, .int .i64 r] 25 (0, 0))
 have hx4' := cell_al hx4 (.cells #[.slice (some ad) la.length c0, .slice A1 sa.length c1, .int .i64 r] 25 (0, 0))
 have hx5' := cell_al hx5 (.cells #[.slice (some ad) la.length c0, .slice A1 sa.length c1, .int .i64 r] 25 (0, 0))
 have ht0 : ((W.alloc (.cells #[.slice (some ad) la.length c0, .slice A1 sa.length c1, .int .i64 r] 25 (0, 0))).alloc (.cells #[.int .i64 1, .int .i64 x1, .int .i64 x2, .int .i64 x3, .int .i64 x4, .int .i64 x5] 48 (0, 0))).cell? ⟨W.heap.size, 0, none⟩ = some (.slice (some ad) la.length c0) := cell_al ((blk_cell hbt 0).trans rfl) _
 have ht1 : ((W.alloc (.cells #[.slice (some ad) la.length c0, .slice A1 sa.length c1, .int .i64 r] 25 (0, 0))).alloc (.cells #[.int .i64 1, .int .i64 x1, .int .i64 x2, .int .i64 x3, .int .i64 x4, .int .i64 x5] 48 (0, 0))).cell? ⟨W.heap.size, 1, none⟩ = some (.slice A1 sa.length c1) := cell_al ((blk_cell hbt 1).trans rfl) _
 have ht2 : ((W.alloc (.cells #[.slice (some ad) la.length c0, .slice A1 sa.length c1, .int .i64 r] 25 (0, 0))).alloc (.cells #[.int .i64 1, .int .i64 x1, .int .i64 x2, .int .i64 x3, .int .i64 x4, .int .i64 x5] 48 (0, 0))).cell? ⟨W.heap.size, 2, none⟩ = some (.int .i64 r) := cell_al ((blk_cell hbt 2).trans rfl) _
 have hn0 : ((W.alloc (.cells #[.slice (some ad) la.length c0, .slice A1 sa.length c1, .int .i64 r] 25 (0, 0))).alloc (.cells #[.int .i64 1, .int .i64 x1, .int .i64 x2, .int .i64 x3, .int .i64 x4, .int .i64 x5] 48 (0, 0))).cell? ⟨W.heap.size + 1, 0, none⟩ = some (.int .i64 1) := by simp
 have hn1 : ((W.alloc (.cells #[.slice (some ad) la.length c0, .slice A1 sa.length c1, .int .i64 r] 25 (0, 0))).alloc (.cells #[.int .i64 1, .int .i64 x1, .int .i64 x2, .int .i64 x3, .int .i64 x4, .int .i64 x5] 48 (0, 0))).cell? ⟨W.heap.size + 1, 1, none⟩ = some (.int .i64 x1) := by simp
 have hn2 : ((W.alloc (.cells #[.slice (some ad) la.length c0, .slice A1 sa.length c1, .int .i64 r] 25 (0, 0))).alloc (.cells #[.int .i64 1, .int .i64 x1, .int .i64 x2, .int .i64 x3, .int .i64 x4, .int .i64 x5] 48 (0, 0))).cell? ⟨W.heap.size + 1, 2, none⟩ = some (.int .i64 x2) := by simp
 have hn3 : ((W.alloc (.cells #[.slice (some ad) la.length c0, .slice A1 sa.length c1, .int .i64 r] 25 (0, 0))).alloc (.cells #[.int .i64 1, .int .i64 x1, .int .i64 x2, .int .i64 x3, .int .i64 x4, .int .i64 x5] 48 (0, 0))).cell? ⟨W.heap.size + 1, 3, none⟩ = some (.int .i64 x3) := by simp
 have hn4 : ((W.alloc (.cells #[.slice (some ad) la.length c0, .slice A1 sa.length c1, .int .i64 r] 25 (0, 0))).alloc (.cells #[.int .i64 1, .int .i64 x1, .int .i64 x2, .int .i64 x3, .int .i64 x4, .int .i64 x5] 48 (0, 0))).cell? ⟨W.heap.size + 1, 4, none⟩ = some (.int .i64 x4) := by simp
 have hn5 : ((W.alloc (.cells #[.slice (some ad) la.length c0, .slice A1 sa.length c1, .int .i64 r] 25 (0, 0))).alloc (.cells #[.int .i64 1, .int .i64 x1, .int .i64 x2, .int .i64 x3, .int .i64 x4, .int .i64 x5] 48 (0, 0))).cell? ⟨W.heap.size + 1, 5, none⟩ = some (.int .i64 x5) := by simp
 have HR := Aside0.mk hR
 have HI := Aside0.mk (And.intro h0 h1)
 have HA0 := Aside0.mk a0
 have HA1 := Aside0.mk a1
 have HBw := Aside0.mk hB2
 clear hX hR h0 h1 a0 a1 hB1 hB2 hbt hbn
 go_enter Tryd.func9, Tryd.ntmps9
 go_wp2_with fail
 go_ret
 exact ⟨rfl, HBw.out⟩
set_option maxRecDepth 100000 in
set_option maxHeartbeats 2000000 in
theorem ref_two (ad : Addr) (c0 : Nat) (la : List S48) (A1 : Option Addr) (c1 : Nat) (sa : List (List S60)) (r i : Int) (h0 : 0 ≤ i) (h1 : i < (la.length : Int)) (x0 x1 x2 x3 x4 x5 : Int) (hX : rd_T48 la i = ⟨x0, x1, x2, x3, x4, x5⟩) (hR : rightN ⟨x0, x1, x2, x3, x4, x5⟩ i (sa.length : Int) = true) (hop : x0 = 2) (k : Nat) (t : ByteArray) (ht : spoolref14_set.f k (rd_L4 sa x5) = some t)
  (W : World) (a0 : Kd.C k48 W (some ad) la.length la) (a1 : Kd.C (Kd.slice 60 k60) W A1 sa.length sa) : Calls Tryd.prog 9 #[.agg #[.slice (some ad) la.length c0, .slice A1 sa.length c1, .int .i64 r], .int .i64 i] W fun e W' => e = .returned (.string t) ∧ Below W.heap.size W W' := by
 have hu25 := Tryd.underlying25
 obtain ⟨_, eA, hx0, hx1, hx2, hx3, hx4, hx5⟩ := at_T48 a0 i h0 h1
 cases eA
 rw [hX] at hx0 hx1 hx2 hx3 hx4 hx5
 subst hop
 have p0 : (0 ≤ i) = True := eq_true h0
 have p1 : (i < (la.length : Int)) = True := eq_true h1
 have hB1 : Below W.heap.size W (W.alloc (.cells #[.slice (some ad) la.length c0, .slice A1 sa.length c1, .int .i64 r] 25 (0, 0))) := below_alloc (Below.refl _ W) _
 have hB2 : Below W.heap.size W ((W.alloc (.cells #[.slice (some ad) la.length c0, .slice A1 sa.length c1, .int .i64 r] 25 (0, 0))).alloc (.cells #[.int .i64 2, .int .i64 x1, .int .i64 x2, .int .i64 x3, .int .i64 x4, .int .i64 x5] 48 (0, 0))) := below_alloc hB1 _
 have hbt := blk_new W (.cells #[.slice (some ad) la.length c0, .slice A1 sa.length c1, .int .i64 r] 25 (0, 0))
 have hbn := blk_new (W.alloc (.cells #[.slice (some ad) la.length c0, .slice A1 sa.length c1, .int .i64 r] 25 (0, 0))) (.cells #[.int .i64 2, .int .i64 x1, .int .i64 x2, .int .i64 x3, .int .i64 x4, .int .i64 x5] 48 (0, 0))
 have c0' : (W.alloc (.cells #[.slice (some ad) la.length c0, .slice A1 sa.length c1, .int .i64 r] 25 (0, 0))).cell? ⟨W.heap.size, 0, none⟩ = some (.slice (some ad) la.length c0) := (blk_cell hbt 0).trans rfl
 have hx0' := cell_al hx0 (.cells #[.slice (some ad) la.length c0, .slice A1 sa.length c1, .int .i64 r] 25 (0, 0))
 have hx1' := cell_al hx1 (.cells #[.slice (some ad) la.length c0, .slice A1 sa.length c1, .int .i64 r] 25 (0, 0))
 have hx2' := cell_al hx2 (.cells #[.slice (some ad) la.length c0, .slice A1 sa.length c1, .int .i64 r] 25 (0, 0))
 have hx3' := cell_al hx3 (.cells #[.slice (some ad) la.length c0, .slice A1 sa.length c1, .int .i64 r] 25 (0, 0))
 have hx4' := cell_al hx4 (.cells #[.slice (some ad) la.length c0, .slice A1 sa.length c1, .int .i64 r] 25 (0, 0))
 have hx5' := cell_al hx5 (.cells #[.slice (some ad) la.length c0, .slice A1 sa.length c1, .int .i64 r] 25 (0, 0))
 have ht0 : ((W.alloc (.cells #[.slice (some ad) la.length c0, .slice A1 sa.length c1, .int .i64 r] 25 (0, 0))).alloc (.cells #[.int .i64 2, .int .i64 x1, .int .i64 x2, .int .i64 x3, .int .i64 x4, .int .i64 x5] 48 (0, 0))).cell? ⟨W.heap.size, 0, none⟩ = some (.slice (some ad) la.length c0) := cell_al ((blk_cell hbt 0).trans rfl) _
 have ht1 : ((W.alloc (.cells #[.slice (some ad) la.length c0, .slice A1 sa.length c1, .int .i64 r] 25 (0, 0))).alloc (.cells #[.int .i64 2, .int .i64 x1, .int .i64 x2, .int .i64 x3, .int .i64 x4, .int .i64 x5] 48 (0, 0))).cell? ⟨W.heap.size, 1, none⟩ = some (.slice A1 sa.length c1) := cell_al ((blk_cell hbt 1).trans rfl) _
 have ht2 : ((W.alloc (.cells #[.slice (some ad) la.length c0, .slice A1 sa.length c1, .int .i64 r] 25 (0, 0))).alloc (.cells #[.int .i64 2, .int .i64 x1, .int .i64 x2, .int .i64 x3, .int .i64 x4, .int .i64 x5] 48 (0, 0))).cell? ⟨W.heap.size, 2, none⟩ = some (.int .i64 r) := cell_al ((blk_cell hbt 2).trans rfl) _
 have hn0 : ((W.alloc (.cells #[.slice (some ad) la.length c0, .slice A1 sa.length c1, .int .i64 r] 25 (0, 0))).alloc (.cells #[.int .i64 2, .int .i64 x1, .int .i64 x2, .int .i64 x3, .int .i64 x4, .int .i64 x5] 48 (0, 0))).cell? ⟨W.heap.size + 1, 0, none⟩ = some (.int .i64 2) := by simp
 have hn1 : ((W.alloc (.cells #[.slice (some ad) la.length c0, .slice A1 sa.length c1, .int .i64 r] 25 (0, 0))).alloc (.cells #[.int .i64 2, .int .i64 x1, .int .i64 x2, .int .i64 x3, .int .i64 x4, .int .i64 x5] 48 (0, 0))).cell? ⟨W.heap.size + 1, 1, none⟩ = some (.int .i64 x1) := by simp
 have hn2 : ((W.alloc (.cells #[.slice (some ad) la.length c0, .slice A1 sa.length c1, .int .i64 r] 25 (0, 0))).alloc (.cells #[.int .i64 2, .int .i64 x1, .int .i64 x2, .int .i64 x3, .int .i64 x4, .int .i64 x5] 48 (0, 0))).cell? ⟨W.heap.size + 1, 2, none⟩ = some (.int .i64 x2) := by simp
 have hn3 : ((W.alloc (.cells #[.slice (some ad) la.length c0, .slice A1 sa.length c1, .int .i64 r] 25 (0, 0))).alloc (.cells #[.int .i64 2, .int .i64 x1, .int .i64 x2, .int .i64 x3, .int .i64 x4, .int .i64 x5] 48 (0, 0))).cell? ⟨W.heap.size + 1, 3, none⟩ = some (.int .i64 x3) := by simp
 have hn4 : ((W.alloc (.cells #[.slice (some ad) la.length c0, .slice A1 sa.length c1, .int .i64 r] 25 (0, 0))).alloc (.cells #[.int .i64 2, .int .i64 x1, .int .i64 x2, .int .i64 x3, .int .i64 x4, .int .i64 x5] 48 (0, 0))).cell? ⟨W.heap.size + 1, 4, none⟩ = some (.int .i64 x4) := by simp
 have hn5 : ((W.alloc (.cells #[.slice (some ad) la.length c0, .slice A1 sa.length c1, .int .i64 r] 25 (0, 0))).alloc (.cells #[.int .i64 2, .int .i64 x1, .int .i64 x2, .int .i64 x3, .int .i64 x4, .int .i64 x5] 48 (0, 0))).cell? ⟨W.heap.size + 1, 5, none⟩ = some (.int .i64 x5) := by simp
 have HR := Aside0.mk hR
 have HI := Aside0.mk (And.intro h0 h1)
 have HA0 := Aside0.mk a0
 have HA1 := Aside0.mk a1
 have HBw := Aside0.mk hB2
 obtain ⟨i0, i1⟩ := right2 hR
 obtain ⟨sd, As, cs, eS, hs, hla, hia⟩ := at_L4 (Kd.C_below a1 hB2) x5 i0 i1
 subst eS
 have q0 : (0 ≤ x5) = True := eq_true i0
 have q1 : (x5 < (sa.length : Int)) = True := eq_true i1
 have HIA := Aside0.mk hia
 have HLA := Aside0.mk hla
 have HT := Aside0.mk ht
 clear i0 i1 hia hla ht
 clear hX hR h0 h1 a0 a1 hB1 hB2 hbt hbn
 go_enter Tryd.func9, Tryd.ntmps9
 go_wp2_with (go_at_call 20; (refine (spoolref14_set.calls k As cs (rd_L4 sa x5) t _ HIA.out HLA.out HT.out).mono ?_); rintro e w4 ⟨rfl, hb⟩; have HF := Aside0.mk (below_then HBw.out HBw.out.size hb); clear hb)
 go_ret
 exact ⟨rfl, HF.out⟩
set_option maxRecDepth 100000 in
set_option maxHeartbeats 2000000 in
theorem ref_three_a (ad : Addr) (c0 : Nat) (la : List S48) (A1 : Option Addr) (c1 : Nat) (sa : List (List S60)) (r i : Int) (h0 : 0 ≤ i) (h1 : i < (la.length : Int)) (x0 x1 x2 x3 x4 x5 : Int) (hX : rd_T48 la i = ⟨x0, x1, x2, x3, x4, x5⟩) (hR : rightN ⟨x0, x1, x2, x3, x4, x5⟩ i (sa.length : Int) = true) (hop : x0 = 3) (a b : Int) (ta tb2 : ByteArray) (hoa : (rd_T48 la x1).f0 = a) (hob : (rd_T48 la x2).f0 = b) (h1' : RefC ad c0 la A1 c1 sa r x1 ta) (h2' : RefC ad c0 la A1 c1 sa r x2 tb2) (hb3 : b = 3)
  (W : World) (a0 : Kd.C k48 W (some ad) la.length la) (a1 : Kd.C (Kd.slice 60 k60) W A1 sa.length sa) : Calls Tryd.prog 9 #[.agg #[.slice (some ad) la.length c0, .slice A1 sa.length c1, .int .i64 r], .int .i64 i] W fun e W' => e = .returned (.string (parB (a == 4) ta ++ parB true tb2)) ∧ Below W.heap.size W W' := by
 have hu25 := Tryd.underlying25
 obtain ⟨_, eA, hx0, hx1, hx2, hx3, hx4, hx5⟩ := at_T48 a0 i h0 h1
 cases eA
 rw [hX] at hx0 hx1 hx2 hx3 hx4 hx5
 subst hop
 have p0 : (0 ≤ i) = True := eq_true h0
 have p1 : (i < (la.length : Int)) = True := eq_true h1
 have hB1 : Below W.heap.size W (W.alloc (.cells #[.slice (some ad) la.length c0, .slice A1 sa.length c1, .int .i64 r] 25 (0, 0))) := below_alloc (Below.refl _ W) _
 have hB2 : Below W.heap.size W ((W.alloc (.cells #[.slice (some ad) la.length c0, .slice A1 sa.length c1, .int .i64 r] 25 (0, 0))).alloc (.cells #[.int .i64 3, .int .i64 x1, .int .i64 x2, .int .i64 x3, .int .i64 x4, .int .i64 x5] 48 (0, 0))) := below_alloc hB1 _
 have hbt := blk_new W (.cells #[.slice (some ad) la.length c0, .slice A1 sa.length c1, .int .i64 r] 25 (0, 0))
 have hbn := blk_new (W.alloc (.cells #[.slice (some ad) la.length c0, .slice A1 sa.length c1, .int .i64 r] 25 (0, 0))) (.cells #[.int .i64 3, .int .i64 x1, .int .i64 x2, .int .i64 x3, .int .i64 x4, .int .i64 x5] 48 (0, 0))
 have c0' : (W.alloc (.cells #[.slice (some ad) la.length c0, .slice A1 sa.length c1, .int .i64 r] 25 (0, 0))).cell? ⟨W.heap.size, 0, none⟩ = some (.slice (some ad) la.length c0) := (blk_cell hbt 0).trans rfl
 have hx0' := cell_al hx0 (.cells #[.slice (some ad) la.length c0, .slice A1 sa.length c1, .int .i64 r] 25 (0, 0))
 have hx1' := cell_al hx1 (.cells #[.slice (some ad) la.length c0, .slice A1 sa.length c1, .int .i64 r] 25 (0, 0))
 have hx2' := cell_al hx2 (.cells #[.slice (some ad) la.length c0, .slice A1 sa.length c1, .int .i64 r] 25 (0, 0))
 have hx3' := cell_al hx3 (.cells #[.slice (some ad) la.length c0, .slice A1 sa.length c1, .int .i64 r] 25 (0, 0))
 have hx4' := cell_al hx4 (.cells #[.slice (some ad) la.length c0, .slice A1 sa.length c1, .int .i64 r] 25 (0, 0))
 have hx5' := cell_al hx5 (.cells #[.slice (some ad) la.length c0, .slice A1 sa.length c1, .int .i64 r] 25 (0, 0))
 have ht0 : ((W.alloc (.cells #[.slice (some ad) la.length c0, .slice A1 sa.length c1, .int .i64 r] 25 (0, 0))).alloc (.cells #[.int .i64 3, .int .i64 x1, .int .i64 x2, .int .i64 x3, .int .i64 x4, .int .i64 x5] 48 (0, 0))).cell? ⟨W.heap.size, 0, none⟩ = some (.slice (some ad) la.length c0) := cell_al ((blk_cell hbt 0).trans rfl) _
 have ht1 : ((W.alloc (.cells #[.slice (some ad) la.length c0, .slice A1 sa.length c1, .int .i64 r] 25 (0, 0))).alloc (.cells #[.int .i64 3, .int .i64 x1, .int .i64 x2, .int .i64 x3, .int .i64 x4, .int .i64 x5] 48 (0, 0))).cell? ⟨W.heap.size, 1, none⟩ = some (.slice A1 sa.length c1) := cell_al ((blk_cell hbt 1).trans rfl) _
 have ht2 : ((W.alloc (.cells #[.slice (some ad) la.length c0, .slice A1 sa.length c1, .int .i64 r] 25 (0, 0))).alloc (.cells #[.int .i64 3, .int .i64 x1, .int .i64 x2, .int .i64 x3, .int .i64 x4, .int .i64 x5] 48 (0, 0))).cell? ⟨W.heap.size, 2, none⟩ = some (.int .i64 r) := cell_al ((blk_cell hbt 2).trans rfl) _
 have hn0 : ((W.alloc (.cells #[.slice (some ad) la.length c0, .slice A1 sa.length c1, .int .i64 r] 25 (0, 0))).alloc (.cells #[.int .i64 3, .int .i64 x1, .int .i64 x2, .int .i64 x3, .int .i64 x4, .int .i64 x5] 48 (0, 0))).cell? ⟨W.heap.size + 1, 0, none⟩ = some (.int .i64 3) := by simp
 have hn1 : ((W.alloc (.cells #[.slice (some ad) la.length c0, .slice A1 sa.length c1, .int .i64 r] 25 (0, 0))).alloc (.cells #[.int .i64 3, .int .i64 x1, .int .i64 x2, .int .i64 x3, .int .i64 x4, .int .i64 x5] 48 (0, 0))).cell? ⟨W.heap.size + 1, 1, none⟩ = some (.int .i64 x1) := by simp
 have hn2 : ((W.alloc (.cells #[.slice (some ad) la.length c0, .slice A1 sa.length c1, .int .i64 r] 25 (0, 0))).alloc (.cells #[.int .i64 3, .int .i64 x1, .int .i64 x2, .int .i64 x3, .int .i64 x4, .int .i64 x5] 48 (0, 0))).cell? ⟨W.heap.size + 1, 2, none⟩ = some (.int .i64 x2) := by simp
 have hn3 : ((W.alloc (.cells #[.slice (some ad) la.length c0, .slice A1 sa.length c1, .int .i64 r] 25 (0, 0))).alloc (.cells #[.int .i64 3, .int .i64 x1, .int .i64 x2, .int .i64 x3, .int .i64 x4, .int .i64 x5] 48 (0, 0))).cell? ⟨W.heap.size + 1, 3, none⟩ = some (.int .i64 x3) := by simp
 have hn4 : ((W.alloc (.cells #[.slice (some ad) la.length c0, .slice A1 sa.length c1, .int .i64 r] 25 (0, 0))).alloc (.cells #[.int .i64 3, .int .i64 x1, .int .i64 x2, .int .i64 x3, .int .i64 x4, .int .i64 x5] 48 (0, 0))).cell? ⟨W.heap.size + 1, 4, none⟩ = some (.int .i64 x4) := by simp
 have hn5 : ((W.alloc (.cells #[.slice (some ad) la.length c0, .slice A1 sa.length c1, .int .i64 r] 25 (0, 0))).alloc (.cells #[.int .i64 3, .int .i64 x1, .int .i64 x2, .int .i64 x3, .int .i64 x4, .int .i64 x5] 48 (0, 0))).cell? ⟨W.heap.size + 1, 5, none⟩ = some (.int .i64 x5) := by simp
 have HR := Aside0.mk hR
 have HI := Aside0.mk (And.intro h0 h1)
 have HA0 := Aside0.mk a0
 have HA1 := Aside0.mk a1
 have HBw := Aside0.mk hB2
 obtain ⟨⟨i0, i1⟩, j0, j1⟩ := right34 (Or.inl rfl) hR
 obtain ⟨_, eA, ha, _⟩ := at_T48 (Kd.C_below a0 hB2) x1 i0 (by omega)
 cases eA
 obtain ⟨_, eA, hb, _⟩ := at_T48 (Kd.C_below a0 hB2) x2 j0 (by omega)
 cases eA
 rw [hoa] at ha
 rw [hob] at hb
 have q0 : (0 ≤ x1) = True := eq_true i0
 have q1 : (x1 < (la.length : Int)) = True := eq_true (by omega)
 have q2 : (0 ≤ x2) = True := eq_true j0
 have q3 : (x2 < (la.length : Int)) = True := eq_true (by omega)
 have HX1 := Aside0.mk h1'
 have HX2 := Aside0.mk h2'
 have hz1 := h1'.1
 have hz2 := h2'.1
 have hs1 : (parB (a == 4) ta).size + (parB true tb2).size ≤ 9223372036854775807 := by have := parB_size (a == 4) ta; have := parB_size true tb2; omega
 have hs1' : (9223372036854775807 < (parB (a == 4) ta).size + (parB true tb2).size) = False := eq_false (by omega)
 clear i0 i1 j0 j1 hz1 hz2 h1' h2' hoa hob
 subst hb3
 clear hX hR h0 h1 a0 a1 hB1 hB2 hbt hbn
 go_enter Tryd.func9, Tryd.ntmps9
 go_wp2_with fail
 obtain ⟨W1, hW1⟩ : ∃ W1, W1 = (W.alloc (.cells #[.slice (some ad) la.length c0, .slice A1 sa.length c1, .int .i64 r] 25 (0, 0))).alloc (.cells #[.int .i64 3, .int .i64 x1, .int .i64 x2, .int .i64 x3, .int .i64 x4, .int .i64 x5] 48 (0, 0)) := ⟨_, rfl⟩
 rw [← hW1]
 rw [← hW1] at ht0 ht1 ht2 hn0 hn1 hn2 hn3 hn4 hn5
 have HBw : Aside0 (Below W.heap.size W W1) := ⟨by rw [hW1]; exact HBw.out⟩
 clear hW1
 refine start_ (n := 18) (S := fun w' => w'.cell? ⟨W.heap.size, 0, none⟩ = some (.slice (some ad) la.length c0) ∧ w'.cell? ⟨W.heap.size, 1, none⟩ = some (.slice A1 sa.length c1) ∧ w'.cell? ⟨W.heap.size, 2, none⟩ = some (.int .i64 r) ∧ w'.cell? ⟨W.heap.size + 1, 1, none⟩ = some (.int .i64 x1) ∧ w'.cell? ⟨W.heap.size + 1, 2, none⟩ = some (.int .i64 x2)) (ds := [15]) #[false, false, false, false, false, false, false, false, false, false, false, false, false, false, false, false, false, false] (by kernel_rfl) rfl rfl ⟨ht0, ht1, ht2, hn1, hn2⟩ (fun hHeld => ?_)
 refine pq_ (i := 1) (n := 44) (bA 18 2) (by kernel_rfl) ?_
 refine pq_ (i := 3) (n := 46) (bA 18 10) (by kernel_rfl) ?_
 refine pq_ (i := 4) (n := 47) (bA 18 26) (by kernel_rfl) ?_
 refine pq_ (i := 7) (n := 50) (bA 18 154) (by kernel_rfl) ?_
 refine pq_ (i := 9) (n := 52) (bA 18 666) (by kernel_rfl) ?_
 refine pq_ (i := 10) (n := 53) (bA 18 1690) (by kernel_rfl) ?_
 refine tq_ (i := 0) (n := 43) (bA 18 1691) (by kernel_rfl) hHeld ?_
 refine tq_ (i := 2) (n := 45) (bA 18 1695) (by kernel_rfl) hHeld ?_
 refine tq_ (i := 6) (n := 49) (bA 18 1759) (by kernel_rfl) hHeld ?_
 refine tq_ (i := 8) (n := 51) (bA 18 2015) (by kernel_rfl) hHeld ?_
 refine one_ (i := 5) (N := some 48) (bA 18 2047) rfl rfl (by kernel_rfl) (by decide) (fun K hK => ?_)
 refine goes_ Tryd.func21 (by kernel_rfl) rfl #[.agg #[.slice (some ad) la.length c0, .slice A1 sa.length c1, .int .i64 r], .int .i64 x1, .bool (a == 4)] (by rfl) rfl rfl (by simp only [List.map_toArray, List.map_cons, List.map_nil]; rfl) ?_
 with_reducible refine (part_ref HX1.out ((a == 4)) _ (Kd.C_below HA0.out (below_then HBw.out HBw.out.size (below_drew1 (Below.refl _ W1)))) (Kd.C_below HA1.out (below_then HBw.out HBw.out.size (below_drew1 (Below.refl _ W1))))).mono ?_
 rintro e w4 ⟨rfl, hb4⟩
 refine ⟨_, rfl, ?_⟩
 refine hK.out _ _ ⟨(pw_cell_below hb4 ht0), (pw_cell_below hb4 ht1), (pw_cell_below hb4 ht2), (pw_cell_below hb4 hn1), (pw_cell_below hb4 hn2)⟩ (fun hHeld => ?_)
 clear hK K
 refine nm_ (n := 48) ?_
 refine pq_ (i := 11) (n := 54) (bA 18 4095) (by kernel_rfl) ?_
 refine pure_ (i := 12) (N := some 55) (v := undef) (a' := ?_) (bA 18 8191) rfl rfl (by kernel_rfl) (fun _ _ _ h => h) (Or.inr ⟨by rfl, rfl⟩) ?_ ?_
 rotate_left
 ·exact nrm_
 refine pure_ (i := 13) (N := some 56) (v := undef) (a' := ?_) (bA 18 16383) rfl rfl (by kernel_rfl) (fun _ _ _ h => h) (Or.inr ⟨by rfl, rfl⟩) ?_ ?_
 rotate_left
 ·exact nrm_
 refine pq_ (i := 14) (n := 57) (bA 18 32767) (by kernel_rfl) ?_
 refine last_ (i := 15) (N := some 58) #[true, true, true, true, true, true, true, true, true, true, true, true, true, true, true, true, false, false] rfl rfl (by kernel_rfl) (by decide) (fun K hK => ?_)
 refine goes_ Tryd.func21 (by kernel_rfl) rfl #[.agg #[.slice (some ad) la.length c0, .slice A1 sa.length c1, .int .i64 r], .int .i64 x2, .bool true] (by rfl) rfl rfl (by simp only [List.map_toArray, List.map_cons, List.map_nil]; rfl) ?_
 with_reducible refine (part_ref HX2.out (true) _ (Kd.C_below HA0.out (below_then (below_then HBw.out HBw.out.size (below_drew1 (Below.refl _ W1))) (Below.size (below_then HBw.out HBw.out.size (below_drew1 (Below.refl _ W1)))) hb4)) (Kd.C_below HA1.out (below_then (below_then HBw.out HBw.out.size (below_drew1 (Below.refl _ W1))) (Below.size (below_then HBw.out HBw.out.size (below_drew1 (Below.refl _ W1)))) hb4))).mono ?_
 rintro e w5 ⟨rfl, hb5⟩
 refine ⟨_, rfl, ?_⟩
 refine hK.out _ _ ?_
 clear hK K
 refine nm_ (n := 58) ?_
 refine pq_ (i := 16) (n := 59) (bA 18 131071) (by kernel_rfl) ?_
 refine pq_ (i := 17) (n := 4) (bA 18 262143) (by kernel_rfl) ?_
 refine done_ (by kernel_rfl) ?_
 go_wp2_with fail
 go_ret
 exact ⟨rfl, below_then (below_then (below_then HBw.out HBw.out.size (below_drew1 (Below.refl _ W1))) (Below.size (below_then HBw.out HBw.out.size (below_drew1 (Below.refl _ W1)))) hb4) (Below.size (below_then (below_then HBw.out HBw.out.size (below_drew1 (Below.refl _ W1))) (Below.size (below_then HBw.out HBw.out.size (below_drew1 (Below.refl _ W1)))) hb4)) hb5⟩
set_option maxRecDepth 100000 in
set_option maxHeartbeats 2000000 in
theorem ref_three_b (ad : Addr) (c0 : Nat) (la : List S48) (A1 : Option Addr) (c1 : Nat) (sa : List (List S60)) (r i : Int) (h0 : 0 ≤ i) (h1 : i < (la.length : Int)) (x0 x1 x2 x3 x4 x5 : Int) (hX : rd_T48 la i = ⟨x0, x1, x2, x3, x4, x5⟩) (hR : rightN ⟨x0, x1, x2, x3, x4, x5⟩ i (sa.length : Int) = true) (hop : x0 = 3) (a b : Int) (ta tb2 : ByteArray) (hoa : (rd_T48 la x1).f0 = a) (hob : (rd_T48 la x2).f0 = b) (h1' : RefC ad c0 la A1 c1 sa r x1 ta) (h2' : RefC ad c0 la A1 c1 sa r x2 tb2) (hb3 : ¬ b = 3)
  (W : World) (a0 : Kd.C k48 W (some ad) la.length la) (a1 : Kd.C (Kd.slice 60 k60) W A1 sa.length sa) : Calls Tryd.prog 9 #[.agg #[.slice (some ad) la.length c0, .slice A1 sa.length c1, .int .i64 r], .int .i64 i] W fun e W' => e = .returned (.string (parB (a == 4) ta ++ parB (b == 4) tb2)) ∧ Below W.heap.size W W' := by
 have hu25 := Tryd.underlying25
 obtain ⟨_, eA, hx0, hx1, hx2, hx3, hx4, hx5⟩ := at_T48 a0 i h0 h1
 cases eA
 rw [hX] at hx0 hx1 hx2 hx3 hx4 hx5
 subst hop
 have p0 : (0 ≤ i) = True := eq_true h0
 have p1 : (i < (la.length : Int)) = True := eq_true h1
 have hB1 : Below W.heap.size W (W.alloc (.cells #[.slice (some ad) la.length c0, .slice A1 sa.length c1, .int .i64 r] 25 (0, 0))) := below_alloc (Below.refl _ W) _
 have hB2 : Below W.heap.size W ((W.alloc (.cells #[.slice (some ad) la.length c0, .slice A1 sa.length c1, .int .i64 r] 25 (0, 0))).alloc (.cells #[.int .i64 3, .int .i64 x1, .int .i64 x2, .int .i64 x3, .int .i64 x4, .int .i64 x5] 48 (0, 0))) := below_alloc hB1 _
 have hbt := blk_new W (.cells #[.slice (some ad) la.length c0, .slice A1 sa.length c1, .int .i64 r] 25 (0, 0))
 have hbn := blk_new (W.alloc (.cells #[.slice (some ad) la.length c0, .slice A1 sa.length c1, .int .i64 r] 25 (0, 0))) (.cells #[.int .i64 3, .int .i64 x1, .int .i64 x2, .int .i64 x3, .int .i64 x4, .int .i64 x5] 48 (0, 0))
 have c0' : (W.alloc (.cells #[.slice (some ad) la.length c0, .slice A1 sa.length c1, .int .i64 r] 25 (0, 0))).cell? ⟨W.heap.size, 0, none⟩ = some (.slice (some ad) la.length c0) := (blk_cell hbt 0).trans rfl
 have hx0' := cell_al hx0 (.cells #[.slice (some ad) la.length c0, .slice A1 sa.length c1, .int .i64 r] 25 (0, 0))
 have hx1' := cell_al hx1 (.cells #[.slice (some ad) la.length c0, .slice A1 sa.length c1, .int .i64 r] 25 (0, 0))
 have hx2' := cell_al hx2 (.cells #[.slice (some ad) la.length c0, .slice A1 sa.length c1, .int .i64 r] 25 (0, 0))
 have hx3' := cell_al hx3 (.cells #[.slice (some ad) la.length c0, .slice A1 sa.length c1, .int .i64 r] 25 (0, 0))
 have hx4' := cell_al hx4 (.cells #[.slice (some ad) la.length c0, .slice A1 sa.length c1, .int .i64 r] 25 (0, 0))
 have hx5' := cell_al hx5 (.cells #[.slice (some ad) la.length c0, .slice A1 sa.length c1, .int .i64 r] 25 (0, 0))
 have ht0 : ((W.alloc (.cells #[.slice (some ad) la.length c0, .slice A1 sa.length c1, .int .i64 r] 25 (0, 0))).alloc (.cells #[.int .i64 3, .int .i64 x1, .int .i64 x2, .int .i64 x3, .int .i64 x4, .int .i64 x5] 48 (0, 0))).cell? ⟨W.heap.size, 0, none⟩ = some (.slice (some ad) la.length c0) := cell_al ((blk_cell hbt 0).trans rfl) _
 have ht1 : ((W.alloc (.cells #[.slice (some ad) la.length c0, .slice A1 sa.length c1, .int .i64 r] 25 (0, 0))).alloc (.cells #[.int .i64 3, .int .i64 x1, .int .i64 x2, .int .i64 x3, .int .i64 x4, .int .i64 x5] 48 (0, 0))).cell? ⟨W.heap.size, 1, none⟩ = some (.slice A1 sa.length c1) := cell_al ((blk_cell hbt 1).trans rfl) _
 have ht2 : ((W.alloc (.cells #[.slice (some ad) la.length c0, .slice A1 sa.length c1, .int .i64 r] 25 (0, 0))).alloc (.cells #[.int .i64 3, .int .i64 x1, .int .i64 x2, .int .i64 x3, .int .i64 x4, .int .i64 x5] 48 (0, 0))).cell? ⟨W.heap.size, 2, none⟩ = some (.int .i64 r) := cell_al ((blk_cell hbt 2).trans rfl) _
 have hn0 : ((W.alloc (.cells #[.slice (some ad) la.length c0, .slice A1 sa.length c1, .int .i64 r] 25 (0, 0))).alloc (.cells #[.int .i64 3, .int .i64 x1, .int .i64 x2, .int .i64 x3, .int .i64 x4, .int .i64 x5] 48 (0, 0))).cell? ⟨W.heap.size + 1, 0, none⟩ = some (.int .i64 3) := by simp
 have hn1 : ((W.alloc (.cells #[.slice (some ad) la.length c0, .slice A1 sa.length c1, .int .i64 r] 25 (0, 0))).alloc (.cells #[.int .i64 3, .int .i64 x1, .int .i64 x2, .int .i64 x3, .int .i64 x4, .int .i64 x5] 48 (0, 0))).cell? ⟨W.heap.size + 1, 1, none⟩ = some (.int .i64 x1) := by simp
 have hn2 : ((W.alloc (.cells #[.slice (some ad) la.length c0, .slice A1 sa.length c1, .int .i64 r] 25 (0, 0))).alloc (.cells #[.int .i64 3, .int .i64 x1, .int .i64 x2, .int .i64 x3, .int .i64 x4, .int .i64 x5] 48 (0, 0))).cell? ⟨W.heap.size + 1, 2, none⟩ = some (.int .i64 x2) := by simp
 have hn3 : ((W.alloc (.cells #[.slice (some ad) la.length c0, .slice A1 sa.length c1, .int .i64 r] 25 (0, 0))).alloc (.cells #[.int .i64 3, .int .i64 x1, .int .i64 x2, .int .i64 x3, .int .i64 x4, .int .i64 x5] 48 (0, 0))).cell? ⟨W.heap.size + 1, 3, none⟩ = some (.int .i64 x3) := by simp
 have hn4 : ((W.alloc (.cells #[.slice (some ad) la.length c0, .slice A1 sa.length c1, .int .i64 r] 25 (0, 0))).alloc (.cells #[.int .i64 3, .int .i64 x1, .int .i64 x2, .int .i64 x3, .int .i64 x4, .int .i64 x5] 48 (0, 0))).cell? ⟨W.heap.size + 1, 4, none⟩ = some (.int .i64 x4) := by simp
 have hn5 : ((W.alloc (.cells #[.slice (some ad) la.length c0, .slice A1 sa.length c1, .int .i64 r] 25 (0, 0))).alloc (.cells #[.int .i64 3, .int .i64 x1, .int .i64 x2, .int .i64 x3, .int .i64 x4, .int .i64 x5] 48 (0, 0))).cell? ⟨W.heap.size + 1, 5, none⟩ = some (.int .i64 x5) := by simp
 have HR := Aside0.mk hR
 have HI := Aside0.mk (And.intro h0 h1)
 have HA0 := Aside0.mk a0
 have HA1 := Aside0.mk a1
 have HBw := Aside0.mk hB2
 obtain ⟨⟨i0, i1⟩, j0, j1⟩ := right34 (Or.inl rfl) hR
 obtain ⟨_, eA, ha, _⟩ := at_T48 (Kd.C_below a0 hB2) x1 i0 (by omega)
 cases eA
 obtain ⟨_, eA, hb, _⟩ := at_T48 (Kd.C_below a0 hB2) x2 j0 (by omega)
 cases eA
 rw [hoa] at ha
 rw [hob] at hb
 have q0 : (0 ≤ x1) = True := eq_true i0
 have q1 : (x1 < (la.length : Int)) = True := eq_true (by omega)
 have q2 : (0 ≤ x2) = True := eq_true j0
 have q3 : (x2 < (la.length : Int)) = True := eq_true (by omega)
 have HX1 := Aside0.mk h1'
 have HX2 := Aside0.mk h2'
 have hz1 := h1'.1
 have hz2 := h2'.1
 have hs1 : (parB (a == 4) ta).size + (parB (b == 4) tb2).size ≤ 9223372036854775807 := by have := parB_size (a == 4) ta; have := parB_size (b == 4) tb2; omega
 have hs1' : (9223372036854775807 < (parB (a == 4) ta).size + (parB (b == 4) tb2).size) = False := eq_false (by omega)
 clear i0 i1 j0 j1 hz1 hz2 h1' h2' hoa hob
 have e3 : (b == 3) = false := beq_eq_false_iff_ne.mpr hb3
 have e3' : decide (b = 3) = false := decide_eq_false hb3
 clear hb3
 clear hX hR h0 h1 a0 a1 hB1 hB2 hbt hbn
 go_enter Tryd.func9, Tryd.ntmps9
 go_wp2_with fail
 obtain ⟨W1, hW1⟩ : ∃ W1, W1 = (W.alloc (.cells #[.slice (some ad) la.length c0, .slice A1 sa.length c1, .int .i64 r] 25 (0, 0))).alloc (.cells #[.int .i64 3, .int .i64 x1, .int .i64 x2, .int .i64 x3, .int .i64 x4, .int .i64 x5] 48 (0, 0)) := ⟨_, rfl⟩
 rw [← hW1]
 rw [← hW1] at ht0 ht1 ht2 hn0 hn1 hn2 hn3 hn4 hn5
 have HBw : Aside0 (Below W.heap.size W W1) := ⟨by rw [hW1]; exact HBw.out⟩
 clear hW1
 refine start_ (n := 18) (S := fun w' => w'.cell? ⟨W.heap.size, 0, none⟩ = some (.slice (some ad) la.length c0) ∧ w'.cell? ⟨W.heap.size, 1, none⟩ = some (.slice A1 sa.length c1) ∧ w'.cell? ⟨W.heap.size, 2, none⟩ = some (.int .i64 r) ∧ w'.cell? ⟨W.heap.size + 1, 1, none⟩ = some (.int .i64 x1) ∧ w'.cell? ⟨W.heap.size + 1, 2, none⟩ = some (.int .i64 x2)) (ds := [15]) #[false, false, false, false, false, false, false, false, false, false, false, false, false, false, false, false, false, false] (by kernel_rfl) rfl rfl ⟨ht0, ht1, ht2, hn1, hn2⟩ (fun hHeld => ?_)
 refine pq_ (i := 1) (n := 44) (bA 18 2) (by kernel_rfl) ?_
 refine pq_ (i := 3) (n := 46) (bA 18 10) (by kernel_rfl) ?_
 refine pq_ (i := 4) (n := 47) (bA 18 26) (by kernel_rfl) ?_
 refine pq_ (i := 7) (n := 50) (bA 18 154) (by kernel_rfl) ?_
 refine pq_ (i := 9) (n := 52) (bA 18 666) (by kernel_rfl) ?_
 refine pq_ (i := 10) (n := 53) (bA 18 1690) (by kernel_rfl) ?_
 refine tq_ (i := 0) (n := 43) (bA 18 1691) (by kernel_rfl) hHeld ?_
 refine tq_ (i := 2) (n := 45) (bA 18 1695) (by kernel_rfl) hHeld ?_
 refine tq_ (i := 6) (n := 49) (bA 18 1759) (by kernel_rfl) hHeld ?_
 refine tq_ (i := 8) (n := 51) (bA 18 2015) (by kernel_rfl) hHeld ?_
 refine one_ (i := 5) (N := some 48) (bA 18 2047) rfl rfl (by kernel_rfl) (by decide) (fun K hK => ?_)
 refine goes_ Tryd.func21 (by kernel_rfl) rfl #[.agg #[.slice (some ad) la.length c0, .slice A1 sa.length c1, .int .i64 r], .int .i64 x1, .bool (a == 4)] (by rfl) rfl rfl (by simp only [List.map_toArray, List.map_cons, List.map_nil]; rfl) ?_
 with_reducible refine (part_ref HX1.out ((a == 4)) _ (Kd.C_below HA0.out (below_then HBw.out HBw.out.size (below_drew1 (Below.refl _ W1)))) (Kd.C_below HA1.out (below_then HBw.out HBw.out.size (below_drew1 (Below.refl _ W1))))).mono ?_
 rintro e w4 ⟨rfl, hb4⟩
 refine ⟨_, rfl, ?_⟩
 refine hK.out _ _ ⟨(pw_cell_below hb4 ht0), (pw_cell_below hb4 ht1), (pw_cell_below hb4 ht2), (pw_cell_below hb4 hn1), (pw_cell_below hb4 hn2)⟩ (fun hHeld => ?_)
 clear hK K
 refine nm_ (n := 48) ?_
 refine pq_ (i := 11) (n := 54) (bA 18 4095) (by kernel_rfl) ?_
 refine pq_ (i := 12) (n := 55) (bA 18 8191) (by kernel_rfl) ?_
 refine pq_ (i := 13) (n := 56) (bA 18 16383) (by kernel_rfl) ?_
 refine pq_ (i := 14) (n := 57) (bA 18 32767) (by kernel_rfl) ?_
 refine last_ (i := 15) (N := some 58) #[true, true, true, true, true, true, true, true, true, true, true, true, true, true, true, true, false, false] rfl rfl (by kernel_rfl) (by decide) (fun K hK => ?_)
 refine goes_ Tryd.func21 (by kernel_rfl) rfl #[.agg #[.slice (some ad) la.length c0, .slice A1 sa.length c1, .int .i64 r], .int .i64 x2, .bool (b == 4)] (by rfl) rfl rfl (by simp only [List.map_toArray, List.map_cons, List.map_nil]; rfl) ?_
 with_reducible refine (part_ref HX2.out ((b == 4)) _ (Kd.C_below HA0.out (below_then (below_then HBw.out HBw.out.size (below_drew1 (Below.refl _ W1))) (Below.size (below_then HBw.out HBw.out.size (below_drew1 (Below.refl _ W1)))) hb4)) (Kd.C_below HA1.out (below_then (below_then HBw.out HBw.out.size (below_drew1 (Below.refl _ W1))) (Below.size (below_then HBw.out HBw.out.size (below_drew1 (Below.refl _ W1)))) hb4))).mono ?_
 rintro e w5 ⟨rfl, hb5⟩
 refine ⟨_, rfl, ?_⟩
 refine hK.out _ _ ?_
 clear hK K
 refine nm_ (n := 58) ?_
 refine pq_ (i := 16) (n := 59) (bA 18 131071) (by kernel_rfl) ?_
 refine pq_ (i := 17) (n := 4) (bA 18 262143) (by kernel_rfl) ?_
 refine done_ (by kernel_rfl) ?_
 go_wp2_with fail
 go_ret
 exact ⟨rfl, below_then (below_then (below_then HBw.out HBw.out.size (below_drew1 (Below.refl _ W1))) (Below.size (below_then HBw.out HBw.out.size (below_drew1 (Below.refl _ W1)))) hb4) (Below.size (below_then (below_then HBw.out HBw.out.size (below_drew1 (Below.refl _ W1))) (Below.size (below_then HBw.out HBw.out.size (below_drew1 (Below.refl _ W1)))) hb4)) hb5⟩
set_option maxRecDepth 100000 in
set_option maxHeartbeats 2000000 in
theorem ref_four (ad : Addr) (c0 : Nat) (la : List S48) (A1 : Option Addr) (c1 : Nat) (sa : List (List S60)) (r i : Int) (h0 : 0 ≤ i) (h1 : i < (la.length : Int)) (x0 x1 x2 x3 x4 x5 : Int) (hX : rd_T48 la i = ⟨x0, x1, x2, x3, x4, x5⟩) (hR : rightN ⟨x0, x1, x2, x3, x4, x5⟩ i (sa.length : Int) = true) (hop : x0 = 4) (a b : Int) (ta tb2 : ByteArray) (hoa : (rd_T48 la x1).f0 = a) (hob : (rd_T48 la x2).f0 = b) (h1' : RefC ad c0 la A1 c1 sa r x1 ta) (h2' : RefC ad c0 la A1 c1 sa r x2 tb2)
  (W : World) (a0 : Kd.C k48 W (some ad) la.length la) (a1 : Kd.C (Kd.slice 60 k60) W A1 sa.length sa) : Calls Tryd.prog 9 #[.agg #[.slice (some ad) la.length c0, .slice A1 sa.length c1, .int .i64 r], .int .i64 i] W fun e W' => e = .returned (.string ((ta ++ (⟨#[124]⟩ : ByteArray)) ++ parB (b == 4) tb2)) ∧ Below W.heap.size W W' := by
 have hu25 := Tryd.underlying25
 obtain ⟨_, eA, hx0, hx1, hx2, hx3, hx4, hx5⟩ := at_T48 a0 i h0 h1
 cases eA
 rw [hX] at hx0 hx1 hx2 hx3 hx4 hx5
 subst hop
 have p0 : (0 ≤ i) = True := eq_true h0
 have p1 : (i < (la.length : Int)) = True := eq_true h1
 have hB1 : Below W.heap.size W (W.alloc (.cells #[.slice (some ad) la.length c0, .slice A1 sa.length c1, .int .i64 r] 25 (0, 0))) := below_alloc (Below.refl _ W) _
 have hB2 : Below W.heap.size W ((W.alloc (.cells #[.slice (some ad) la.length c0, .slice A1 sa.length c1, .int .i64 r] 25 (0, 0))).alloc (.cells #[.int .i64 4, .int .i64 x1, .int .i64 x2, .int .i64 x3, .int .i64 x4, .int .i64 x5] 48 (0, 0))) := below_alloc hB1 _
 have hbt := blk_new W (.cells #[.slice (some ad) la.length c0, .slice A1 sa.length c1, .int .i64 r] 25 (0, 0))
 have hbn := blk_new (W.alloc (.cells #[.slice (some ad) la.length c0, .slice A1 sa.length c1, .int .i64 r] 25 (0, 0))) (.cells #[.int .i64 4, .int .i64 x1, .int .i64 x2, .int .i64 x3, .int .i64 x4, .int .i64 x5] 48 (0, 0))
 have c0' : (W.alloc (.cells #[.slice (some ad) la.length c0, .slice A1 sa.length c1, .int .i64 r] 25 (0, 0))).cell? ⟨W.heap.size, 0, none⟩ = some (.slice (some ad) la.length c0) := (blk_cell hbt 0).trans rfl
 have hx0' := cell_al hx0 (.cells #[.slice (some ad) la.length c0, .slice A1 sa.length c1, .int .i64 r] 25 (0, 0))
 have hx1' := cell_al hx1 (.cells #[.slice (some ad) la.length c0, .slice A1 sa.length c1, .int .i64 r] 25 (0, 0))
 have hx2' := cell_al hx2 (.cells #[.slice (some ad) la.length c0, .slice A1 sa.length c1, .int .i64 r] 25 (0, 0))
 have hx3' := cell_al hx3 (.cells #[.slice (some ad) la.length c0, .slice A1 sa.length c1, .int .i64 r] 25 (0, 0))
 have hx4' := cell_al hx4 (.cells #[.slice (some ad) la.length c0, .slice A1 sa.length c1, .int .i64 r] 25 (0, 0))
 have hx5' := cell_al hx5 (.cells #[.slice (some ad) la.length c0, .slice A1 sa.length c1, .int .i64 r] 25 (0, 0))
 have ht0 : ((W.alloc (.cells #[.slice (some ad) la.length c0, .slice A1 sa.length c1, .int .i64 r] 25 (0, 0))).alloc (.cells #[.int .i64 4, .int .i64 x1, .int .i64 x2, .int .i64 x3, .int .i64 x4, .int .i64 x5] 48 (0, 0))).cell? ⟨W.heap.size, 0, none⟩ = some (.slice (some ad) la.length c0) := cell_al ((blk_cell hbt 0).trans rfl) _
 have ht1 : ((W.alloc (.cells #[.slice (some ad) la.length c0, .slice A1 sa.length c1, .int .i64 r] 25 (0, 0))).alloc (.cells #[.int .i64 4, .int .i64 x1, .int .i64 x2, .int .i64 x3, .int .i64 x4, .int .i64 x5] 48 (0, 0))).cell? ⟨W.heap.size, 1, none⟩ = some (.slice A1 sa.length c1) := cell_al ((blk_cell hbt 1).trans rfl) _
 have ht2 : ((W.alloc (.cells #[.slice (some ad) la.length c0, .slice A1 sa.length c1, .int .i64 r] 25 (0, 0))).alloc (.cells #[.int .i64 4, .int .i64 x1, .int .i64 x2, .int .i64 x3, .int .i64 x4, .int .i64 x5] 48 (0, 0))).cell? ⟨W.heap.size, 2, none⟩ = some (.int .i64 r) := cell_al ((blk_cell hbt 2).trans rfl) _
 have hn0 : ((W.alloc (.cells #[.slice (some ad) la.length c0, .slice A1 sa.length c1, .int .i64 r] 25 (0, 0))).alloc (.cells #[.int .i64 4, .int .i64 x1, .int .i64 x2, .int .i64 x3, .int .i64 x4, .int .i64 x5] 48 (0, 0))).cell? ⟨W.heap.size + 1, 0, none⟩ = some (.int .i64 4) := by simp
 have hn1 : ((W.alloc (.cells #[.slice (some ad) la.length c0, .slice A1 sa.length c1, .int .i64 r] 25 (0, 0))).alloc (.cells #[.int .i64 4, .int .i64 x1, .int .i64 x2, .int .i64 x3, .int .i64 x4, .int .i64 x5] 48 (0, 0))).cell? ⟨W.heap.size + 1, 1, none⟩ = some (.int .i64 x1) := by simp
 have hn2 : ((W.alloc (.cells #[.slice (some ad) la.length c0, .slice A1 sa.length c1, .int .i64 r] 25 (0, 0))).alloc (.cells #[.int .i64 4, .int .i64 x1, .int .i64 x2, .int .i64 x3, .int .i64 x4, .int .i64 x5] 48 (0, 0))).cell? ⟨W.heap.size + 1, 2, none⟩ = some (.int .i64 x2) := by simp
 have hn3 : ((W.alloc (.cells #[.slice (some ad) la.length c0, .slice A1 sa.length c1, .int .i64 r] 25 (0, 0))).alloc (.cells #[.int .i64 4, .int .i64 x1, .int .i64 x2, .int .i64 x3, .int .i64 x4, .int .i64 x5] 48 (0, 0))).cell? ⟨W.heap.size + 1, 3, none⟩ = some (.int .i64 x3) := by simp
 have hn4 : ((W.alloc (.cells #[.slice (some ad) la.length c0, .slice A1 sa.length c1, .int .i64 r] 25 (0, 0))).alloc (.cells #[.int .i64 4, .int .i64 x1, .int .i64 x2, .int .i64 x3, .int .i64 x4, .int .i64 x5] 48 (0, 0))).cell? ⟨W.heap.size + 1, 4, none⟩ = some (.int .i64 x4) := by simp
 have hn5 : ((W.alloc (.cells #[.slice (some ad) la.length c0, .slice A1 sa.length c1, .int .i64 r] 25 (0, 0))).alloc (.cells #[.int .i64 4, .int .i64 x1, .int .i64 x2, .int .i64 x3, .int .i64 x4, .int .i64 x5] 48 (0, 0))).cell? ⟨W.heap.size + 1, 5, none⟩ = some (.int .i64 x5) := by simp
 have HR := Aside0.mk hR
 have HI := Aside0.mk (And.intro h0 h1)
 have HA0 := Aside0.mk a0
 have HA1 := Aside0.mk a1
 have HBw := Aside0.mk hB2
 obtain ⟨⟨i0, i1⟩, j0, j1⟩ := right34 (Or.inr rfl) hR
 obtain ⟨_, eA, ha, _⟩ := at_T48 (Kd.C_below a0 hB2) x1 i0 (by omega)
 cases eA
 obtain ⟨_, eA, hb, _⟩ := at_T48 (Kd.C_below a0 hB2) x2 j0 (by omega)
 cases eA
 rw [hoa] at ha
 rw [hob] at hb
 have q0 : (0 ≤ x1) = True := eq_true i0
 have q1 : (x1 < (la.length : Int)) = True := eq_true (by omega)
 have q2 : (0 ≤ x2) = True := eq_true j0
 have q3 : (x2 < (la.length : Int)) = True := eq_true (by omega)
 have HX1 := Aside0.mk h1'
 have HX2 := Aside0.mk h2'
 have hz1 := h1'.1
 have hz2 := h2'.1
 have hs1 : ta.size + 1 ≤ 9223372036854775807 := by omega
 have hs2 : ta.size + 1 + (parB (b == 4) tb2).size ≤ 9223372036854775807 := by have := parB_size (b == 4) tb2; omega
 have hs1' : (9223372036854775807 < ta.size + 1) = False := eq_false (by omega)
 have hs2' : (9223372036854775807 < ta.size + 1 + (parB (b == 4) tb2).size) = False := eq_false (by omega)
 have hpf : parB false ta = ta := rfl
 clear i0 i1 j0 j1 hz1 hz2 h1' h2' hoa hob
 clear hX hR h0 h1 a0 a1 hB1 hB2 hbt hbn
 go_enter Tryd.func9, Tryd.ntmps9
 go_wp2_with fail
 obtain ⟨W1, hW1⟩ : ∃ W1, W1 = (W.alloc (.cells #[.slice (some ad) la.length c0, .slice A1 sa.length c1, .int .i64 r] 25 (0, 0))).alloc (.cells #[.int .i64 4, .int .i64 x1, .int .i64 x2, .int .i64 x3, .int .i64 x4, .int .i64 x5] 48 (0, 0)) := ⟨_, rfl⟩
 rw [← hW1]
 rw [← hW1] at ht0 ht1 ht2 hn0 hn1 hn2 hn3 hn4 hn5
 have HBw : Aside0 (Below W.heap.size W W1) := ⟨by rw [hW1]; exact HBw.out⟩
 clear hW1
 refine start_ (n := 13) (S := fun w' => w'.cell? ⟨W.heap.size, 0, none⟩ = some (.slice (some ad) la.length c0) ∧ w'.cell? ⟨W.heap.size, 1, none⟩ = some (.slice A1 sa.length c1) ∧ w'.cell? ⟨W.heap.size, 2, none⟩ = some (.int .i64 r) ∧ w'.cell? ⟨W.heap.size + 1, 1, none⟩ = some (.int .i64 x1) ∧ w'.cell? ⟨W.heap.size + 1, 2, none⟩ = some (.int .i64 x2)) (ds := [10]) #[false, false, false, false, false, false, false, false, false, false, false, false, false] (by kernel_rfl) rfl rfl ⟨ht0, ht1, ht2, hn1, hn2⟩ (fun hHeld => ?_)
 refine pq_ (i := 1) (n := 63) (bA 13 2) (by kernel_rfl) ?_
 refine pq_ (i := 6) (n := 68) (bA 13 66) (by kernel_rfl) ?_
 refine pq_ (i := 8) (n := 70) (bA 13 322) (by kernel_rfl) ?_
 refine pq_ (i := 9) (n := 71) (bA 13 834) (by kernel_rfl) ?_
 refine tq_ (i := 0) (n := 62) (bA 13 835) (by kernel_rfl) hHeld ?_
 refine tq_ (i := 2) (n := 64) (bA 13 839) (by kernel_rfl) hHeld ?_
 refine tq_ (i := 5) (n := 67) (bA 13 871) (by kernel_rfl) hHeld ?_
 refine tq_ (i := 7) (n := 69) (bA 13 999) (by kernel_rfl) hHeld ?_
 refine one_ (i := 3) (N := some 65) (bA 13 1007) rfl rfl (by kernel_rfl) (by decide) (fun K hK => ?_)
 refine goes_ Tryd.func21 (by kernel_rfl) rfl #[.agg #[.slice (some ad) la.length c0, .slice A1 sa.length c1, .int .i64 r], .int .i64 x1, .bool false] (by rfl) rfl rfl (by simp only [List.map_toArray, List.map_cons, List.map_nil]; rfl) ?_
 with_reducible refine (part_ref HX1.out (false) _ (Kd.C_below HA0.out (below_then HBw.out HBw.out.size (below_drew1 (Below.refl _ W1)))) (Kd.C_below HA1.out (below_then HBw.out HBw.out.size (below_drew1 (Below.refl _ W1))))).mono ?_
 rintro e w4 ⟨rfl, hb4⟩
 refine ⟨_, rfl, ?_⟩
 refine hK.out _ _ ⟨(pw_cell_below hb4 ht0), (pw_cell_below hb4 ht1), (pw_cell_below hb4 ht2), (pw_cell_below hb4 hn1), (pw_cell_below hb4 hn2)⟩ (fun hHeld => ?_)
 clear hK K
 refine nm_ (n := 65) ?_
 refine pq_ (i := 4) (n := 66) (bA 13 1023) (by kernel_rfl) ?_
 refine last_ (i := 10) (N := some 72) #[true, true, true, true, true, true, true, true, true, true, true, false, false] rfl rfl (by kernel_rfl) (by decide) (fun K hK => ?_)
 refine goes_ Tryd.func21 (by kernel_rfl) rfl #[.agg #[.slice (some ad) la.length c0, .slice A1 sa.length c1, .int .i64 r], .int .i64 x2, .bool (b == 4)] (by rfl) rfl rfl (by simp only [List.map_toArray, List.map_cons, List.map_nil]; rfl) ?_
 with_reducible refine (part_ref HX2.out ((b == 4)) _ (Kd.C_below HA0.out (below_then (below_then HBw.out HBw.out.size (below_drew1 (Below.refl _ W1))) (Below.size (below_then HBw.out HBw.out.size (below_drew1 (Below.refl _ W1)))) hb4)) (Kd.C_below HA1.out (below_then (below_then HBw.out HBw.out.size (below_drew1 (Below.refl _ W1))) (Below.size (below_then HBw.out HBw.out.size (below_drew1 (Below.refl _ W1)))) hb4))).mono ?_
 rintro e w5 ⟨rfl, hb5⟩
 refine ⟨_, rfl, ?_⟩
 refine hK.out _ _ ?_
 clear hK K
 refine nm_ (n := 72) ?_
 refine pq_ (i := 11) (n := 73) (bA 13 4095) (by kernel_rfl) ?_
 refine pq_ (i := 12) (n := 4) (bA 13 8191) (by kernel_rfl) ?_
 refine done_ (by kernel_rfl) ?_
 go_wp2_with fail
 go_ret
 exact ⟨rfl, below_then (below_then (below_then HBw.out HBw.out.size (below_drew1 (Below.refl _ W1))) (Below.size (below_then HBw.out HBw.out.size (below_drew1 (Below.refl _ W1)))) hb4) (Below.size (below_then (below_then HBw.out HBw.out.size (below_drew1 (Below.refl _ W1))) (Below.size (below_then HBw.out HBw.out.size (below_drew1 (Below.refl _ W1)))) hb4)) hb5⟩
set_option maxRecDepth 100000 in
set_option maxHeartbeats 2000000 in
theorem ref_five (ad : Addr) (c0 : Nat) (la : List S48) (A1 : Option Addr) (c1 : Nat) (sa : List (List S60)) (r i : Int) (h0 : 0 ≤ i) (h1 : i < (la.length : Int)) (x0 x1 x2 x3 x4 x5 : Int) (hX : rd_T48 la i = ⟨x0, x1, x2, x3, x4, x5⟩) (hR : rightN ⟨x0, x1, x2, x3, x4, x5⟩ i (sa.length : Int) = true) (hop : x0 = 5) (a : Int) (ta o : ByteArray) (k : Nat) (hoa : (rd_T48 la x1).f0 = a) (h1' : RefC ad c0 la A1 c1 sa r x1 ta) (ho : spoolref14_often.f k x3 x4 = some o) (hos : o.size ≤ 1000000000) (hz2 : x2 = 0)
  (W : World) (a0 : Kd.C k48 W (some ad) la.length la) (a1 : Kd.C (Kd.slice 60 k60) W A1 sa.length sa) : Calls Tryd.prog 9 #[.agg #[.slice (some ad) la.length c0, .slice A1 sa.length c1, .int .i64 r], .int .i64 i] W fun e W' => e = .returned (.string (parB (decide (a > 2)) ta ++ o)) ∧ Below W.heap.size W W' := by
 have hu25 := Tryd.underlying25
 obtain ⟨_, eA, hx0, hx1, hx2, hx3, hx4, hx5⟩ := at_T48 a0 i h0 h1
 cases eA
 rw [hX] at hx0 hx1 hx2 hx3 hx4 hx5
 subst hop
 subst hz2
 have p0 : (0 ≤ i) = True := eq_true h0
 have p1 : (i < (la.length : Int)) = True := eq_true h1
 have hB1 : Below W.heap.size W (W.alloc (.cells #[.slice (some ad) la.length c0, .slice A1 sa.length c1, .int .i64 r] 25 (0, 0))) := below_alloc (Below.refl _ W) _
 have hB2 : Below W.heap.size W ((W.alloc (.cells #[.slice (some ad) la.length c0, .slice A1 sa.length c1, .int .i64 r] 25 (0, 0))).alloc (.cells #[.int .i64 5, .int .i64 x1, .int .i64 0, .int .i64 x3, .int .i64 x4, .int .i64 x5] 48 (0, 0))) := below_alloc hB1 _
 have hbt := blk_new W (.cells #[.slice (some ad) la.length c0, .slice A1 sa.length c1, .int .i64 r] 25 (0, 0))
 have hbn := blk_new (W.alloc (.cells #[.slice (some ad) la.length c0, .slice A1 sa.length c1, .int .i64 r] 25 (0, 0))) (.cells #[.int .i64 5, .int .i64 x1, .int .i64 0, .int .i64 x3, .int .i64 x4, .int .i64 x5] 48 (0, 0))
 have c0' : (W.alloc (.cells #[.slice (some ad) la.length c0, .slice A1 sa.length c1, .int .i64 r] 25 (0, 0))).cell? ⟨W.heap.size, 0, none⟩ = some (.slice (some ad) la.length c0) := (blk_cell hbt 0).trans rfl
 have hx0' := cell_al hx0 (.cells #[.slice (some ad) la.length c0, .slice A1 sa.length c1, .int .i64 r] 25 (0, 0))
 have hx1' := cell_al hx1 (.cells #[.slice (some ad) la.length c0, .slice A1 sa.length c1, .int .i64 r] 25 (0, 0))
 have hx2' := cell_al hx2 (.cells #[.slice (some ad) la.length c0, .slice A1 sa.length c1, .int .i64 r] 25 (0, 0))
 have hx3' := cell_al hx3 (.cells #[.slice (some ad) la.length c0, .slice A1 sa.length c1, .int .i64 r] 25 (0, 0))
 have hx4' := cell_al hx4 (.cells #[.slice (some ad) la.length c0, .slice A1 sa.length c1, .int .i64 r] 25 (0, 0))
 have hx5' := cell_al hx5 (.cells #[.slice (some ad) la.length c0, .slice A1 sa.length c1, .int .i64 r] 25 (0, 0))
 have ht0 : ((W.alloc (.cells #[.slice (some ad) la.length c0, .slice A1 sa.length c1, .int .i64 r] 25 (0, 0))).alloc (.cells #[.int .i64 5, .int .i64 x1, .int .i64 0, .int .i64 x3, .int .i64 x4, .int .i64 x5] 48 (0, 0))).cell? ⟨W.heap.size, 0, none⟩ = some (.slice (some ad) la.length c0) := cell_al ((blk_cell hbt 0).trans rfl) _
 have ht1 : ((W.alloc (.cells #[.slice (some ad) la.length c0, .slice A1 sa.length c1, .int .i64 r] 25 (0, 0))).alloc (.cells #[.int .i64 5, .int .i64 x1, .int .i64 0, .int .i64 x3, .int .i64 x4, .int .i64 x5] 48 (0, 0))).cell? ⟨W.heap.size, 1, none⟩ = some (.slice A1 sa.length c1) := cell_al ((blk_cell hbt 1).trans rfl) _
 have ht2 : ((W.alloc (.cells #[.slice (some ad) la.length c0, .slice A1 sa.length c1, .int .i64 r] 25 (0, 0))).alloc (.cells #[.int .i64 5, .int .i64 x1, .int .i64 0, .int .i64 x3, .int .i64 x4, .int .i64 x5] 48 (0, 0))).cell? ⟨W.heap.size, 2, none⟩ = some (.int .i64 r) := cell_al ((blk_cell hbt 2).trans rfl) _
 have hn0 : ((W.alloc (.cells #[.slice (some ad) la.length c0, .slice A1 sa.length c1, .int .i64 r] 25 (0, 0))).alloc (.cells #[.int .i64 5, .int .i64 x1, .int .i64 0, .int .i64 x3, .int .i64 x4, .int .i64 x5] 48 (0, 0))).cell? ⟨W.heap.size + 1, 0, none⟩ = some (.int .i64 5) := by simp
 have hn1 : ((W.alloc (.cells #[.slice (some ad) la.length c0, .slice A1 sa.length c1, .int .i64 r] 25 (0, 0))).alloc (.cells #[.int .i64 5, .int .i64 x1, .int .i64 0, .int .i64 x3, .int .i64 x4, .int .i64 x5] 48 (0, 0))).cell? ⟨W.heap.size + 1, 1, none⟩ = some (.int .i64 x1) := by simp
 have hn2 : ((W.alloc (.cells #[.slice (some ad) la.length c0, .slice A1 sa.length c1, .int .i64 r] 25 (0, 0))).alloc (.cells #[.int .i64 5, .int .i64 x1, .int .i64 0, .int .i64 x3, .int .i64 x4, .int .i64 x5] 48 (0, 0))).cell? ⟨W.heap.size + 1, 2, none⟩ = some (.int .i64 0) := by simp
 have hn3 : ((W.alloc (.cells #[.slice (some ad) la.length c0, .slice A1 sa.length c1, .int .i64 r] 25 (0, 0))).alloc (.cells #[.int .i64 5, .int .i64 x1, .int .i64 0, .int .i64 x3, .int .i64 x4, .int .i64 x5] 48 (0, 0))).cell? ⟨W.heap.size + 1, 3, none⟩ = some (.int .i64 x3) := by simp
 have hn4 : ((W.alloc (.cells #[.slice (some ad) la.length c0, .slice A1 sa.length c1, .int .i64 r] 25 (0, 0))).alloc (.cells #[.int .i64 5, .int .i64 x1, .int .i64 0, .int .i64 x3, .int .i64 x4, .int .i64 x5] 48 (0, 0))).cell? ⟨W.heap.size + 1, 4, none⟩ = some (.int .i64 x4) := by simp
 have hn5 : ((W.alloc (.cells #[.slice (some ad) la.length c0, .slice A1 sa.length c1, .int .i64 r] 25 (0, 0))).alloc (.cells #[.int .i64 5, .int .i64 x1, .int .i64 0, .int .i64 x3, .int .i64 x4, .int .i64 x5] 48 (0, 0))).cell? ⟨W.heap.size + 1, 5, none⟩ = some (.int .i64 x5) := by simp
 have HR := Aside0.mk hR
 have HI := Aside0.mk (And.intro h0 h1)
 have HA0 := Aside0.mk a0
 have HA1 := Aside0.mk a1
 have HBw := Aside0.mk hB2
 obtain ⟨i0, i1⟩ := right5 hR
 obtain ⟨_, eA, ha, _⟩ := at_T48 (Kd.C_below a0 hB2) x1 i0 (by omega)
 cases eA
 obtain ⟨_, eA, hb, _⟩ := at_T48 (Kd.C_below a0 hB2) 0 (Int.le_refl _) (by omega)
 cases eA
 rw [hoa] at ha
 have hb' := hb
 (try simp only [Int.toNat_zero, Nat.zero_mul, Addr.add_zero'] at hb')
 have q0 : (0 ≤ x1) = True := eq_true i0
 have q1 : (x1 < (la.length : Int)) = True := eq_true (by omega)
 have q2 : ((0 : Int) ≤ 0) = True := eq_true (Int.le_refl _)
 have q3 : (0 < (la.length : Int)) = True := eq_true (by omega)
 have q3' : (0 < la.length) = True := eq_true (by omega)
 have HX1 := Aside0.mk h1'
 have HO := Aside0.mk ho
 have hz1 := h1'.1
 have hs1 : (parB (decide (a > 2)) ta).size + o.size ≤ 9223372036854775807 := by have := parB_size (decide (a > 2)) ta; omega
 have hs1' : (9223372036854775807 < (parB (decide (a > 2)) ta).size + o.size) = False := eq_false (by omega)
 clear i0 i1 hz1 h1' hoa ho hos
 clear hX hR h0 h1 a0 a1 hB1 hB2 hbt hbn
 go_enter Tryd.func9, Tryd.ntmps9
 go_wp2_with fail
 obtain ⟨W1, hW1⟩ : ∃ W1, W1 = (W.alloc (.cells #[.slice (some ad) la.length c0, .slice A1 sa.length c1, .int .i64 r] 25 (0, 0))).alloc (.cells #[.int .i64 5, .int .i64 x1, .int .i64 0, .int .i64 x3, .int .i64 x4, .int .i64 x5] 48 (0, 0)) := ⟨_, rfl⟩
 rw [← hW1]
 rw [← hW1] at ht0 ht1 ht2 hn0 hn1 hn2 hn3 hn4 hn5
 have HBw : Aside0 (Below W.heap.size W W1) := ⟨by rw [hW1]; exact HBw.out⟩
 clear hW1
 refine start_ (n := 13) (S := fun w' => w'.cell? ⟨W.heap.size, 0, none⟩ = some (.slice (some ad) la.length c0) ∧ w'.cell? ⟨W.heap.size, 1, none⟩ = some (.slice A1 sa.length c1) ∧ w'.cell? ⟨W.heap.size, 2, none⟩ = some (.int .i64 r) ∧ w'.cell? ⟨W.heap.size + 1, 1, none⟩ = some (.int .i64 x1) ∧ w'.cell? ⟨W.heap.size + 1, 3, none⟩ = some (.int .i64 x3) ∧ w'.cell? ⟨W.heap.size + 1, 4, none⟩ = some (.int .i64 x4)) (ds := [10]) #[false, false, false, false, false, false, false, false, false, false, false, false, false] (by kernel_rfl) rfl rfl ⟨ht0, ht1, ht2, hn1, hn3, hn4⟩ (fun hHeld => ?_)
 refine pq_ (i := 1) (n := 77) (bA 13 2) (by kernel_rfl) ?_
 refine pq_ (i := 3) (n := 79) (bA 13 10) (by kernel_rfl) ?_
 refine pq_ (i := 4) (n := 80) (bA 13 26) (by kernel_rfl) ?_
 refine pq_ (i := 6) (n := 82) (bA 13 90) (by kernel_rfl) ?_
 refine pq_ (i := 8) (n := 84) (bA 13 346) (by kernel_rfl) ?_
 refine tq_ (i := 0) (n := 76) (bA 13 347) (by kernel_rfl) hHeld ?_
 refine tq_ (i := 2) (n := 78) (bA 13 351) (by kernel_rfl) hHeld ?_
 refine tq_ (i := 7) (n := 83) (bA 13 479) (by kernel_rfl) hHeld ?_
 refine tq_ (i := 9) (n := 85) (bA 13 991) (by kernel_rfl) hHeld ?_
 refine one_ (i := 5) (N := some 81) (bA 13 1023) rfl rfl (by kernel_rfl) (by decide) (fun K hK => ?_)
 refine goes_ Tryd.func21 (by kernel_rfl) rfl #[.agg #[.slice (some ad) la.length c0, .slice A1 sa.length c1, .int .i64 r], .int .i64 x1, .bool (decide (a > 2))] (by rfl) rfl rfl (by simp only [List.map_toArray, List.map_cons, List.map_nil]; rfl) ?_
 with_reducible refine (part_ref HX1.out ((decide (a > 2))) _ (Kd.C_below HA0.out (below_then HBw.out HBw.out.size (below_drew1 (Below.refl _ W1)))) (Kd.C_below HA1.out (below_then HBw.out HBw.out.size (below_drew1 (Below.refl _ W1))))).mono ?_
 rintro e w4 ⟨rfl, hb4⟩
 refine ⟨_, rfl, ?_⟩
 refine hK.out _ _ ⟨(pw_cell_below hb4 ht0), (pw_cell_below hb4 ht1), (pw_cell_below hb4 ht2), (pw_cell_below hb4 hn1), (pw_cell_below hb4 hn3), (pw_cell_below hb4 hn4)⟩ (fun hHeld => ?_)
 clear hK K
 refine nm_ (n := 81) ?_
 refine last_ (i := 10) (N := some 86) #[true, true, true, true, true, true, true, true, true, true, true, false, false] rfl rfl (by kernel_rfl) (by decide) (fun K hK => ?_)
 refine goes_ Tryd.func22 (by kernel_rfl) rfl #[.int .i64 x3, .int .i64 x4] (by rfl) rfl rfl (by simp only [List.map_toArray, List.map_cons, List.map_nil]; rfl) ?_
 with_reducible refine (spoolref14_often.calls k x3 x4 o _ HO.out).mono ?_
 rintro e w5 ⟨rfl, hd5⟩
 refine ⟨_, rfl, ?_⟩
 refine hK.out _ _ ?_
 clear hK K
 refine nm_ (n := 86) ?_
 refine pq_ (i := 11) (n := 87) (bA 13 4095) (by kernel_rfl) ?_
 refine pq_ (i := 12) (n := 4) (bA 13 8191) (by kernel_rfl) ?_
 refine done_ (by kernel_rfl) ?_
 go_wp2_with fail
 go_ret
 exact ⟨rfl, below_then (below_then (below_then HBw.out HBw.out.size (below_drew1 (Below.refl _ W1))) (Below.size (below_then HBw.out HBw.out.size (below_drew1 (Below.refl _ W1)))) hb4) (Below.size (below_then (below_then HBw.out HBw.out.size (below_drew1 (Below.refl _ W1))) (Below.size (below_then HBw.out HBw.out.size (below_drew1 (Below.refl _ W1)))) hb4)) (Drawn0.below hd5)⟩
end Go.Proofs.YtlihkebmonfefaaDoor.HandRef
/- The document's Print, of any node: what it tells. Conditions: the tree lies there; the walk is within the rounds. -/
set_option linter.unusedSimpArgs false
set_option linter.unusedVariables false
namespace Go.Proofs.YtlihkebmonfefaaDoor.HandRefs
open Go.RowKit Go.Proofs.YtlihkebmonfefaaDoorW.PrintWords Go.Proofs.YtlihkebmonfefaaDoorW.PrintLast Go.Proofs.YtlihkebmonfefaaDoorW.PrintMore Go.Proofs.YtlihkebmonfefaaDoor.PG Go.Proofs.YtlihkebmonfefaaDoor.HandRight Go.Proofs.YtlihkebmonfefaaDoor.HandRef
open Go.Proofs.YtlihkebmonfefaaDoor.HandNode (right1 right5 right34)
def lim (t : ByteArray) : Option ByteArray := if t.size ≤ 1000000000 then some t else none
theorem lim_some {t u : ByteArray} (h : lim t = some u) : u = t ∧ t.size ≤ 1000000000 := by
 unfold lim at h
 by_cases c : t.size ≤ 1000000000
 ·rw [if_pos c] at h; exact ⟨(Option.some.inj h).symm, c⟩
 ·rw [if_neg c] at h; cases h
def rxN (k : Nat) (l : List S48) (s : List (List S60)) : Nat → Int → Option ByteArray
 | 0, _ => none
 | d + 1, i => let n := rd_T48 l i
  if n.f0 = 2 then (spoolref14_set.f k (rd_L4 s n.f5)).bind lim
  else if n.f0 = 3 then (rxN k l s d n.f1).bind fun a => (rxN k l s d n.f2).bind fun b => lim (parB ((rd_T48 l n.f1).f0 == 4) a ++ parB (if (rd_T48 l n.f2).f0 = 3 then true else (rd_T48 l n.f2).f0 == 4) b)
  else if n.f0 = 4 then (rxN k l s d n.f1).bind fun a => (rxN k l s d n.f2).bind fun b => lim ((a ++ (⟨#[124]⟩ : ByteArray)) ++ parB ((rd_T48 l n.f2).f0 == 4) b)
  else if n.f0 = 5 then (rxN k l s d n.f1).bind fun a => (spoolref14_often.f k n.f3 n.f4).bind fun o => (lim o).bind fun o => lim (parB (decide ((rd_T48 l n.f1).f0 > 2)) a ++ o)
  else some ⟨#[40, 41]⟩
theorem rxN_mono (l : List S48) (s : List (List S60)) (k : Nat) : ∀ d i, LeO (rxN k l s d i) (rxN (k + 1) l s d i) := by
 intro d
 induction d with
 | zero => intro i; exact LeO.none _
 | succ d ih =>
  intro i
  unfold rxN
  exact LeO.ite (LeO.bind (spoolref14_set.mono _ _) fun t => LeO.refl _) (LeO.ite (LeO.bind (ih _) fun a => LeO.bind (ih _) fun b => LeO.refl _) (LeO.ite (LeO.bind (ih _) fun a => LeO.bind (ih _) fun b => LeO.refl _) (LeO.ite (LeO.bind (ih _) fun a => LeO.bind (spoolref14_often.mono _ _ _) fun b => LeO.refl _) (LeO.refl _))))
def okR (l : List S48) (s : List (List S60)) : Bool := (List.range l.length).all fun i => rightN (rd_T48 l (i : Int)) (i : Int) (s.length : Int)
theorem okR_at {l : List S48} {s : List (List S60)} (h : okR l s = true) (i : Int) (h0 : 0 ≤ i) (h1 : i < (l.length : Int)) : rightN (rd_T48 l i) i (s.length : Int) = true := by
 unfold okR at h
 rw [List.all_eq_true] at h
 have e := h i.toNat (List.mem_range.2 (by omega))
 rwa [show ((i.toNat : Nat) : Int) = i by omega] at e
theorem right5z {a b c d e i m : Int} (h : rightN ⟨5, a, b, c, d, e⟩ i m = true) : b = 0 := by
 simp [rightN] at h
 omega
theorem ref_all (k : Nat) (ad : Addr) (c0 : Nat) (la : List S48) (A1 : Option Addr) (c1 : Nat) (sa : List (List S60)) (r : Int) (hr : okR la sa = true) : ∀ (d : Nat) (i : Int) (t : ByteArray), 0 ≤ i → i < (la.length : Int) → rxN k la sa d i = some t → RefC ad c0 la A1 c1 sa r i t := by
 intro d
 induction d with
 | zero => intro i t _ _ h; cases h
 | succ d ih =>
  intro i t h0 h1 h
  obtain ⟨x0, x1, x2, x3, x4, x5, hX⟩ : ∃ x0 x1 x2 x3 x4 x5, rd_T48 la i = ⟨x0, x1, x2, x3, x4, x5⟩ := ⟨_, _, _, _, _, _, rfl⟩
  have hR := okR_at hr i h0 h1
  rw [hX] at hR
  rw [rxN] at h
  rw [hX] at h
  by_cases c2 : x0 = 2
  ·simp only [if_pos c2] at h
   obtain ⟨b, hb, h⟩ := Option.bind_eq_some_iff.mp h
   obtain ⟨rfl, hs⟩ := lim_some h
   exact ⟨hs, fun W a0 a1 => ref_two ad c0 la A1 c1 sa r i h0 h1 x0 x1 x2 x3 x4 x5 hX hR c2 k t hb W a0 a1⟩
  simp only [if_neg c2] at h
  by_cases c3 : x0 = 3
  ·simp only [if_pos c3] at h
   obtain ⟨a, ha, h⟩ := Option.bind_eq_some_iff.mp h
   obtain ⟨b, hb, h⟩ := Option.bind_eq_some_iff.mp h
   obtain ⟨rfl, hs⟩ := lim_some h
   obtain ⟨⟨i0, i1⟩, j0, j1⟩ := right34 (.inl c3) hR
   have r1 := ih x1 a i0 (by omega) ha
   have r2 := ih x2 b j0 (by omega) hb
   by_cases c : (rd_T48 la x2).f0 = 3
   ·rw [if_pos c] at hs ⊢
    exact ⟨hs, fun W a0 a1 => ref_three_a ad c0 la A1 c1 sa r i h0 h1 x0 x1 x2 x3 x4 x5 hX hR c3 _ _ a b rfl rfl r1 r2 c W a0 a1⟩
   ·rw [if_neg c] at hs ⊢
    exact ⟨hs, fun W a0 a1 => ref_three_b ad c0 la A1 c1 sa r i h0 h1 x0 x1 x2 x3 x4 x5 hX hR c3 _ _ a b rfl rfl r1 r2 c W a0 a1⟩
  simp only [if_neg c3] at h
  by_cases c4 : x0 = 4
  ·simp only [if_pos c4] at h
   obtain ⟨a, ha, h⟩ := Option.bind_eq_some_iff.mp h
   obtain ⟨b, hb, h⟩ := Option.bind_eq_some_iff.mp h
   obtain ⟨rfl, hs⟩ := lim_some h
   obtain ⟨⟨i0, i1⟩, j0, j1⟩ := right34 (.inr c4) hR
   exact ⟨hs, fun W a0 a1 => ref_four ad c0 la A1 c1 sa r i h0 h1 x0 x1 x2 x3 x4 x5 hX hR c4 _ _ a b rfl rfl (ih x1 a i0 (by omega) ha) (ih x2 b j0 (by omega) hb) W a0 a1⟩
  simp only [if_neg c4] at h
  by_cases c5 : x0 = 5
  ·simp only [if_pos c5] at h
   obtain ⟨a, ha, h⟩ := Option.bind_eq_some_iff.mp h
   obtain ⟨o, ho, h⟩ := Option.bind_eq_some_iff.mp h
   obtain ⟨o', ho', h3⟩ := Option.bind_eq_some_iff.mp h
   obtain ⟨rfl, hos⟩ := lim_some ho'
   obtain ⟨rfl, hs⟩ := lim_some h3
   have hR5 := hR
   rw [c5] at hR5
   obtain ⟨i0, i1⟩ := right5 hR5
   exact ⟨hs, fun W a0 a1 => ref_five ad c0 la A1 c1 sa r i h0 h1 x0 x1 x2 x3 x4 x5 hX hR c5 _ a o' k rfl (ih x1 a i0 (by omega) ha) ho hos (right5z hR5) W a0 a1⟩
  simp only [if_neg c5] at h
  obtain rfl := (Option.some.inj h).symm
  exact ⟨by decide, fun W a0 a1 => ref_one ad c0 la A1 c1 sa r i h0 h1 x0 x1 x2 x3 x4 x5 hX hR (right1 hR c2 c3 c4 c5) W a0 a1⟩
def spoolref14_Print.f (k : Nat) (l : List S48) (s : List (List S60)) (r i : Int) : Option ByteArray := if okR l s = true ∧ 0 ≤ i ∧ i < (l.length : Int) then rxN k l s l.length i else none
theorem spoolref14_Print.mono : ∀ a0 a1 a2 a3 k, LeO (spoolref14_Print.f k a0 a1 a2 a3) (spoolref14_Print.f (k + 1) a0 a1 a2 a3) := by
 intro l s r i k
 unfold spoolref14_Print.f
 exact LeO.ite (rxN_mono _ _ _ _ _) (LeO.none _)
theorem spoolref14_Print.calls (k : Nat) (A0_0 : Option Addr) (c0_0 : Nat) (l0_0 : List (S48)) (A0_1 : Option Addr) (c0_1 : Nat) (l0_1 : List (List (S60))) (a0_2 a1 : Int) (r : ByteArray) (w : World) (hr0_0 : Kd.C k48 w A0_0 l0_0.length l0_0) (hc0_0 : l0_0.length ≤ c0_0) (hr0_1 : Kd.C (Kd.slice 60 k60) w A0_1 l0_1.length l0_1) (hc0_1 : l0_1.length ≤ c0_1) (h : spoolref14_Print.f k l0_0 l0_1 a0_2 a1 = some r) :
  Calls Tryd.prog 9 #[.agg #[.slice A0_0 l0_0.length c0_0, .slice A0_1 l0_1.length c0_1, .int .i64 a0_2], .int .i64 a1] w fun e w' => e = .returned (.string r) ∧ Below w.heap.size w w' := by
 unfold spoolref14_Print.f at h
 by_cases c : okR l0_0 l0_1 = true ∧ 0 ≤ a1 ∧ a1 < (l0_0.length : Int)
 ·rw [if_pos c] at h
  obtain ⟨ad, eA, _⟩ := at_T48 hr0_0 a1 c.2.1 c.2.2
  subst eA
  exact (ref_all k ad c0_0 l0_0 A0_1 c0_1 l0_1 a0_2 c.1 _ a1 r c.2.1 c.2.2 h).2 w hr0_0 hr0_1
 ·rw [if_neg c] at h; cases h
end Go.Proofs.YtlihkebmonfefaaDoor.HandRefs
