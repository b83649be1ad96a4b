import Derived.Test.YtifcpamliidabaaDoorPSx0
import Derived.Test.YtifcpamliidabaaDoorPSx4
import Derived.Test.YtifcpamliidabaaDoorHandOpM
import Derived.Lib.Bytealg
import Derived.Lib.IndexLaws
import Derived.RangeFuncBox
import Derived.RangeFuncLeaves
import Derived.Shelf.Abstract
import Derived.OwnWalkIn
import Derived.TacticsInMore
import Derived.LoopNIn
import Derived.LoopIn
import Derived.WalkSmall
import Derived.Test.YtifcpamliidabaaDoorHandOp
/- What the reader of lines reads: an item. Conditions: what the plain functions tell. -/
set_option linter.unusedSimpArgs false
set_option linter.unusedVariables false
namespace Go.Proofs.YtifcpamliidabaaDoor.HandItem
open Go.RowKit Go.Proofs.YtifcpamliidabaaDoorW.PrintWords Go.Proofs.YtifcpamliidabaaDoorW.PrintLast Go.Proofs.YtifcpamliidabaaDoorW.PrintMore Go.Proofs.YtifcpamliidabaaDoor.PS Go.Proofs.YtifcpamliidabaaDoor.HandKind Go.Proofs.YtifcpamliidabaaDoor.HandRd Go.Proofs.YtifcpamliidabaaDoor.HandOpM
def headF (s : ByteArray) : Int := (findL tab_script_heads 0 s : Int)
/-- Both tables stand. -/
def Names (w : World) : Prop := Kd.C Kd.string w (some ⟨0, 0, none⟩) tab_script_names.length tab_script_names ∧ Kd.C Kd.string w (some ⟨1, 0, none⟩) tab_script_heads.length tab_script_heads
theorem head_names (s : ByteArray) (W0 w : World) (hB : Below W0.heap.size W0 w) (hr : Kd.C Kd.string W0 (some ⟨1, 0, none⟩) tab_script_heads.length tab_script_heads) :
    Calls Tryd.prog 50 #[.string s] w fun e w' => e = .returned (.int .i64 (headF s)) ∧ w' = w := head_calls s w (Kd.C_below hr hB)
theorem item_tail {g R : Nat} {w0 w W : World} {s : ByteArray} {at_ e_ ea : Int} {x0 x1 x2 x3 x4 : Value} (hI : IsS60 w0 W g s at_ e_ ea) (hB : Below w0.heap.size w0 W) (hK : KeepBut w W g none) (hR : W.heap[R]? = some (.cells #[x0, x1, x2, x3, x4] 51 (0, 0))) (hw : w.heap.size ≤ R) (h0 : w0.heap.size ≤ w.heap.size) (hg : g ≠ R) (u0 u1 u2 u3 u4 : Value) :
    (((((W.setCell ⟨R, 0, none⟩ u0).setCell ⟨R, 1, none⟩ u1).setCell ⟨R, 2, none⟩ u2).setCell ⟨R, 3, none⟩ u3).setCell ⟨R, 4, none⟩ u4).heap[R]? = some (.cells #[u0, u1, u2, u3, u4] 51 (0, 0)) ∧
      IsS60 w0 (((((W.setCell ⟨R, 0, none⟩ u0).setCell ⟨R, 1, none⟩ u1).setCell ⟨R, 2, none⟩ u2).setCell ⟨R, 3, none⟩ u3).setCell ⟨R, 4, none⟩ u4) g s at_ e_ ea ∧ Below w0.heap.size w0 (((((W.setCell ⟨R, 0, none⟩ u0).setCell ⟨R, 1, none⟩ u1).setCell ⟨R, 2, none⟩ u2).setCell ⟨R, 3, none⟩ u3).setCell ⟨R, 4, none⟩ u4) ∧
      KeepBut w (((((W.setCell ⟨R, 0, none⟩ u0).setCell ⟨R, 1, none⟩ u1).setCell ⟨R, 2, none⟩ u2).setCell ⟨R, 3, none⟩ u3).setCell ⟨R, 4, none⟩ u4) g none := by
  have hq : w0.heap.size ≤ R := Nat.le_trans h0 hw
  exact ⟨blk_set (blk_set (blk_set (blk_set (blk_set hR 0 u0) 1 u1) 2 u2) 3 u3) 4 u4, IsS60.far (p := ⟨R, 4, none⟩) (IsS60.far (p := ⟨R, 3, none⟩) (IsS60.far (p := ⟨R, 2, none⟩) (IsS60.far (p := ⟨R, 1, none⟩) (IsS60.far (p := ⟨R, 0, none⟩) hI hg u0) hg u1) hg u2) hg u3) hg u4, below_set (below_set (below_set (below_set (below_set hB hq) hq) hq) hq) hq, keep_new_set (keep_new_set (keep_new_set (keep_new_set (keep_new_set hK hw 0 u0) hw 1 u1) hw 2 u2) hw 3 u3) hw 4 u4⟩
set_option maxRecDepth 100000 in
set_option maxHeartbeats 1000000 in
theorem item_end (k : Nat) (g : Nat) (s : ByteArray) (at_ e_ ea : Int) (wd : ByteArray) (a b : Int) (w0 w : World) (hI : IsS60 w0 w g s at_ e_ ea) (hB : Below w0.heap.size w0 w)
    (h : wordF k s at_ = some (wd, a, b)) (hne : wd.toList = ([] : List UInt8)) :
    Calls Tryd.prog 29 #[.pointer (some ⟨g, 0, none⟩)] w fun E w' => E = .returned (.tuple #[.agg #[.int .i64 0, .int .i64 0, .int .i64 0, .int .i64 0, .string ⟨#[]⟩], .bool false]) ∧ IsS60 w0 w' g s b e_ ea ∧ Below w0.heap.size w0 w' ∧ KeepBut w w' g none := by
  have HW := Aside0.mk h
  have HS : Aside0 (g < w.heap.size ∧ w0.heap.size ≤ w.heap.size) := ⟨hI.lt, hB.size⟩
  have HI := Aside0.mk hI
  have HB := Aside0.mk hB
  have c1 : (wd.toList == ([] : List UInt8)) = true := beq_iff_eq.mpr hne
  clear h hI hB hne
  go_enter Tryd.func29, Tryd.ntmps29
  go_wp2_with (go_at_call 49; (refine (word_calls k g s at_ e_ ea wd a b w0 _ (IsS60.alloc HI.out _) (HB.out.alloc HB.out.size _) HW.out).mono ?_); rintro e W1 ⟨rfl, hI1, hB1, hK1⟩; have HR1 := Aside0.mk (keep_new HI.out hK1); have hy0 : W1.cell? ⟨w.heap.size, 0, none⟩ = some (.int .i64 0) := (blk_cell HR1.out 0).trans rfl; have hy1 : W1.cell? ⟨w.heap.size, 1, none⟩ = some (.int .i64 0) := (blk_cell HR1.out 1).trans rfl; have hy2 : W1.cell? ⟨w.heap.size, 2, none⟩ = some (.int .i64 0) := (blk_cell HR1.out 2).trans rfl; have hy3 : W1.cell? ⟨w.heap.size, 3, none⟩ = some (.int .i64 0) := (blk_cell HR1.out 3).trans rfl; have hy4 : W1.cell? ⟨w.heap.size, 4, none⟩ = some (.string ⟨#[]⟩) := (blk_cell HR1.out 4).trans rfl; have hf0 := blk_frozen HR1.out 0; have hf1 := blk_frozen HR1.out 1; have hf2 := blk_frozen HR1.out 2; have hf3 := blk_frozen HR1.out 3; have hf4 := blk_frozen HR1.out 4; have HI1 := Aside0.mk hI1; have HB1 := Aside0.mk hB1; have HK1 := Aside0.mk (KeepBut.trans (keep_alloc (KeepBut.refl w g none) _) hK1 (.inl rfl)); clear hI1 hB1 hK1 HI HB)
  obtain ⟨t1_, t2_, t3_, t4_⟩ := item_tail HI1.out HB1.out HK1.out HR1.out (Nat.le_refl _) HS.out.2 (Nat.ne_of_lt HS.out.1) (.int .i64 0) (.int .i64 0) (.int .i64 0) (.int .i64 0) (.string ⟨#[]⟩)
  refine bodyPost_ret (results_list (rs := [.cell 2 51, .tmp 3]) rfl (by simp) (.cell w.heap.size 51 #[.int .i64 0, .int .i64 0, .int .i64 0, .int .i64 0, .string ⟨#[]⟩] (0, 0) _ rfl t1_ Tryd.underlying51 rfl (by kernel_rfl) (.tmp .nil))) rfl ⟨rfl, t2_, t3_, t4_⟩
set_option maxRecDepth 100000 in
set_option maxHeartbeats 2000000 in
theorem item0 (k : Nat) (g : Nat) (s : ByteArray) (at_ e_ ea : Int) (wd : ByteArray) (a b : Int) (wd2 : ByteArray) (a2 b2 : Int) (w0 w : World) (hI : IsS60 w0 w g s at_ e_ ea) (hB : Below w0.heap.size w0 w) (hG : Names w0)
    (h : wordF k s at_ = some (wd, a, b)) (hne : wd.toList ≠ ([] : List UInt8)) (hk : headF wd = 0) (hw2 : wordF k s b = some (wd2, a2, b2)) (he2 : wd2.toList = ([] : List UInt8)) :
    Calls Tryd.prog 29 #[.pointer (some ⟨g, 0, none⟩)] w fun E w' => E = .returned (.tuple #[.agg #[.int .i64 0, .int .i64 0, .int .i64 0, .int .i64 0, .string ⟨#[]⟩], .bool true]) ∧ IsS60 w0 w' g s b2 (wrongF e_ ea 3 a).1 (wrongF e_ ea 3 a).2 ∧ Below w0.heap.size w0 w' ∧ KeepBut w w' g none := by
  have HW := Aside0.mk h
  have HK := Aside0.mk hk
  have HG1 := Aside0.mk hG
  have HG := Aside0.mk hG.1
  have HGh := Aside0.mk hG.2
  have HW2 := Aside0.mk hw2
  have HS : Aside0 (g < w.heap.size ∧ w0.heap.size ≤ w.heap.size) := ⟨hI.lt, hB.size⟩
  have HI := Aside0.mk hI
  have HB := Aside0.mk hB
  have c1 : (wd.toList == ([] : List UInt8)) = false := beq_eq_false_iff_ne.mpr hne
  have c2 : (wd2.toList == ([] : List UInt8)) = true := beq_iff_eq.mpr he2
  have c3 : (wd2.toList != ([] : List UInt8)) = false := bne_eq_false_iff_eq.mpr he2
  clear h hk hG hI hB hne hw2 he2
  go_enter Tryd.func29, Tryd.ntmps29
  go_wp2_with (first | (go_at_call 49; (refine (word_calls k g s at_ e_ ea wd a b w0 _ (IsS60.alloc HI.out _) (HB.out.alloc HB.out.size _) HW.out).mono ?_); rintro e W1 ⟨rfl, hI1, hB1, hK1⟩; have HR1 := Aside0.mk (keep_new HI.out hK1); have HI1 := Aside0.mk hI1; have HB1 := Aside0.mk hB1; have HS1 := Aside0.mk hI1.lt; have HRP := Aside0.mk (Nat.ne_of_lt (blk_lt HR1.out)); have HK1 := Aside0.mk (KeepBut.trans (keep_alloc (KeepBut.refl w g none) _) hK1 (.inl rfl)); clear hI1 hB1 hK1 HI HB) | (go_at_call 50; (refine (head_names wd w0 _ HB1.out HGh.out).mono ?_); rintro e W2 ⟨rfl, hW⟩; obtain rfl := hW.symm; rw [HK.out]) | (go_at_call 51; (refine (wrong_calls g s b e_ ea 3 a w0 _ (IsS60.alloc HI1.out _) (HB1.out.alloc HB1.out.size _)).mono ?_); rintro e W2 ⟨rfl, hI, hB, hK⟩; have HR2 : Aside0 (W2.heap[w.heap.size]? = some (.cells #[.int .i64 0, .int .i64 0, .int .i64 0, .int .i64 0, .string ⟨#[]⟩] 51 (0, 0))) := ⟨KeepBut.blk hK (blk_alloc HR1.out _) (Nat.ne_of_gt HS.out.1) (by simp)⟩; have HP2 : Aside0 (W2.heap[W1.heap.size]? = some (.cells #[.int .i64 0, .int .i64 0, .int .i64 0, .int .i64 0, .string ⟨#[]⟩] 51 (0, 0))) := ⟨KeepBut.blk hK (blk_new W1 #[.int .i64 0, .int .i64 0, .int .i64 0, .int .i64 0, .string ⟨#[]⟩] 51) (Nat.ne_of_gt HS1.out) (by simp)⟩; have HK2 := Aside0.mk (KeepBut.trans (keep_alloc HK1.out _) hK (.inl rfl)); have HI2 := Aside0.mk hI; have HB2 := Aside0.mk hB; clear hI hB hK; (try clear hx0 hx1 hx2 hx3 hx4 hy0 hy1 hy2 hy3 hy4 hf0 hf1 hf2 hf3 hf4 hg0 hg1 hg2 hg3 hg4); have hx0 : W2.cell? ⟨W1.heap.size, 0, none⟩ = some (.int .i64 0) := (blk_cell HP2.out 0).trans rfl; have hx1 : W2.cell? ⟨W1.heap.size, 1, none⟩ = some (.int .i64 0) := (blk_cell HP2.out 1).trans rfl; have hx2 : W2.cell? ⟨W1.heap.size, 2, none⟩ = some (.int .i64 0) := (blk_cell HP2.out 2).trans rfl; have hx3 : W2.cell? ⟨W1.heap.size, 3, none⟩ = some (.int .i64 0) := (blk_cell HP2.out 3).trans rfl; have hx4 : W2.cell? ⟨W1.heap.size, 4, none⟩ = some (.string ⟨#[]⟩) := (blk_cell HP2.out 4).trans rfl; have hy0 : W2.cell? ⟨w.heap.size, 0, none⟩ = some (.int .i64 0) := (blk_cell HR2.out 0).trans rfl; have hy1 : W2.cell? ⟨w.heap.size, 1, none⟩ = some (.int .i64 0) := (blk_cell HR2.out 1).trans rfl; have hy2 : W2.cell? ⟨w.heap.size, 2, none⟩ = some (.int .i64 0) := (blk_cell HR2.out 2).trans rfl; have hy3 : W2.cell? ⟨w.heap.size, 3, none⟩ = some (.int .i64 0) := (blk_cell HR2.out 3).trans rfl; have hy4 : W2.cell? ⟨w.heap.size, 4, none⟩ = some (.string ⟨#[]⟩) := (blk_cell HR2.out 4).trans rfl; have hf0 := blk_frozen HR2.out 0; have hg0 := blk_frozen HP2.out 0; have hf1 := blk_frozen HR2.out 1; have hg1 := blk_frozen HP2.out 1; have hf2 := blk_frozen HR2.out 2; have hg2 := blk_frozen HP2.out 2; have hf3 := blk_frozen HR2.out 3; have hg3 := blk_frozen HP2.out 3; have hf4 := blk_frozen HR2.out 4; have hg4 := blk_frozen HP2.out 4; have hnw := eq_false HRP.out; have hnw2 := eq_false (Ne.symm HRP.out); clear HI1) | (go_at_call 49; (refine (word_calls k g s b (wrongF e_ ea 3 a).1 (wrongF e_ ea 3 a).2 wd2 a2 b2 w0 _ HI2.out HB2.out HW2.out).mono ?_); rintro e W3 ⟨rfl, hI, hB, hK⟩; have HR3 : Aside0 (W3.heap[w.heap.size]? = some (.cells #[.int .i64 0, .int .i64 0, .int .i64 0, .int .i64 0, .string ⟨#[]⟩] 51 (0, 0))) := ⟨KeepBut.blk hK HR2.out (Nat.ne_of_gt HS.out.1) (by simp)⟩; have HP3 : Aside0 (W3.heap[W1.heap.size]? = some (.cells #[.int .i64 0, .int .i64 0, .int .i64 0, .int .i64 0, .string ⟨#[]⟩] 51 (0, 0))) := ⟨KeepBut.blk hK HP2.out (Nat.ne_of_gt HS1.out) (by simp)⟩; have HK3 := Aside0.mk (KeepBut.trans HK2.out hK (.inl rfl)); have HI3 := Aside0.mk hI; have HB3 := Aside0.mk hB; clear hI hB hK; (try clear hx0 hx1 hx2 hx3 hx4 hy0 hy1 hy2 hy3 hy4 hf0 hf1 hf2 hf3 hf4 hg0 hg1 hg2 hg3 hg4); have hx0 : W3.cell? ⟨W1.heap.size, 0, none⟩ = some (.int .i64 0) := (blk_cell HP3.out 0).trans rfl; have hx1 : W3.cell? ⟨W1.heap.size, 1, none⟩ = some (.int .i64 0) := (blk_cell HP3.out 1).trans rfl; have hx2 : W3.cell? ⟨W1.heap.size, 2, none⟩ = some (.int .i64 0) := (blk_cell HP3.out 2).trans rfl; have hx3 : W3.cell? ⟨W1.heap.size, 3, none⟩ = some (.int .i64 0) := (blk_cell HP3.out 3).trans rfl; have hx4 : W3.cell? ⟨W1.heap.size, 4, none⟩ = some (.string ⟨#[]⟩) := (blk_cell HP3.out 4).trans rfl; have hy0 : W3.cell? ⟨w.heap.size, 0, none⟩ = some (.int .i64 0) := (blk_cell HR3.out 0).trans rfl; have hy1 : W3.cell? ⟨w.heap.size, 1, none⟩ = some (.int .i64 0) := (blk_cell HR3.out 1).trans rfl; have hy2 : W3.cell? ⟨w.heap.size, 2, none⟩ = some (.int .i64 0) := (blk_cell HR3.out 2).trans rfl; have hy3 : W3.cell? ⟨w.heap.size, 3, none⟩ = some (.int .i64 0) := (blk_cell HR3.out 3).trans rfl; have hy4 : W3.cell? ⟨w.heap.size, 4, none⟩ = some (.string ⟨#[]⟩) := (blk_cell HR3.out 4).trans rfl; have hf0 := blk_frozen HR3.out 0; have hg0 := blk_frozen HP3.out 0; have hf1 := blk_frozen HR3.out 1; have hg1 := blk_frozen HP3.out 1; have hf2 := blk_frozen HR3.out 2; have hg2 := blk_frozen HP3.out 2; have hf3 := blk_frozen HR3.out 3; have hg3 := blk_frozen HP3.out 3; have hf4 := blk_frozen HR3.out 4; have hg4 := blk_frozen HP3.out 4; clear HI2))
  obtain ⟨t1_, t2_, t3_, t4_⟩ := item_tail HI3.out HB3.out HK3.out HR3.out (Nat.le_refl _) HS.out.2 (Nat.ne_of_lt HS.out.1) (.int .i64 0) (.int .i64 0) (.int .i64 0) (.int .i64 0) (.string ⟨#[]⟩)
  refine bodyPost_ret (results_list (rs := [.cell 2 51, .tmp 3]) rfl (by simp) (.cell w.heap.size 51 #[.int .i64 0, .int .i64 0, .int .i64 0, .int .i64 0, .string ⟨#[]⟩] (0, 0) _ rfl t1_ Tryd.underlying51 rfl (by kernel_rfl) (.tmp .nil))) rfl ⟨rfl, t2_, t3_, t4_⟩
set_option maxRecDepth 100000 in
set_option maxHeartbeats 2000000 in
theorem item0w (k : Nat) (g : Nat) (s : ByteArray) (at_ e_ ea : Int) (wd : ByteArray) (a b : Int) (wd2 : ByteArray) (a2 b2 : Int) (w0 w : World) (hI : IsS60 w0 w g s at_ e_ ea) (hB : Below w0.heap.size w0 w) (hG : Names w0)
    (h : wordF k s at_ = some (wd, a, b)) (hne : wd.toList ≠ ([] : List UInt8)) (hk : headF wd = 0) (hw2 : wordF k s b = some (wd2, a2, b2)) (he2 : wd2.toList ≠ ([] : List UInt8)) :
    Calls Tryd.prog 29 #[.pointer (some ⟨g, 0, none⟩)] w fun E w' => E = .returned (.tuple #[.agg #[.int .i64 0, .int .i64 0, .int .i64 0, .int .i64 0, .string ⟨#[]⟩], .bool true]) ∧ IsS60 w0 w' g s b2 (wrongF (wrongF e_ ea 3 a).1 (wrongF e_ ea 3 a).2 3 a2).1 (wrongF (wrongF e_ ea 3 a).1 (wrongF e_ ea 3 a).2 3 a2).2 ∧ Below w0.heap.size w0 w' ∧ KeepBut w w' g none := by
  have HW := Aside0.mk h
  have HK := Aside0.mk hk
  have HG1 := Aside0.mk hG
  have HG := Aside0.mk hG.1
  have HGh := Aside0.mk hG.2
  have HW2 := Aside0.mk hw2
  have HS : Aside0 (g < w.heap.size ∧ w0.heap.size ≤ w.heap.size) := ⟨hI.lt, hB.size⟩
  have HI := Aside0.mk hI
  have HB := Aside0.mk hB
  have c1 : (wd.toList == ([] : List UInt8)) = false := beq_eq_false_iff_ne.mpr hne
  have c2 : (wd2.toList == ([] : List UInt8)) = false := beq_eq_false_iff_ne.mpr he2
  have c3 : (wd2.toList != ([] : List UInt8)) = true := bne_iff_ne.mpr he2
  clear h hk hG hI hB hne hw2 he2
  go_enter Tryd.func29, Tryd.ntmps29
  go_wp2_with (first | (go_at_call 49; (refine (word_calls k g s at_ e_ ea wd a b w0 _ (IsS60.alloc HI.out _) (HB.out.alloc HB.out.size _) HW.out).mono ?_); rintro e W1 ⟨rfl, hI1, hB1, hK1⟩; have HR1 := Aside0.mk (keep_new HI.out hK1); have HI1 := Aside0.mk hI1; have HB1 := Aside0.mk hB1; have HS1 := Aside0.mk hI1.lt; have HRP := Aside0.mk (Nat.ne_of_lt (blk_lt HR1.out)); have HK1 := Aside0.mk (KeepBut.trans (keep_alloc (KeepBut.refl w g none) _) hK1 (.inl rfl)); clear hI1 hB1 hK1 HI HB) | (go_at_call 50; (refine (head_names wd w0 _ HB1.out HGh.out).mono ?_); rintro e W2 ⟨rfl, hW⟩; obtain rfl := hW.symm; rw [HK.out]) | (go_at_call 51; (refine (wrong_calls g s b e_ ea 3 a w0 _ (IsS60.alloc HI1.out _) (HB1.out.alloc HB1.out.size _)).mono ?_); rintro e W2 ⟨rfl, hI, hB, hK⟩; have HR2 : Aside0 (W2.heap[w.heap.size]? = some (.cells #[.int .i64 0, .int .i64 0, .int .i64 0, .int .i64 0, .string ⟨#[]⟩] 51 (0, 0))) := ⟨KeepBut.blk hK (blk_alloc HR1.out _) (Nat.ne_of_gt HS.out.1) (by simp)⟩; have HP2 : Aside0 (W2.heap[W1.heap.size]? = some (.cells #[.int .i64 0, .int .i64 0, .int .i64 0, .int .i64 0, .string ⟨#[]⟩] 51 (0, 0))) := ⟨KeepBut.blk hK (blk_new W1 #[.int .i64 0, .int .i64 0, .int .i64 0, .int .i64 0, .string ⟨#[]⟩] 51) (Nat.ne_of_gt HS1.out) (by simp)⟩; have HK2 := Aside0.mk (KeepBut.trans (keep_alloc HK1.out _) hK (.inl rfl)); have HI2 := Aside0.mk hI; have HB2 := Aside0.mk hB; clear hI hB hK; (try clear hx0 hx1 hx2 hx3 hx4 hy0 hy1 hy2 hy3 hy4 hf0 hf1 hf2 hf3 hf4 hg0 hg1 hg2 hg3 hg4); have hx0 : W2.cell? ⟨W1.heap.size, 0, none⟩ = some (.int .i64 0) := (blk_cell HP2.out 0).trans rfl; have hx1 : W2.cell? ⟨W1.heap.size, 1, none⟩ = some (.int .i64 0) := (blk_cell HP2.out 1).trans rfl; have hx2 : W2.cell? ⟨W1.heap.size, 2, none⟩ = some (.int .i64 0) := (blk_cell HP2.out 2).trans rfl; have hx3 : W2.cell? ⟨W1.heap.size, 3, none⟩ = some (.int .i64 0) := (blk_cell HP2.out 3).trans rfl; have hx4 : W2.cell? ⟨W1.heap.size, 4, none⟩ = some (.string ⟨#[]⟩) := (blk_cell HP2.out 4).trans rfl; have hy0 : W2.cell? ⟨w.heap.size, 0, none⟩ = some (.int .i64 0) := (blk_cell HR2.out 0).trans rfl; have hy1 : W2.cell? ⟨w.heap.size, 1, none⟩ = some (.int .i64 0) := (blk_cell HR2.out 1).trans rfl; have hy2 : W2.cell? ⟨w.heap.size, 2, none⟩ = some (.int .i64 0) := (blk_cell HR2.out 2).trans rfl; have hy3 : W2.cell? ⟨w.heap.size, 3, none⟩ = some (.int .i64 0) := (blk_cell HR2.out 3).trans rfl; have hy4 : W2.cell? ⟨w.heap.size, 4, none⟩ = some (.string ⟨#[]⟩) := (blk_cell HR2.out 4).trans rfl; have hf0 := blk_frozen HR2.out 0; have hg0 := blk_frozen HP2.out 0; have hf1 := blk_frozen HR2.out 1; have hg1 := blk_frozen HP2.out 1; have hf2 := blk_frozen HR2.out 2; have hg2 := blk_frozen HP2.out 2; have hf3 := blk_frozen HR2.out 3; have hg3 := blk_frozen HP2.out 3; have hf4 := blk_frozen HR2.out 4; have hg4 := blk_frozen HP2.out 4; have hnw := eq_false HRP.out; have hnw2 := eq_false (Ne.symm HRP.out); clear HI1) | (go_at_call 49; (refine (word_calls k g s b (wrongF e_ ea 3 a).1 (wrongF e_ ea 3 a).2 wd2 a2 b2 w0 _ HI2.out HB2.out HW2.out).mono ?_); rintro e W3 ⟨rfl, hI, hB, hK⟩; have HR3 : Aside0 (W3.heap[w.heap.size]? = some (.cells #[.int .i64 0, .int .i64 0, .int .i64 0, .int .i64 0, .string ⟨#[]⟩] 51 (0, 0))) := ⟨KeepBut.blk hK HR2.out (Nat.ne_of_gt HS.out.1) (by simp)⟩; have HP3 : Aside0 (W3.heap[W1.heap.size]? = some (.cells #[.int .i64 0, .int .i64 0, .int .i64 0, .int .i64 0, .string ⟨#[]⟩] 51 (0, 0))) := ⟨KeepBut.blk hK HP2.out (Nat.ne_of_gt HS1.out) (by simp)⟩; have HK3 := Aside0.mk (KeepBut.trans HK2.out hK (.inl rfl)); have HI3 := Aside0.mk hI; have HB3 := Aside0.mk hB; clear hI hB hK; (try clear hx0 hx1 hx2 hx3 hx4 hy0 hy1 hy2 hy3 hy4 hf0 hf1 hf2 hf3 hf4 hg0 hg1 hg2 hg3 hg4); have hx0 : W3.cell? ⟨W1.heap.size, 0, none⟩ = some (.int .i64 0) := (blk_cell HP3.out 0).trans rfl; have hx1 : W3.cell? ⟨W1.heap.size, 1, none⟩ = some (.int .i64 0) := (blk_cell HP3.out 1).trans rfl; have hx2 : W3.cell? ⟨W1.heap.size, 2, none⟩ = some (.int .i64 0) := (blk_cell HP3.out 2).trans rfl; have hx3 : W3.cell? ⟨W1.heap.size, 3, none⟩ = some (.int .i64 0) := (blk_cell HP3.out 3).trans rfl; have hx4 : W3.cell? ⟨W1.heap.size, 4, none⟩ = some (.string ⟨#[]⟩) := (blk_cell HP3.out 4).trans rfl; have hy0 : W3.cell? ⟨w.heap.size, 0, none⟩ = some (.int .i64 0) := (blk_cell HR3.out 0).trans rfl; have hy1 : W3.cell? ⟨w.heap.size, 1, none⟩ = some (.int .i64 0) := (blk_cell HR3.out 1).trans rfl; have hy2 : W3.cell? ⟨w.heap.size, 2, none⟩ = some (.int .i64 0) := (blk_cell HR3.out 2).trans rfl; have hy3 : W3.cell? ⟨w.heap.size, 3, none⟩ = some (.int .i64 0) := (blk_cell HR3.out 3).trans rfl; have hy4 : W3.cell? ⟨w.heap.size, 4, none⟩ = some (.string ⟨#[]⟩) := (blk_cell HR3.out 4).trans rfl; have hf0 := blk_frozen HR3.out 0; have hg0 := blk_frozen HP3.out 0; have hf1 := blk_frozen HR3.out 1; have hg1 := blk_frozen HP3.out 1; have hf2 := blk_frozen HR3.out 2; have hg2 := blk_frozen HP3.out 2; have hf3 := blk_frozen HR3.out 3; have hg3 := blk_frozen HP3.out 3; have hf4 := blk_frozen HR3.out 4; have hg4 := blk_frozen HP3.out 4; clear HI2) | (go_at_call 51; (refine (wrong_calls g s b2 (wrongF e_ ea 3 a).1 (wrongF e_ ea 3 a).2 3 a2 w0 _ HI3.out HB3.out).mono ?_); rintro e W4 ⟨rfl, hI, hB, hK⟩; have HR4 : Aside0 (W4.heap[w.heap.size]? = some (.cells #[.int .i64 0, .int .i64 0, .int .i64 0, .int .i64 0, .string ⟨#[]⟩] 51 (0, 0))) := ⟨KeepBut.blk hK HR3.out (Nat.ne_of_gt HS.out.1) (by simp)⟩; have HP4 : Aside0 (W4.heap[W1.heap.size]? = some (.cells #[.int .i64 0, .int .i64 0, .int .i64 0, .int .i64 0, .string ⟨#[]⟩] 51 (0, 0))) := ⟨KeepBut.blk hK HP3.out (Nat.ne_of_gt HS1.out) (by simp)⟩; have HK4 := Aside0.mk (KeepBut.trans HK3.out hK (.inl rfl)); have HI4 := Aside0.mk hI; have HB4 := Aside0.mk hB; clear hI hB hK; (try clear hx0 hx1 hx2 hx3 hx4 hy0 hy1 hy2 hy3 hy4 hf0 hf1 hf2 hf3 hf4 hg0 hg1 hg2 hg3 hg4); have hx0 : W4.cell? ⟨W1.heap.size, 0, none⟩ = some (.int .i64 0) := (blk_cell HP4.out 0).trans rfl; have hx1 : W4.cell? ⟨W1.heap.size, 1, none⟩ = some (.int .i64 0) := (blk_cell HP4.out 1).trans rfl; have hx2 : W4.cell? ⟨W1.heap.size, 2, none⟩ = some (.int .i64 0) := (blk_cell HP4.out 2).trans rfl; have hx3 : W4.cell? ⟨W1.heap.size, 3, none⟩ = some (.int .i64 0) := (blk_cell HP4.out 3).trans rfl; have hx4 : W4.cell? ⟨W1.heap.size, 4, none⟩ = some (.string ⟨#[]⟩) := (blk_cell HP4.out 4).trans rfl; have hy0 : W4.cell? ⟨w.heap.size, 0, none⟩ = some (.int .i64 0) := (blk_cell HR4.out 0).trans rfl; have hy1 : W4.cell? ⟨w.heap.size, 1, none⟩ = some (.int .i64 0) := (blk_cell HR4.out 1).trans rfl; have hy2 : W4.cell? ⟨w.heap.size, 2, none⟩ = some (.int .i64 0) := (blk_cell HR4.out 2).trans rfl; have hy3 : W4.cell? ⟨w.heap.size, 3, none⟩ = some (.int .i64 0) := (blk_cell HR4.out 3).trans rfl; have hy4 : W4.cell? ⟨w.heap.size, 4, none⟩ = some (.string ⟨#[]⟩) := (blk_cell HR4.out 4).trans rfl; have hf0 := blk_frozen HR4.out 0; have hg0 := blk_frozen HP4.out 0; have hf1 := blk_frozen HR4.out 1; have hg1 := blk_frozen HP4.out 1; have hf2 := blk_frozen HR4.out 2; have hg2 := blk_frozen HP4.out 2; have hf3 := blk_frozen HR4.out 3; have hg3 := blk_frozen HP4.out 3; have hf4 := blk_frozen HR4.out 4; have hg4 := blk_frozen HP4.out 4; clear HI3))
  obtain ⟨t1_, t2_, t3_, t4_⟩ := item_tail HI4.out HB4.out HK4.out HR4.out (Nat.le_refl _) HS.out.2 (Nat.ne_of_lt HS.out.1) (.int .i64 0) (.int .i64 0) (.int .i64 0) (.int .i64 0) (.string ⟨#[]⟩)
  refine bodyPost_ret (results_list (rs := [.cell 2 51, .tmp 3]) rfl (by simp) (.cell w.heap.size 51 #[.int .i64 0, .int .i64 0, .int .i64 0, .int .i64 0, .string ⟨#[]⟩] (0, 0) _ rfl t1_ Tryd.underlying51 rfl (by kernel_rfl) (.tmp .nil))) rfl ⟨rfl, t2_, t3_, t4_⟩
set_option maxRecDepth 100000 in
set_option maxHeartbeats 2000000 in
theorem item1 (k : Nat) (g : Nat) (s : ByteArray) (at_ e_ ea : Int) (wd : ByteArray) (a b : Int) (n t1 e1 ea1 : Int) (K N t2 e2 ea2 : Int) (D : ByteArray) (wd2 : ByteArray) (a2 b2 : Int) (w0 w : World) (hI : IsS60 w0 w g s at_ e_ ea) (hB : Below w0.heap.size w0 w) (hG : Names w0)
    (h : wordF k s at_ = some (wd, a, b)) (hne : wd.toList ≠ ([] : List UInt8)) (hk : headF wd = 1) (hnu : numberF k s b e_ ea = some (n, t1, e1, ea1)) (hop : opF k s t1 e1 ea1 = some (K, N, D, t2, e2, ea2)) (hw2 : wordF k s t2 = some (wd2, a2, b2)) (he2 : wd2.toList = ([] : List UInt8)) :
    Calls Tryd.prog 29 #[.pointer (some ⟨g, 0, none⟩)] w fun E w' => E = .returned (.tuple #[.agg #[.int .i64 1, .int .i64 n, .int .i64 K, .int .i64 N, .string D], .bool true]) ∧ IsS60 w0 w' g s b2 e2 ea2 ∧ Below w0.heap.size w0 w' ∧ KeepBut w w' g none := by
  have HW := Aside0.mk h
  have HK := Aside0.mk hk
  have HG1 := Aside0.mk hG
  have HG := Aside0.mk hG.1
  have HGh := Aside0.mk hG.2
  have HW2 := Aside0.mk hw2
  have HS : Aside0 (g < w.heap.size ∧ w0.heap.size ≤ w.heap.size) := ⟨hI.lt, hB.size⟩
  have HI := Aside0.mk hI
  have HB := Aside0.mk hB
  have c1 : (wd.toList == ([] : List UInt8)) = false := beq_eq_false_iff_ne.mpr hne
  have c2 : (wd2.toList == ([] : List UInt8)) = true := beq_iff_eq.mpr he2
  have c3 : (wd2.toList != ([] : List UInt8)) = false := bne_eq_false_iff_eq.mpr he2
  have HNu := Aside0.mk hnu
  have HOp := Aside0.mk hop
  clear hnu hop
  clear h hk hG hI hB hne hw2 he2
  go_enter Tryd.func29, Tryd.ntmps29
  go_wp2_with (first | (go_at_call 49; (refine (word_calls k g s at_ e_ ea wd a b w0 _ (IsS60.alloc HI.out _) (HB.out.alloc HB.out.size _) HW.out).mono ?_); rintro e W1 ⟨rfl, hI1, hB1, hK1⟩; have HR1 := Aside0.mk (keep_new HI.out hK1); have HI1 := Aside0.mk hI1; have HB1 := Aside0.mk hB1; have HS1 := Aside0.mk hI1.lt; have HRP := Aside0.mk (Nat.ne_of_lt (blk_lt HR1.out)); have HK1 := Aside0.mk (KeepBut.trans (keep_alloc (KeepBut.refl w g none) _) hK1 (.inl rfl)); clear hI1 hB1 hK1 HI HB) | (go_at_call 50; (refine (head_names wd w0 _ HB1.out HGh.out).mono ?_); rintro e W2 ⟨rfl, hW⟩; obtain rfl := hW.symm; rw [HK.out]) | (go_at_call 52; (refine (number_calls k g s b e_ ea n t1 e1 ea1 w0 _ (IsS60.alloc HI1.out _) (HB1.out.alloc HB1.out.size _) HNu.out).mono ?_); rintro e W2 ⟨rfl, hI, hB, hK⟩; have HR2 : Aside0 (W2.heap[w.heap.size]? = some (.cells #[.int .i64 0, .int .i64 0, .int .i64 0, .int .i64 0, .string ⟨#[]⟩] 51 (0, 0))) := ⟨KeepBut.blk hK (blk_alloc HR1.out _) (Nat.ne_of_gt HS.out.1) (by simp)⟩; have HP2 : Aside0 (W2.heap[W1.heap.size]? = some (.cells #[.int .i64 1, .int .i64 0, .int .i64 0, .int .i64 0, .string ⟨#[]⟩] 51 (0, 0))) := ⟨KeepBut.blk hK (blk_new W1 #[.int .i64 1, .int .i64 0, .int .i64 0, .int .i64 0, .string ⟨#[]⟩] 51) (Nat.ne_of_gt HS1.out) (by simp)⟩; have HK2 := Aside0.mk (KeepBut.trans (keep_alloc HK1.out _) hK (.inl rfl)); have HI2 := Aside0.mk hI; have HB2 := Aside0.mk hB; clear hI hB hK; (try clear hx0 hx1 hx2 hx3 hx4 hy0 hy1 hy2 hy3 hy4 hf0 hf1 hf2 hf3 hf4 hg0 hg1 hg2 hg3 hg4); have hx0 : W2.cell? ⟨W1.heap.size, 0, none⟩ = some (.int .i64 1) := (blk_cell HP2.out 0).trans rfl; have hx1 : W2.cell? ⟨W1.heap.size, 1, none⟩ = some (.int .i64 0) := (blk_cell HP2.out 1).trans rfl; have hx2 : W2.cell? ⟨W1.heap.size, 2, none⟩ = some (.int .i64 0) := (blk_cell HP2.out 2).trans rfl; have hx3 : W2.cell? ⟨W1.heap.size, 3, none⟩ = some (.int .i64 0) := (blk_cell HP2.out 3).trans rfl; have hx4 : W2.cell? ⟨W1.heap.size, 4, none⟩ = some (.string ⟨#[]⟩) := (blk_cell HP2.out 4).trans rfl; have hy0 : W2.cell? ⟨w.heap.size, 0, none⟩ = some (.int .i64 0) := (blk_cell HR2.out 0).trans rfl; have hy1 : W2.cell? ⟨w.heap.size, 1, none⟩ = some (.int .i64 0) := (blk_cell HR2.out 1).trans rfl; have hy2 : W2.cell? ⟨w.heap.size, 2, none⟩ = some (.int .i64 0) := (blk_cell HR2.out 2).trans rfl; have hy3 : W2.cell? ⟨w.heap.size, 3, none⟩ = some (.int .i64 0) := (blk_cell HR2.out 3).trans rfl; have hy4 : W2.cell? ⟨w.heap.size, 4, none⟩ = some (.string ⟨#[]⟩) := (blk_cell HR2.out 4).trans rfl; have hf0 := blk_frozen HR2.out 0; have hg0 := blk_frozen HP2.out 0; have hf1 := blk_frozen HR2.out 1; have hg1 := blk_frozen HP2.out 1; have hf2 := blk_frozen HR2.out 2; have hg2 := blk_frozen HP2.out 2; have hf3 := blk_frozen HR2.out 3; have hg3 := blk_frozen HP2.out 3; have hf4 := blk_frozen HR2.out 4; have hg4 := blk_frozen HP2.out 4; have hnw := eq_false HRP.out; have hnw2 := eq_false (Ne.symm HRP.out); clear HI1) | (go_at_call 37; (refine (op_calls k g s t1 e1 ea1 K N D t2 e2 ea2 w0 _ (IsS60.far (p := ⟨W1.heap.size, 1, none⟩) HI2.out (Nat.ne_of_lt HS1.out) (.int .i64 n)) (below_set HB2.out HB1.out.size) HG.out HOp.out).mono ?_); rintro e W3 ⟨rfl, hI, hB, hK⟩; have HR3 : Aside0 (W3.heap[w.heap.size]? = some (.cells #[.int .i64 0, .int .i64 0, .int .i64 0, .int .i64 0, .string ⟨#[]⟩] 51 (0, 0))) := ⟨KeepBut.blk hK (blk_far (p := ⟨W1.heap.size, 1, none⟩) HR2.out HRP.out (.int .i64 n)) (Nat.ne_of_gt HS.out.1) (by simp)⟩; have HP3 : Aside0 (W3.heap[W1.heap.size]? = some (.cells #[.int .i64 1, .int .i64 n, .int .i64 0, .int .i64 0, .string ⟨#[]⟩] 51 (0, 0))) := ⟨KeepBut.blk hK (blk_set HP2.out 1 (.int .i64 n)) (Nat.ne_of_gt HS1.out) (by simp)⟩; have HK3 := Aside0.mk (KeepBut.trans (keep_new_set HK2.out HK1.out.1 1 (.int .i64 n)) hK (.inl rfl)); have HI3 := Aside0.mk hI; have HB3 := Aside0.mk hB; clear hI hB hK; (try clear hx0 hx1 hx2 hx3 hx4 hy0 hy1 hy2 hy3 hy4 hf0 hf1 hf2 hf3 hf4 hg0 hg1 hg2 hg3 hg4); have hx0 : W3.cell? ⟨W1.heap.size, 0, none⟩ = some (.int .i64 1) := (blk_cell HP3.out 0).trans rfl; have hx1 : W3.cell? ⟨W1.heap.size, 1, none⟩ = some (.int .i64 n) := (blk_cell HP3.out 1).trans rfl; have hx2 : W3.cell? ⟨W1.heap.size, 2, none⟩ = some (.int .i64 0) := (blk_cell HP3.out 2).trans rfl; have hx3 : W3.cell? ⟨W1.heap.size, 3, none⟩ = some (.int .i64 0) := (blk_cell HP3.out 3).trans rfl; have hx4 : W3.cell? ⟨W1.heap.size, 4, none⟩ = some (.string ⟨#[]⟩) := (blk_cell HP3.out 4).trans rfl; have hy0 : W3.cell? ⟨w.heap.size, 0, none⟩ = some (.int .i64 0) := (blk_cell HR3.out 0).trans rfl; have hy1 : W3.cell? ⟨w.heap.size, 1, none⟩ = some (.int .i64 0) := (blk_cell HR3.out 1).trans rfl; have hy2 : W3.cell? ⟨w.heap.size, 2, none⟩ = some (.int .i64 0) := (blk_cell HR3.out 2).trans rfl; have hy3 : W3.cell? ⟨w.heap.size, 3, none⟩ = some (.int .i64 0) := (blk_cell HR3.out 3).trans rfl; have hy4 : W3.cell? ⟨w.heap.size, 4, none⟩ = some (.string ⟨#[]⟩) := (blk_cell HR3.out 4).trans rfl; have hf0 := blk_frozen HR3.out 0; have hg0 := blk_frozen HP3.out 0; have hf1 := blk_frozen HR3.out 1; have hg1 := blk_frozen HP3.out 1; have hf2 := blk_frozen HR3.out 2; have hg2 := blk_frozen HP3.out 2; have hf3 := blk_frozen HR3.out 3; have hg3 := blk_frozen HP3.out 3; have hf4 := blk_frozen HR3.out 4; have hg4 := blk_frozen HP3.out 4; clear HI2) | (go_at_call 49; (refine (word_calls k g s t2 e2 ea2 wd2 a2 b2 w0 _ (IsS60.far (p := ⟨W1.heap.size, 4, none⟩) (IsS60.far (p := ⟨W1.heap.size, 3, none⟩) (IsS60.far (p := ⟨W1.heap.size, 2, none⟩) HI3.out (Nat.ne_of_lt HS1.out) (.int .i64 K)) (Nat.ne_of_lt HS1.out) (.int .i64 N)) (Nat.ne_of_lt HS1.out) (.string D)) (below_set (below_set (below_set HB3.out HB1.out.size) HB1.out.size) HB1.out.size) HW2.out).mono ?_); rintro e W4 ⟨rfl, hI, hB, hK⟩; have HR4 : Aside0 (W4.heap[w.heap.size]? = some (.cells #[.int .i64 0, .int .i64 0, .int .i64 0, .int .i64 0, .string ⟨#[]⟩] 51 (0, 0))) := ⟨KeepBut.blk hK (blk_far (p := ⟨W1.heap.size, 4, none⟩) (blk_far (p := ⟨W1.heap.size, 3, none⟩) (blk_far (p := ⟨W1.heap.size, 2, none⟩) HR3.out HRP.out (.int .i64 K)) HRP.out (.int .i64 N)) HRP.out (.string D)) (Nat.ne_of_gt HS.out.1) (by simp)⟩; have HP4 : Aside0 (W4.heap[W1.heap.size]? = some (.cells #[.int .i64 1, .int .i64 n, .int .i64 K, .int .i64 N, .string D] 51 (0, 0))) := ⟨KeepBut.blk hK (blk_set (blk_set (blk_set HP3.out 2 (.int .i64 K)) 3 (.int .i64 N)) 4 (.string D)) (Nat.ne_of_gt HS1.out) (by simp)⟩; have HK4 := Aside0.mk (KeepBut.trans (keep_new_set (keep_new_set (keep_new_set HK3.out HK1.out.1 2 (.int .i64 K)) HK1.out.1 3 (.int .i64 N)) HK1.out.1 4 (.string D)) hK (.inl rfl)); have HI4 := Aside0.mk hI; have HB4 := Aside0.mk hB; clear hI hB hK; (try clear hx0 hx1 hx2 hx3 hx4 hy0 hy1 hy2 hy3 hy4 hf0 hf1 hf2 hf3 hf4 hg0 hg1 hg2 hg3 hg4); have hx0 : W4.cell? ⟨W1.heap.size, 0, none⟩ = some (.int .i64 1) := (blk_cell HP4.out 0).trans rfl; have hx1 : W4.cell? ⟨W1.heap.size, 1, none⟩ = some (.int .i64 n) := (blk_cell HP4.out 1).trans rfl; have hx2 : W4.cell? ⟨W1.heap.size, 2, none⟩ = some (.int .i64 K) := (blk_cell HP4.out 2).trans rfl; have hx3 : W4.cell? ⟨W1.heap.size, 3, none⟩ = some (.int .i64 N) := (blk_cell HP4.out 3).trans rfl; have hx4 : W4.cell? ⟨W1.heap.size, 4, none⟩ = some (.string D) := (blk_cell HP4.out 4).trans rfl; have hy0 : W4.cell? ⟨w.heap.size, 0, none⟩ = some (.int .i64 0) := (blk_cell HR4.out 0).trans rfl; have hy1 : W4.cell? ⟨w.heap.size, 1, none⟩ = some (.int .i64 0) := (blk_cell HR4.out 1).trans rfl; have hy2 : W4.cell? ⟨w.heap.size, 2, none⟩ = some (.int .i64 0) := (blk_cell HR4.out 2).trans rfl; have hy3 : W4.cell? ⟨w.heap.size, 3, none⟩ = some (.int .i64 0) := (blk_cell HR4.out 3).trans rfl; have hy4 : W4.cell? ⟨w.heap.size, 4, none⟩ = some (.string ⟨#[]⟩) := (blk_cell HR4.out 4).trans rfl; have hf0 := blk_frozen HR4.out 0; have hg0 := blk_frozen HP4.out 0; have hf1 := blk_frozen HR4.out 1; have hg1 := blk_frozen HP4.out 1; have hf2 := blk_frozen HR4.out 2; have hg2 := blk_frozen HP4.out 2; have hf3 := blk_frozen HR4.out 3; have hg3 := blk_frozen HP4.out 3; have hf4 := blk_frozen HR4.out 4; have hg4 := blk_frozen HP4.out 4; clear HI3))
  obtain ⟨t1_, t2_, t3_, t4_⟩ := item_tail HI4.out HB4.out HK4.out HR4.out (Nat.le_refl _) HS.out.2 (Nat.ne_of_lt HS.out.1) (.int .i64 1) (.int .i64 n) (.int .i64 K) (.int .i64 N) (.string D)
  refine bodyPost_ret (results_list (rs := [.cell 2 51, .tmp 3]) rfl (by simp) (.cell w.heap.size 51 #[.int .i64 1, .int .i64 n, .int .i64 K, .int .i64 N, .string D] (0, 0) _ rfl t1_ Tryd.underlying51 rfl (by kernel_rfl) (.tmp .nil))) rfl ⟨rfl, t2_, t3_, t4_⟩
set_option maxRecDepth 100000 in
set_option maxHeartbeats 2000000 in
theorem item1w (k : Nat) (g : Nat) (s : ByteArray) (at_ e_ ea : Int) (wd : ByteArray) (a b : Int) (n t1 e1 ea1 : Int) (K N t2 e2 ea2 : Int) (D : ByteArray) (wd2 : ByteArray) (a2 b2 : Int) (w0 w : World) (hI : IsS60 w0 w g s at_ e_ ea) (hB : Below w0.heap.size w0 w) (hG : Names w0)
    (h : wordF k s at_ = some (wd, a, b)) (hne : wd.toList ≠ ([] : List UInt8)) (hk : headF wd = 1) (hnu : numberF k s b e_ ea = some (n, t1, e1, ea1)) (hop : opF k s t1 e1 ea1 = some (K, N, D, t2, e2, ea2)) (hw2 : wordF k s t2 = some (wd2, a2, b2)) (he2 : wd2.toList ≠ ([] : List UInt8)) :
    Calls Tryd.prog 29 #[.pointer (some ⟨g, 0, none⟩)] w fun E w' => E = .returned (.tuple #[.agg #[.int .i64 1, .int .i64 n, .int .i64 K, .int .i64 N, .string D], .bool true]) ∧ IsS60 w0 w' g s b2 (wrongF e2 ea2 3 a2).1 (wrongF e2 ea2 3 a2).2 ∧ Below w0.heap.size w0 w' ∧ KeepBut w w' g none := by
  have HW := Aside0.mk h
  have HK := Aside0.mk hk
  have HG1 := Aside0.mk hG
  have HG := Aside0.mk hG.1
  have HGh := Aside0.mk hG.2
  have HW2 := Aside0.mk hw2
  have HS : Aside0 (g < w.heap.size ∧ w0.heap.size ≤ w.heap.size) := ⟨hI.lt, hB.size⟩
  have HI := Aside0.mk hI
  have HB := Aside0.mk hB
  have c1 : (wd.toList == ([] : List UInt8)) = false := beq_eq_false_iff_ne.mpr hne
  have c2 : (wd2.toList == ([] : List UInt8)) = false := beq_eq_false_iff_ne.mpr he2
  have c3 : (wd2.toList != ([] : List UInt8)) = true := bne_iff_ne.mpr he2
  have HNu := Aside0.mk hnu
  have HOp := Aside0.mk hop
  clear hnu hop
  clear h hk hG hI hB hne hw2 he2
  go_enter Tryd.func29, Tryd.ntmps29
  go_wp2_with (first | (go_at_call 49; (refine (word_calls k g s at_ e_ ea wd a b w0 _ (IsS60.alloc HI.out _) (HB.out.alloc HB.out.size _) HW.out).mono ?_); rintro e W1 ⟨rfl, hI1, hB1, hK1⟩; have HR1 := Aside0.mk (keep_new HI.out hK1); have HI1 := Aside0.mk hI1; have HB1 := Aside0.mk hB1; have HS1 := Aside0.mk hI1.lt; have HRP := Aside0.mk (Nat.ne_of_lt (blk_lt HR1.out)); have HK1 := Aside0.mk (KeepBut.trans (keep_alloc (KeepBut.refl w g none) _) hK1 (.inl rfl)); clear hI1 hB1 hK1 HI HB) | (go_at_call 50; (refine (head_names wd w0 _ HB1.out HGh.out).mono ?_); rintro e W2 ⟨rfl, hW⟩; obtain rfl := hW.symm; rw [HK.out]) | (go_at_call 52; (refine (number_calls k g s b e_ ea n t1 e1 ea1 w0 _ (IsS60.alloc HI1.out _) (HB1.out.alloc HB1.out.size _) HNu.out).mono ?_); rintro e W2 ⟨rfl, hI, hB, hK⟩; have HR2 : Aside0 (W2.heap[w.heap.size]? = some (.cells #[.int .i64 0, .int .i64 0, .int .i64 0, .int .i64 0, .string ⟨#[]⟩] 51 (0, 0))) := ⟨KeepBut.blk hK (blk_alloc HR1.out _) (Nat.ne_of_gt HS.out.1) (by simp)⟩; have HP2 : Aside0 (W2.heap[W1.heap.size]? = some (.cells #[.int .i64 1, .int .i64 0, .int .i64 0, .int .i64 0, .string ⟨#[]⟩] 51 (0, 0))) := ⟨KeepBut.blk hK (blk_new W1 #[.int .i64 1, .int .i64 0, .int .i64 0, .int .i64 0, .string ⟨#[]⟩] 51) (Nat.ne_of_gt HS1.out) (by simp)⟩; have HK2 := Aside0.mk (KeepBut.trans (keep_alloc HK1.out _) hK (.inl rfl)); have HI2 := Aside0.mk hI; have HB2 := Aside0.mk hB; clear hI hB hK; (try clear hx0 hx1 hx2 hx3 hx4 hy0 hy1 hy2 hy3 hy4 hf0 hf1 hf2 hf3 hf4 hg0 hg1 hg2 hg3 hg4); have hx0 : W2.cell? ⟨W1.heap.size, 0, none⟩ = some (.int .i64 1) := (blk_cell HP2.out 0).trans rfl; have hx1 : W2.cell? ⟨W1.heap.size, 1, none⟩ = some (.int .i64 0) := (blk_cell HP2.out 1).trans rfl; have hx2 : W2.cell? ⟨W1.heap.size, 2, none⟩ = some (.int .i64 0) := (blk_cell HP2.out 2).trans rfl; have hx3 : W2.cell? ⟨W1.heap.size, 3, none⟩ = some (.int .i64 0) := (blk_cell HP2.out 3).trans rfl; have hx4 : W2.cell? ⟨W1.heap.size, 4, none⟩ = some (.string ⟨#[]⟩) := (blk_cell HP2.out 4).trans rfl; have hy0 : W2.cell? ⟨w.heap.size, 0, none⟩ = some (.int .i64 0) := (blk_cell HR2.out 0).trans rfl; have hy1 : W2.cell? ⟨w.heap.size, 1, none⟩ = some (.int .i64 0) := (blk_cell HR2.out 1).trans rfl; have hy2 : W2.cell? ⟨w.heap.size, 2, none⟩ = some (.int .i64 0) := (blk_cell HR2.out 2).trans rfl; have hy3 : W2.cell? ⟨w.heap.size, 3, none⟩ = some (.int .i64 0) := (blk_cell HR2.out 3).trans rfl; have hy4 : W2.cell? ⟨w.heap.size, 4, none⟩ = some (.string ⟨#[]⟩) := (blk_cell HR2.out 4).trans rfl; have hf0 := blk_frozen HR2.out 0; have hg0 := blk_frozen HP2.out 0; have hf1 := blk_frozen HR2.out 1; have hg1 := blk_frozen HP2.out 1; have hf2 := blk_frozen HR2.out 2; have hg2 := blk_frozen HP2.out 2; have hf3 := blk_frozen HR2.out 3; have hg3 := blk_frozen HP2.out 3; have hf4 := blk_frozen HR2.out 4; have hg4 := blk_frozen HP2.out 4; have hnw := eq_false HRP.out; have hnw2 := eq_false (Ne.symm HRP.out); clear HI1) | (go_at_call 37; (refine (op_calls k g s t1 e1 ea1 K N D t2 e2 ea2 w0 _ (IsS60.far (p := ⟨W1.heap.size, 1, none⟩) HI2.out (Nat.ne_of_lt HS1.out) (.int .i64 n)) (below_set HB2.out HB1.out.size) HG.out HOp.out).mono ?_); rintro e W3 ⟨rfl, hI, hB, hK⟩; have HR3 : Aside0 (W3.heap[w.heap.size]? = some (.cells #[.int .i64 0, .int .i64 0, .int .i64 0, .int .i64 0, .string ⟨#[]⟩] 51 (0, 0))) := ⟨KeepBut.blk hK (blk_far (p := ⟨W1.heap.size, 1, none⟩) HR2.out HRP.out (.int .i64 n)) (Nat.ne_of_gt HS.out.1) (by simp)⟩; have HP3 : Aside0 (W3.heap[W1.heap.size]? = some (.cells #[.int .i64 1, .int .i64 n, .int .i64 0, .int .i64 0, .string ⟨#[]⟩] 51 (0, 0))) := ⟨KeepBut.blk hK (blk_set HP2.out 1 (.int .i64 n)) (Nat.ne_of_gt HS1.out) (by simp)⟩; have HK3 := Aside0.mk (KeepBut.trans (keep_new_set HK2.out HK1.out.1 1 (.int .i64 n)) hK (.inl rfl)); have HI3 := Aside0.mk hI; have HB3 := Aside0.mk hB; clear hI hB hK; (try clear hx0 hx1 hx2 hx3 hx4 hy0 hy1 hy2 hy3 hy4 hf0 hf1 hf2 hf3 hf4 hg0 hg1 hg2 hg3 hg4); have hx0 : W3.cell? ⟨W1.heap.size, 0, none⟩ = some (.int .i64 1) := (blk_cell HP3.out 0).trans rfl; have hx1 : W3.cell? ⟨W1.heap.size, 1, none⟩ = some (.int .i64 n) := (blk_cell HP3.out 1).trans rfl; have hx2 : W3.cell? ⟨W1.heap.size, 2, none⟩ = some (.int .i64 0) := (blk_cell HP3.out 2).trans rfl; have hx3 : W3.cell? ⟨W1.heap.size, 3, none⟩ = some (.int .i64 0) := (blk_cell HP3.out 3).trans rfl; have hx4 : W3.cell? ⟨W1.heap.size, 4, none⟩ = some (.string ⟨#[]⟩) := (blk_cell HP3.out 4).trans rfl; have hy0 : W3.cell? ⟨w.heap.size, 0, none⟩ = some (.int .i64 0) := (blk_cell HR3.out 0).trans rfl; have hy1 : W3.cell? ⟨w.heap.size, 1, none⟩ = some (.int .i64 0) := (blk_cell HR3.out 1).trans rfl; have hy2 : W3.cell? ⟨w.heap.size, 2, none⟩ = some (.int .i64 0) := (blk_cell HR3.out 2).trans rfl; have hy3 : W3.cell? ⟨w.heap.size, 3, none⟩ = some (.int .i64 0) := (blk_cell HR3.out 3).trans rfl; have hy4 : W3.cell? ⟨w.heap.size, 4, none⟩ = some (.string ⟨#[]⟩) := (blk_cell HR3.out 4).trans rfl; have hf0 := blk_frozen HR3.out 0; have hg0 := blk_frozen HP3.out 0; have hf1 := blk_frozen HR3.out 1; have hg1 := blk_frozen HP3.out 1; have hf2 := blk_frozen HR3.out 2; have hg2 := blk_frozen HP3.out 2; have hf3 := blk_frozen HR3.out 3; have hg3 := blk_frozen HP3.out 3; have hf4 := blk_frozen HR3.out 4; have hg4 := blk_frozen HP3.out 4; clear HI2) | (go_at_call 49; (refine (word_calls k g s t2 e2 ea2 wd2 a2 b2 w0 _ (IsS60.far (p := ⟨W1.heap.size, 4, none⟩) (IsS60.far (p := ⟨W1.heap.size, 3, none⟩) (IsS60.far (p := ⟨W1.heap.size, 2, none⟩) HI3.out (Nat.ne_of_lt HS1.out) (.int .i64 K)) (Nat.ne_of_lt HS1.out) (.int .i64 N)) (Nat.ne_of_lt HS1.out) (.string D)) (below_set (below_set (below_set HB3.out HB1.out.size) HB1.out.size) HB1.out.size) HW2.out).mono ?_); rintro e W4 ⟨rfl, hI, hB, hK⟩; have HR4 : Aside0 (W4.heap[w.heap.size]? = some (.cells #[.int .i64 0, .int .i64 0, .int .i64 0, .int .i64 0, .string ⟨#[]⟩] 51 (0, 0))) := ⟨KeepBut.blk hK (blk_far (p := ⟨W1.heap.size, 4, none⟩) (blk_far (p := ⟨W1.heap.size, 3, none⟩) (blk_far (p := ⟨W1.heap.size, 2, none⟩) HR3.out HRP.out (.int .i64 K)) HRP.out (.int .i64 N)) HRP.out (.string D)) (Nat.ne_of_gt HS.out.1) (by simp)⟩; have HP4 : Aside0 (W4.heap[W1.heap.size]? = some (.cells #[.int .i64 1, .int .i64 n, .int .i64 K, .int .i64 N, .string D] 51 (0, 0))) := ⟨KeepBut.blk hK (blk_set (blk_set (blk_set HP3.out 2 (.int .i64 K)) 3 (.int .i64 N)) 4 (.string D)) (Nat.ne_of_gt HS1.out) (by simp)⟩; have HK4 := Aside0.mk (KeepBut.trans (keep_new_set (keep_new_set (keep_new_set HK3.out HK1.out.1 2 (.int .i64 K)) HK1.out.1 3 (.int .i64 N)) HK1.out.1 4 (.string D)) hK (.inl rfl)); have HI4 := Aside0.mk hI; have HB4 := Aside0.mk hB; clear hI hB hK; (try clear hx0 hx1 hx2 hx3 hx4 hy0 hy1 hy2 hy3 hy4 hf0 hf1 hf2 hf3 hf4 hg0 hg1 hg2 hg3 hg4); have hx0 : W4.cell? ⟨W1.heap.size, 0, none⟩ = some (.int .i64 1) := (blk_cell HP4.out 0).trans rfl; have hx1 : W4.cell? ⟨W1.heap.size, 1, none⟩ = some (.int .i64 n) := (blk_cell HP4.out 1).trans rfl; have hx2 : W4.cell? ⟨W1.heap.size, 2, none⟩ = some (.int .i64 K) := (blk_cell HP4.out 2).trans rfl; have hx3 : W4.cell? ⟨W1.heap.size, 3, none⟩ = some (.int .i64 N) := (blk_cell HP4.out 3).trans rfl; have hx4 : W4.cell? ⟨W1.heap.size, 4, none⟩ = some (.string D) := (blk_cell HP4.out 4).trans rfl; have hy0 : W4.cell? ⟨w.heap.size, 0, none⟩ = some (.int .i64 0) := (blk_cell HR4.out 0).trans rfl; have hy1 : W4.cell? ⟨w.heap.size, 1, none⟩ = some (.int .i64 0) := (blk_cell HR4.out 1).trans rfl; have hy2 : W4.cell? ⟨w.heap.size, 2, none⟩ = some (.int .i64 0) := (blk_cell HR4.out 2).trans rfl; have hy3 : W4.cell? ⟨w.heap.size, 3, none⟩ = some (.int .i64 0) := (blk_cell HR4.out 3).trans rfl; have hy4 : W4.cell? ⟨w.heap.size, 4, none⟩ = some (.string ⟨#[]⟩) := (blk_cell HR4.out 4).trans rfl; have hf0 := blk_frozen HR4.out 0; have hg0 := blk_frozen HP4.out 0; have hf1 := blk_frozen HR4.out 1; have hg1 := blk_frozen HP4.out 1; have hf2 := blk_frozen HR4.out 2; have hg2 := blk_frozen HP4.out 2; have hf3 := blk_frozen HR4.out 3; have hg3 := blk_frozen HP4.out 3; have hf4 := blk_frozen HR4.out 4; have hg4 := blk_frozen HP4.out 4; clear HI3) | (go_at_call 51; (refine (wrong_calls g s b2 e2 ea2 3 a2 w0 _ HI4.out HB4.out).mono ?_); rintro e W5 ⟨rfl, hI, hB, hK⟩; have HR5 : Aside0 (W5.heap[w.heap.size]? = some (.cells #[.int .i64 0, .int .i64 0, .int .i64 0, .int .i64 0, .string ⟨#[]⟩] 51 (0, 0))) := ⟨KeepBut.blk hK HR4.out (Nat.ne_of_gt HS.out.1) (by simp)⟩; have HP5 : Aside0 (W5.heap[W1.heap.size]? = some (.cells #[.int .i64 1, .int .i64 n, .int .i64 K, .int .i64 N, .string D] 51 (0, 0))) := ⟨KeepBut.blk hK HP4.out (Nat.ne_of_gt HS1.out) (by simp)⟩; have HK5 := Aside0.mk (KeepBut.trans HK4.out hK (.inl rfl)); have HI5 := Aside0.mk hI; have HB5 := Aside0.mk hB; clear hI hB hK; (try clear hx0 hx1 hx2 hx3 hx4 hy0 hy1 hy2 hy3 hy4 hf0 hf1 hf2 hf3 hf4 hg0 hg1 hg2 hg3 hg4); have hx0 : W5.cell? ⟨W1.heap.size, 0, none⟩ = some (.int .i64 1) := (blk_cell HP5.out 0).trans rfl; have hx1 : W5.cell? ⟨W1.heap.size, 1, none⟩ = some (.int .i64 n) := (blk_cell HP5.out 1).trans rfl; have hx2 : W5.cell? ⟨W1.heap.size, 2, none⟩ = some (.int .i64 K) := (blk_cell HP5.out 2).trans rfl; have hx3 : W5.cell? ⟨W1.heap.size, 3, none⟩ = some (.int .i64 N) := (blk_cell HP5.out 3).trans rfl; have hx4 : W5.cell? ⟨W1.heap.size, 4, none⟩ = some (.string D) := (blk_cell HP5.out 4).trans rfl; have hy0 : W5.cell? ⟨w.heap.size, 0, none⟩ = some (.int .i64 0) := (blk_cell HR5.out 0).trans rfl; have hy1 : W5.cell? ⟨w.heap.size, 1, none⟩ = some (.int .i64 0) := (blk_cell HR5.out 1).trans rfl; have hy2 : W5.cell? ⟨w.heap.size, 2, none⟩ = some (.int .i64 0) := (blk_cell HR5.out 2).trans rfl; have hy3 : W5.cell? ⟨w.heap.size, 3, none⟩ = some (.int .i64 0) := (blk_cell HR5.out 3).trans rfl; have hy4 : W5.cell? ⟨w.heap.size, 4, none⟩ = some (.string ⟨#[]⟩) := (blk_cell HR5.out 4).trans rfl; have hf0 := blk_frozen HR5.out 0; have hg0 := blk_frozen HP5.out 0; have hf1 := blk_frozen HR5.out 1; have hg1 := blk_frozen HP5.out 1; have hf2 := blk_frozen HR5.out 2; have hg2 := blk_frozen HP5.out 2; have hf3 := blk_frozen HR5.out 3; have hg3 := blk_frozen HP5.out 3; have hf4 := blk_frozen HR5.out 4; have hg4 := blk_frozen HP5.out 4; clear HI4))
  obtain ⟨t1_, t2_, t3_, t4_⟩ := item_tail HI5.out HB5.out HK5.out HR5.out (Nat.le_refl _) HS.out.2 (Nat.ne_of_lt HS.out.1) (.int .i64 1) (.int .i64 n) (.int .i64 K) (.int .i64 N) (.string D)
  refine bodyPost_ret (results_list (rs := [.cell 2 51, .tmp 3]) rfl (by simp) (.cell w.heap.size 51 #[.int .i64 1, .int .i64 n, .int .i64 K, .int .i64 N, .string D] (0, 0) _ rfl t1_ Tryd.underlying51 rfl (by kernel_rfl) (.tmp .nil))) rfl ⟨rfl, t2_, t3_, t4_⟩
set_option maxRecDepth 100000 in
set_option maxHeartbeats 2000000 in
theorem item2 (k : Nat) (g : Nat) (s : ByteArray) (at_ e_ ea : Int) (wd : ByteArray) (a b : Int) (n t1 e1 ea1 : Int) (wd2 : ByteArray) (a2 b2 : Int) (w0 w : World) (hI : IsS60 w0 w g s at_ e_ ea) (hB : Below w0.heap.size w0 w) (hG : Names w0)
    (h : wordF k s at_ = some (wd, a, b)) (hne : wd.toList ≠ ([] : List UInt8)) (hk : headF wd = 2) (hnu : numberF k s b e_ ea = some (n, t1, e1, ea1)) (hw2 : wordF k s t1 = some (wd2, a2, b2)) (he2 : wd2.toList = ([] : List UInt8)) :
    Calls Tryd.prog 29 #[.pointer (some ⟨g, 0, none⟩)] w fun E w' => E = .returned (.tuple #[.agg #[.int .i64 2, .int .i64 n, .int .i64 0, .int .i64 0, .string ⟨#[]⟩], .bool true]) ∧ IsS60 w0 w' g s b2 e1 ea1 ∧ Below w0.heap.size w0 w' ∧ KeepBut w w' g none := by
  have HW := Aside0.mk h
  have HK := Aside0.mk hk
  have HG1 := Aside0.mk hG
  have HG := Aside0.mk hG.1
  have HGh := Aside0.mk hG.2
  have HW2 := Aside0.mk hw2
  have HS : Aside0 (g < w.heap.size ∧ w0.heap.size ≤ w.heap.size) := ⟨hI.lt, hB.size⟩
  have HI := Aside0.mk hI
  have HB := Aside0.mk hB
  have c1 : (wd.toList == ([] : List UInt8)) = false := beq_eq_false_iff_ne.mpr hne
  have c2 : (wd2.toList == ([] : List UInt8)) = true := beq_iff_eq.mpr he2
  have c3 : (wd2.toList != ([] : List UInt8)) = false := bne_eq_false_iff_eq.mpr he2
  have HNu := Aside0.mk hnu
  clear hnu
  clear h hk hG hI hB hne hw2 he2
  go_enter Tryd.func29, Tryd.ntmps29
  go_wp2_with (first | (go_at_call 49; (refine (word_calls k g s at_ e_ ea wd a b w0 _ (IsS60.alloc HI.out _) (HB.out.alloc HB.out.size _) HW.out).mono ?_); rintro e W1 ⟨rfl, hI1, hB1, hK1⟩; have HR1 := Aside0.mk (keep_new HI.out hK1); have HI1 := Aside0.mk hI1; have HB1 := Aside0.mk hB1; have HS1 := Aside0.mk hI1.lt; have HRP := Aside0.mk (Nat.ne_of_lt (blk_lt HR1.out)); have HK1 := Aside0.mk (KeepBut.trans (keep_alloc (KeepBut.refl w g none) _) hK1 (.inl rfl)); clear hI1 hB1 hK1 HI HB) | (go_at_call 50; (refine (head_names wd w0 _ HB1.out HGh.out).mono ?_); rintro e W2 ⟨rfl, hW⟩; obtain rfl := hW.symm; rw [HK.out]) | (go_at_call 52; (refine (number_calls k g s b e_ ea n t1 e1 ea1 w0 _ (IsS60.alloc HI1.out _) (HB1.out.alloc HB1.out.size _) HNu.out).mono ?_); rintro e W2 ⟨rfl, hI, hB, hK⟩; have HR2 : Aside0 (W2.heap[w.heap.size]? = some (.cells #[.int .i64 0, .int .i64 0, .int .i64 0, .int .i64 0, .string ⟨#[]⟩] 51 (0, 0))) := ⟨KeepBut.blk hK (blk_alloc HR1.out _) (Nat.ne_of_gt HS.out.1) (by simp)⟩; have HP2 : Aside0 (W2.heap[W1.heap.size]? = some (.cells #[.int .i64 2, .int .i64 0, .int .i64 0, .int .i64 0, .string ⟨#[]⟩] 51 (0, 0))) := ⟨KeepBut.blk hK (blk_new W1 #[.int .i64 2, .int .i64 0, .int .i64 0, .int .i64 0, .string ⟨#[]⟩] 51) (Nat.ne_of_gt HS1.out) (by simp)⟩; have HK2 := Aside0.mk (KeepBut.trans (keep_alloc HK1.out _) hK (.inl rfl)); have HI2 := Aside0.mk hI; have HB2 := Aside0.mk hB; clear hI hB hK; (try clear hx0 hx1 hx2 hx3 hx4 hy0 hy1 hy2 hy3 hy4 hf0 hf1 hf2 hf3 hf4 hg0 hg1 hg2 hg3 hg4); have hx0 : W2.cell? ⟨W1.heap.size, 0, none⟩ = some (.int .i64 2) := (blk_cell HP2.out 0).trans rfl; have hx1 : W2.cell? ⟨W1.heap.size, 1, none⟩ = some (.int .i64 0) := (blk_cell HP2.out 1).trans rfl; have hx2 : W2.cell? ⟨W1.heap.size, 2, none⟩ = some (.int .i64 0) := (blk_cell HP2.out 2).trans rfl; have hx3 : W2.cell? ⟨W1.heap.size, 3, none⟩ = some (.int .i64 0) := (blk_cell HP2.out 3).trans rfl; have hx4 : W2.cell? ⟨W1.heap.size, 4, none⟩ = some (.string ⟨#[]⟩) := (blk_cell HP2.out 4).trans rfl; have hy0 : W2.cell? ⟨w.heap.size, 0, none⟩ = some (.int .i64 0) := (blk_cell HR2.out 0).trans rfl; have hy1 : W2.cell? ⟨w.heap.size, 1, none⟩ = some (.int .i64 0) := (blk_cell HR2.out 1).trans rfl; have hy2 : W2.cell? ⟨w.heap.size, 2, none⟩ = some (.int .i64 0) := (blk_cell HR2.out 2).trans rfl; have hy3 : W2.cell? ⟨w.heap.size, 3, none⟩ = some (.int .i64 0) := (blk_cell HR2.out 3).trans rfl; have hy4 : W2.cell? ⟨w.heap.size, 4, none⟩ = some (.string ⟨#[]⟩) := (blk_cell HR2.out 4).trans rfl; have hf0 := blk_frozen HR2.out 0; have hg0 := blk_frozen HP2.out 0; have hf1 := blk_frozen HR2.out 1; have hg1 := blk_frozen HP2.out 1; have hf2 := blk_frozen HR2.out 2; have hg2 := blk_frozen HP2.out 2; have hf3 := blk_frozen HR2.out 3; have hg3 := blk_frozen HP2.out 3; have hf4 := blk_frozen HR2.out 4; have hg4 := blk_frozen HP2.out 4; have hnw := eq_false HRP.out; have hnw2 := eq_false (Ne.symm HRP.out); clear HI1) | (go_at_call 49; (refine (word_calls k g s t1 e1 ea1 wd2 a2 b2 w0 _ (IsS60.far (p := ⟨W1.heap.size, 1, none⟩) HI2.out (Nat.ne_of_lt HS1.out) (.int .i64 n)) (below_set HB2.out HB1.out.size) HW2.out).mono ?_); rintro e W3 ⟨rfl, hI, hB, hK⟩; have HR3 : Aside0 (W3.heap[w.heap.size]? = some (.cells #[.int .i64 0, .int .i64 0, .int .i64 0, .int .i64 0, .string ⟨#[]⟩] 51 (0, 0))) := ⟨KeepBut.blk hK (blk_far (p := ⟨W1.heap.size, 1, none⟩) HR2.out HRP.out (.int .i64 n)) (Nat.ne_of_gt HS.out.1) (by simp)⟩; have HP3 : Aside0 (W3.heap[W1.heap.size]? = some (.cells #[.int .i64 2, .int .i64 n, .int .i64 0, .int .i64 0, .string ⟨#[]⟩] 51 (0, 0))) := ⟨KeepBut.blk hK (blk_set HP2.out 1 (.int .i64 n)) (Nat.ne_of_gt HS1.out) (by simp)⟩; have HK3 := Aside0.mk (KeepBut.trans (keep_new_set HK2.out HK1.out.1 1 (.int .i64 n)) hK (.inl rfl)); have HI3 := Aside0.mk hI; have HB3 := Aside0.mk hB; clear hI hB hK; (try clear hx0 hx1 hx2 hx3 hx4 hy0 hy1 hy2 hy3 hy4 hf0 hf1 hf2 hf3 hf4 hg0 hg1 hg2 hg3 hg4); have hx0 : W3.cell? ⟨W1.heap.size, 0, none⟩ = some (.int .i64 2) := (blk_cell HP3.out 0).trans rfl; have hx1 : W3.cell? ⟨W1.heap.size, 1, none⟩ = some (.int .i64 n) := (blk_cell HP3.out 1).trans rfl; have hx2 : W3.cell? ⟨W1.heap.size, 2, none⟩ = some (.int .i64 0) := (blk_cell HP3.out 2).trans rfl; have hx3 : W3.cell? ⟨W1.heap.size, 3, none⟩ = some (.int .i64 0) := (blk_cell HP3.out 3).trans rfl; have hx4 : W3.cell? ⟨W1.heap.size, 4, none⟩ = some (.string ⟨#[]⟩) := (blk_cell HP3.out 4).trans rfl; have hy0 : W3.cell? ⟨w.heap.size, 0, none⟩ = some (.int .i64 0) := (blk_cell HR3.out 0).trans rfl; have hy1 : W3.cell? ⟨w.heap.size, 1, none⟩ = some (.int .i64 0) := (blk_cell HR3.out 1).trans rfl; have hy2 : W3.cell? ⟨w.heap.size, 2, none⟩ = some (.int .i64 0) := (blk_cell HR3.out 2).trans rfl; have hy3 : W3.cell? ⟨w.heap.size, 3, none⟩ = some (.int .i64 0) := (blk_cell HR3.out 3).trans rfl; have hy4 : W3.cell? ⟨w.heap.size, 4, none⟩ = some (.string ⟨#[]⟩) := (blk_cell HR3.out 4).trans rfl; have hf0 := blk_frozen HR3.out 0; have hg0 := blk_frozen HP3.out 0; have hf1 := blk_frozen HR3.out 1; have hg1 := blk_frozen HP3.out 1; have hf2 := blk_frozen HR3.out 2; have hg2 := blk_frozen HP3.out 2; have hf3 := blk_frozen HR3.out 3; have hg3 := blk_frozen HP3.out 3; have hf4 := blk_frozen HR3.out 4; have hg4 := blk_frozen HP3.out 4; clear HI2))
  obtain ⟨t1_, t2_, t3_, t4_⟩ := item_tail HI3.out HB3.out HK3.out HR3.out (Nat.le_refl _) HS.out.2 (Nat.ne_of_lt HS.out.1) (.int .i64 2) (.int .i64 n) (.int .i64 0) (.int .i64 0) (.string ⟨#[]⟩)
  refine bodyPost_ret (results_list (rs := [.cell 2 51, .tmp 3]) rfl (by simp) (.cell w.heap.size 51 #[.int .i64 2, .int .i64 n, .int .i64 0, .int .i64 0, .string ⟨#[]⟩] (0, 0) _ rfl t1_ Tryd.underlying51 rfl (by kernel_rfl) (.tmp .nil))) rfl ⟨rfl, t2_, t3_, t4_⟩
set_option maxRecDepth 100000 in
set_option maxHeartbeats 2000000 in
theorem item2w (k : Nat) (g : Nat) (s : ByteArray) (at_ e_ ea : Int) (wd : ByteArray) (a b : Int) (n t1 e1 ea1 : Int) (wd2 : ByteArray) (a2 b2 : Int) (w0 w : World) (hI : IsS60 w0 w g s at_ e_ ea) (hB : Below w0.heap.size w0 w) (hG : Names w0)
    (h : wordF k s at_ = some (wd, a, b)) (hne : wd.toList ≠ ([] : List UInt8)) (hk : headF wd = 2) (hnu : numberF k s b e_ ea = some (n, t1, e1, ea1)) (hw2 : wordF k s t1 = some (wd2, a2, b2)) (he2 : wd2.toList ≠ ([] : List UInt8)) :
    Calls Tryd.prog 29 #[.pointer (some ⟨g, 0, none⟩)] w fun E w' => E = .returned (.tuple #[.agg #[.int .i64 2, .int .i64 n, .int .i64 0, .int .i64 0, .string ⟨#[]⟩], .bool true]) ∧ IsS60 w0 w' g s b2 (wrongF e1 ea1 3 a2).1 (wrongF e1 ea1 3 a2).2 ∧ Below w0.heap.size w0 w' ∧ KeepBut w w' g none := by
  have HW := Aside0.mk h
  have HK := Aside0.mk hk
  have HG1 := Aside0.mk hG
  have HG := Aside0.mk hG.1
  have HGh := Aside0.mk hG.2
  have HW2 := Aside0.mk hw2
  have HS : Aside0 (g < w.heap.size ∧ w0.heap.size ≤ w.heap.size) := ⟨hI.lt, hB.size⟩
  have HI := Aside0.mk hI
  have HB := Aside0.mk hB
  have c1 : (wd.toList == ([] : List UInt8)) = false := beq_eq_false_iff_ne.mpr hne
  have c2 : (wd2.toList == ([] : List UInt8)) = false := beq_eq_false_iff_ne.mpr he2
  have c3 : (wd2.toList != ([] : List UInt8)) = true := bne_iff_ne.mpr he2
  have HNu := Aside0.mk hnu
  clear hnu
  clear h hk hG hI hB hne hw2 he2
  go_enter Tryd.func29, Tryd.ntmps29
  go_wp2_with (first | (go_at_call 49; (refine (word_calls k g s at_ e_ ea wd a b w0 _ (IsS60.alloc HI.out _) (HB.out.alloc HB.out.size _) HW.out).mono ?_); rintro e W1 ⟨rfl, hI1, hB1, hK1⟩; have HR1 := Aside0.mk (keep_new HI.out hK1); have HI1 := Aside0.mk hI1; have HB1 := Aside0.mk hB1; have HS1 := Aside0.mk hI1.lt; have HRP := Aside0.mk (Nat.ne_of_lt (blk_lt HR1.out)); have HK1 := Aside0.mk (KeepBut.trans (keep_alloc (KeepBut.refl w g none) _) hK1 (.inl rfl)); clear hI1 hB1 hK1 HI HB) | (go_at_call 50; (refine (head_names wd w0 _ HB1.out HGh.out).mono ?_); rintro e W2 ⟨rfl, hW⟩; obtain rfl := hW.symm; rw [HK.out]) | (go_at_call 52; (refine (number_calls k g s b e_ ea n t1 e1 ea1 w0 _ (IsS60.alloc HI1.out _) (HB1.out.alloc HB1.out.size _) HNu.out).mono ?_); rintro e W2 ⟨rfl, hI, hB, hK⟩; have HR2 : Aside0 (W2.heap[w.heap.size]? = some (.cells #[.int .i64 0, .int .i64 0, .int .i64 0, .int .i64 0, .string ⟨#[]⟩] 51 (0, 0))) := ⟨KeepBut.blk hK (blk_alloc HR1.out _) (Nat.ne_of_gt HS.out.1) (by simp)⟩; have HP2 : Aside0 (W2.heap[W1.heap.size]? = some (.cells #[.int .i64 2, .int .i64 0, .int .i64 0, .int .i64 0, .string ⟨#[]⟩] 51 (0, 0))) := ⟨KeepBut.blk hK (blk_new W1 #[.int .i64 2, .int .i64 0, .int .i64 0, .int .i64 0, .string ⟨#[]⟩] 51) (Nat.ne_of_gt HS1.out) (by simp)⟩; have HK2 := Aside0.mk (KeepBut.trans (keep_alloc HK1.out _) hK (.inl rfl)); have HI2 := Aside0.mk hI; have HB2 := Aside0.mk hB; clear hI hB hK; (try clear hx0 hx1 hx2 hx3 hx4 hy0 hy1 hy2 hy3 hy4 hf0 hf1 hf2 hf3 hf4 hg0 hg1 hg2 hg3 hg4); have hx0 : W2.cell? ⟨W1.heap.size, 0, none⟩ = some (.int .i64 2) := (blk_cell HP2.out 0).trans rfl; have hx1 : W2.cell? ⟨W1.heap.size, 1, none⟩ = some (.int .i64 0) := (blk_cell HP2.out 1).trans rfl; have hx2 : W2.cell? ⟨W1.heap.size, 2, none⟩ = some (.int .i64 0) := (blk_cell HP2.out 2).trans rfl; have hx3 : W2.cell? ⟨W1.heap.size, 3, none⟩ = some (.int .i64 0) := (blk_cell HP2.out 3).trans rfl; have hx4 : W2.cell? ⟨W1.heap.size, 4, none⟩ = some (.string ⟨#[]⟩) := (blk_cell HP2.out 4).trans rfl; have hy0 : W2.cell? ⟨w.heap.size, 0, none⟩ = some (.int .i64 0) := (blk_cell HR2.out 0).trans rfl; have hy1 : W2.cell? ⟨w.heap.size, 1, none⟩ = some (.int .i64 0) := (blk_cell HR2.out 1).trans rfl; have hy2 : W2.cell? ⟨w.heap.size, 2, none⟩ = some (.int .i64 0) := (blk_cell HR2.out 2).trans rfl; have hy3 : W2.cell? ⟨w.heap.size, 3, none⟩ = some (.int .i64 0) := (blk_cell HR2.out 3).trans rfl; have hy4 : W2.cell? ⟨w.heap.size, 4, none⟩ = some (.string ⟨#[]⟩) := (blk_cell HR2.out 4).trans rfl; have hf0 := blk_frozen HR2.out 0; have hg0 := blk_frozen HP2.out 0; have hf1 := blk_frozen HR2.out 1; have hg1 := blk_frozen HP2.out 1; have hf2 := blk_frozen HR2.out 2; have hg2 := blk_frozen HP2.out 2; have hf3 := blk_frozen HR2.out 3; have hg3 := blk_frozen HP2.out 3; have hf4 := blk_frozen HR2.out 4; have hg4 := blk_frozen HP2.out 4; have hnw := eq_false HRP.out; have hnw2 := eq_false (Ne.symm HRP.out); clear HI1) | (go_at_call 49; (refine (word_calls k g s t1 e1 ea1 wd2 a2 b2 w0 _ (IsS60.far (p := ⟨W1.heap.size, 1, none⟩) HI2.out (Nat.ne_of_lt HS1.out) (.int .i64 n)) (below_set HB2.out HB1.out.size) HW2.out).mono ?_); rintro e W3 ⟨rfl, hI, hB, hK⟩; have HR3 : Aside0 (W3.heap[w.heap.size]? = some (.cells #[.int .i64 0, .int .i64 0, .int .i64 0, .int .i64 0, .string ⟨#[]⟩] 51 (0, 0))) := ⟨KeepBut.blk hK (blk_far (p := ⟨W1.heap.size, 1, none⟩) HR2.out HRP.out (.int .i64 n)) (Nat.ne_of_gt HS.out.1) (by simp)⟩; have HP3 : Aside0 (W3.heap[W1.heap.size]? = some (.cells #[.int .i64 2, .int .i64 n, .int .i64 0, .int .i64 0, .string ⟨#[]⟩] 51 (0, 0))) := ⟨KeepBut.blk hK (blk_set HP2.out 1 (.int .i64 n)) (Nat.ne_of_gt HS1.out) (by simp)⟩; have HK3 := Aside0.mk (KeepBut.trans (keep_new_set HK2.out HK1.out.1 1 (.int .i64 n)) hK (.inl rfl)); have HI3 := Aside0.mk hI; have HB3 := Aside0.mk hB; clear hI hB hK; (try clear hx0 hx1 hx2 hx3 hx4 hy0 hy1 hy2 hy3 hy4 hf0 hf1 hf2 hf3 hf4 hg0 hg1 hg2 hg3 hg4); have hx0 : W3.cell? ⟨W1.heap.size, 0, none⟩ = some (.int .i64 2) := (blk_cell HP3.out 0).trans rfl; have hx1 : W3.cell? ⟨W1.heap.size, 1, none⟩ = some (.int .i64 n) := (blk_cell HP3.out 1).trans rfl; have hx2 : W3.cell? ⟨W1.heap.size, 2, none⟩ = some (.int .i64 0) := (blk_cell HP3.out 2).trans rfl; have hx3 : W3.cell? ⟨W1.heap.size, 3, none⟩ = some (.int .i64 0) := (blk_cell HP3.out 3).trans rfl; have hx4 : W3.cell? ⟨W1.heap.size, 4, none⟩ = some (.string ⟨#[]⟩) := (blk_cell HP3.out 4).trans rfl; have hy0 : W3.cell? ⟨w.heap.size, 0, none⟩ = some (.int .i64 0) := (blk_cell HR3.out 0).trans rfl; have hy1 : W3.cell? ⟨w.heap.size, 1, none⟩ = some (.int .i64 0) := (blk_cell HR3.out 1).trans rfl; have hy2 : W3.cell? ⟨w.heap.size, 2, none⟩ = some (.int .i64 0) := (blk_cell HR3.out 2).trans rfl; have hy3 : W3.cell? ⟨w.heap.size, 3, none⟩ = some (.int .i64 0) := (blk_cell HR3.out 3).trans rfl; have hy4 : W3.cell? ⟨w.heap.size, 4, none⟩ = some (.string ⟨#[]⟩) := (blk_cell HR3.out 4).trans rfl; have hf0 := blk_frozen HR3.out 0; have hg0 := blk_frozen HP3.out 0; have hf1 := blk_frozen HR3.out 1; have hg1 := blk_frozen HP3.out 1; have hf2 := blk_frozen HR3.out 2; have hg2 := blk_frozen HP3.out 2; have hf3 := blk_frozen HR3.out 3; have hg3 := blk_frozen HP3.out 3; have hf4 := blk_frozen HR3.out 4; have hg4 := blk_frozen HP3.out 4; clear HI2) | (go_at_call 51; (refine (wrong_calls g s b2 e1 ea1 3 a2 w0 _ HI3.out HB3.out).mono ?_); rintro e W4 ⟨rfl, hI, hB, hK⟩; have HR4 : Aside0 (W4.heap[w.heap.size]? = some (.cells #[.int .i64 0, .int .i64 0, .int .i64 0, .int .i64 0, .string ⟨#[]⟩] 51 (0, 0))) := ⟨KeepBut.blk hK HR3.out (Nat.ne_of_gt HS.out.1) (by simp)⟩; have HP4 : Aside0 (W4.heap[W1.heap.size]? = some (.cells #[.int .i64 2, .int .i64 n, .int .i64 0, .int .i64 0, .string ⟨#[]⟩] 51 (0, 0))) := ⟨KeepBut.blk hK HP3.out (Nat.ne_of_gt HS1.out) (by simp)⟩; have HK4 := Aside0.mk (KeepBut.trans HK3.out hK (.inl rfl)); have HI4 := Aside0.mk hI; have HB4 := Aside0.mk hB; clear hI hB hK; (try clear hx0 hx1 hx2 hx3 hx4 hy0 hy1 hy2 hy3 hy4 hf0 hf1 hf2 hf3 hf4 hg0 hg1 hg2 hg3 hg4); have hx0 : W4.cell? ⟨W1.heap.size, 0, none⟩ = some (.int .i64 2) := (blk_cell HP4.out 0).trans rfl; have hx1 : W4.cell? ⟨W1.heap.size, 1, none⟩ = some (.int .i64 n) := (blk_cell HP4.out 1).trans rfl; have hx2 : W4.cell? ⟨W1.heap.size, 2, none⟩ = some (.int .i64 0) := (blk_cell HP4.out 2).trans rfl; have hx3 : W4.cell? ⟨W1.heap.size, 3, none⟩ = some (.int .i64 0) := (blk_cell HP4.out 3).trans rfl; have hx4 : W4.cell? ⟨W1.heap.size, 4, none⟩ = some (.string ⟨#[]⟩) := (blk_cell HP4.out 4).trans rfl; have hy0 : W4.cell? ⟨w.heap.size, 0, none⟩ = some (.int .i64 0) := (blk_cell HR4.out 0).trans rfl; have hy1 : W4.cell? ⟨w.heap.size, 1, none⟩ = some (.int .i64 0) := (blk_cell HR4.out 1).trans rfl; have hy2 : W4.cell? ⟨w.heap.size, 2, none⟩ = some (.int .i64 0) := (blk_cell HR4.out 2).trans rfl; have hy3 : W4.cell? ⟨w.heap.size, 3, none⟩ = some (.int .i64 0) := (blk_cell HR4.out 3).trans rfl; have hy4 : W4.cell? ⟨w.heap.size, 4, none⟩ = some (.string ⟨#[]⟩) := (blk_cell HR4.out 4).trans rfl; have hf0 := blk_frozen HR4.out 0; have hg0 := blk_frozen HP4.out 0; have hf1 := blk_frozen HR4.out 1; have hg1 := blk_frozen HP4.out 1; have hf2 := blk_frozen HR4.out 2; have hg2 := blk_frozen HP4.out 2; have hf3 := blk_frozen HR4.out 3; have hg3 := blk_frozen HP4.out 3; have hf4 := blk_frozen HR4.out 4; have hg4 := blk_frozen HP4.out 4; clear HI3))
  obtain ⟨t1_, t2_, t3_, t4_⟩ := item_tail HI4.out HB4.out HK4.out HR4.out (Nat.le_refl _) HS.out.2 (Nat.ne_of_lt HS.out.1) (.int .i64 2) (.int .i64 n) (.int .i64 0) (.int .i64 0) (.string ⟨#[]⟩)
  refine bodyPost_ret (results_list (rs := [.cell 2 51, .tmp 3]) rfl (by simp) (.cell w.heap.size 51 #[.int .i64 2, .int .i64 n, .int .i64 0, .int .i64 0, .string ⟨#[]⟩] (0, 0) _ rfl t1_ Tryd.underlying51 rfl (by kernel_rfl) (.tmp .nil))) rfl ⟨rfl, t2_, t3_, t4_⟩
set_option maxRecDepth 100000 in
set_option maxHeartbeats 2000000 in
theorem itemH (k : Nat) (g : Nat) (s : ByteArray) (at_ e_ ea : Int) (wd : ByteArray) (a b : Int) (H : Int) (wd2 : ByteArray) (a2 b2 : Int) (w0 w : World) (hI : IsS60 w0 w g s at_ e_ ea) (hB : Below w0.heap.size w0 w) (hG : Names w0)
    (h : wordF k s at_ = some (wd, a, b)) (hne : wd.toList ≠ ([] : List UInt8)) (hk : headF wd = H) (h0 : H ≠ 0) (h1 : H ≠ 1) (h2 : H ≠ 2) (hw2 : wordF k s b = some (wd2, a2, b2)) (he2 : wd2.toList = ([] : List UInt8)) :
    Calls Tryd.prog 29 #[.pointer (some ⟨g, 0, none⟩)] w fun E w' => E = .returned (.tuple #[.agg #[.int .i64 H, .int .i64 0, .int .i64 0, .int .i64 0, .string ⟨#[]⟩], .bool true]) ∧ IsS60 w0 w' g s b2 e_ ea ∧ Below w0.heap.size w0 w' ∧ KeepBut w w' g none := by
  have HW := Aside0.mk h
  have HK := Aside0.mk hk
  have HG1 := Aside0.mk hG
  have HG := Aside0.mk hG.1
  have HGh := Aside0.mk hG.2
  have HW2 := Aside0.mk hw2
  have HS : Aside0 (g < w.heap.size ∧ w0.heap.size ≤ w.heap.size) := ⟨hI.lt, hB.size⟩
  have HI := Aside0.mk hI
  have HB := Aside0.mk hB
  have c1 : (wd.toList == ([] : List UInt8)) = false := beq_eq_false_iff_ne.mpr hne
  have c2 : (wd2.toList == ([] : List UInt8)) = true := beq_iff_eq.mpr he2
  have c3 : (wd2.toList != ([] : List UInt8)) = false := bne_eq_false_iff_eq.mpr he2
  have k0 : (H == 0) = false := beq_eq_false_iff_ne.mpr h0
  have k1 : (H == 1) = false := beq_eq_false_iff_ne.mpr h1
  have k2 : (H == 2) = false := beq_eq_false_iff_ne.mpr h2
  clear h0 h1 h2
  clear h hk hG hI hB hne hw2 he2
  go_enter Tryd.func29, Tryd.ntmps29
  go_wp2_with (first | (go_at_call 49; (refine (word_calls k g s at_ e_ ea wd a b w0 _ (IsS60.alloc HI.out _) (HB.out.alloc HB.out.size _) HW.out).mono ?_); rintro e W1 ⟨rfl, hI1, hB1, hK1⟩; have HR1 := Aside0.mk (keep_new HI.out hK1); have HI1 := Aside0.mk hI1; have HB1 := Aside0.mk hB1; have HS1 := Aside0.mk hI1.lt; have HRP := Aside0.mk (Nat.ne_of_lt (blk_lt HR1.out)); have HK1 := Aside0.mk (KeepBut.trans (keep_alloc (KeepBut.refl w g none) _) hK1 (.inl rfl)); clear hI1 hB1 hK1 HI HB) | (go_at_call 50; (refine (head_names wd w0 _ HB1.out HGh.out).mono ?_); rintro e W2 ⟨rfl, hW⟩; obtain rfl := hW.symm; rw [HK.out]) | (go_at_call 49; (refine (word_calls k g s b e_ ea wd2 a2 b2 w0 _ (IsS60.alloc HI1.out _) (HB1.out.alloc HB1.out.size _) HW2.out).mono ?_); rintro e W2 ⟨rfl, hI, hB, hK⟩; have HR2 : Aside0 (W2.heap[w.heap.size]? = some (.cells #[.int .i64 0, .int .i64 0, .int .i64 0, .int .i64 0, .string ⟨#[]⟩] 51 (0, 0))) := ⟨KeepBut.blk hK (blk_alloc HR1.out _) (Nat.ne_of_gt HS.out.1) (by simp)⟩; have HP2 : Aside0 (W2.heap[W1.heap.size]? = some (.cells #[.int .i64 H, .int .i64 0, .int .i64 0, .int .i64 0, .string ⟨#[]⟩] 51 (0, 0))) := ⟨KeepBut.blk hK (blk_new W1 #[.int .i64 H, .int .i64 0, .int .i64 0, .int .i64 0, .string ⟨#[]⟩] 51) (Nat.ne_of_gt HS1.out) (by simp)⟩; have HK2 := Aside0.mk (KeepBut.trans (keep_alloc HK1.out _) hK (.inl rfl)); have HI2 := Aside0.mk hI; have HB2 := Aside0.mk hB; clear hI hB hK; (try clear hx0 hx1 hx2 hx3 hx4 hy0 hy1 hy2 hy3 hy4 hf0 hf1 hf2 hf3 hf4 hg0 hg1 hg2 hg3 hg4); have hx0 : W2.cell? ⟨W1.heap.size, 0, none⟩ = some (.int .i64 H) := (blk_cell HP2.out 0).trans rfl; have hx1 : W2.cell? ⟨W1.heap.size, 1, none⟩ = some (.int .i64 0) := (blk_cell HP2.out 1).trans rfl; have hx2 : W2.cell? ⟨W1.heap.size, 2, none⟩ = some (.int .i64 0) := (blk_cell HP2.out 2).trans rfl; have hx3 : W2.cell? ⟨W1.heap.size, 3, none⟩ = some (.int .i64 0) := (blk_cell HP2.out 3).trans rfl; have hx4 : W2.cell? ⟨W1.heap.size, 4, none⟩ = some (.string ⟨#[]⟩) := (blk_cell HP2.out 4).trans rfl; have hy0 : W2.cell? ⟨w.heap.size, 0, none⟩ = some (.int .i64 0) := (blk_cell HR2.out 0).trans rfl; have hy1 : W2.cell? ⟨w.heap.size, 1, none⟩ = some (.int .i64 0) := (blk_cell HR2.out 1).trans rfl; have hy2 : W2.cell? ⟨w.heap.size, 2, none⟩ = some (.int .i64 0) := (blk_cell HR2.out 2).trans rfl; have hy3 : W2.cell? ⟨w.heap.size, 3, none⟩ = some (.int .i64 0) := (blk_cell HR2.out 3).trans rfl; have hy4 : W2.cell? ⟨w.heap.size, 4, none⟩ = some (.string ⟨#[]⟩) := (blk_cell HR2.out 4).trans rfl; have hf0 := blk_frozen HR2.out 0; have hg0 := blk_frozen HP2.out 0; have hf1 := blk_frozen HR2.out 1; have hg1 := blk_frozen HP2.out 1; have hf2 := blk_frozen HR2.out 2; have hg2 := blk_frozen HP2.out 2; have hf3 := blk_frozen HR2.out 3; have hg3 := blk_frozen HP2.out 3; have hf4 := blk_frozen HR2.out 4; have hg4 := blk_frozen HP2.out 4; have hnw := eq_false HRP.out; have hnw2 := eq_false (Ne.symm HRP.out); clear HI1))
  obtain ⟨t1_, t2_, t3_, t4_⟩ := item_tail HI2.out HB2.out HK2.out HR2.out (Nat.le_refl _) HS.out.2 (Nat.ne_of_lt HS.out.1) (.int .i64 H) (.int .i64 0) (.int .i64 0) (.int .i64 0) (.string ⟨#[]⟩)
  refine bodyPost_ret (results_list (rs := [.cell 2 51, .tmp 3]) rfl (by simp) (.cell w.heap.size 51 #[.int .i64 H, .int .i64 0, .int .i64 0, .int .i64 0, .string ⟨#[]⟩] (0, 0) _ rfl t1_ Tryd.underlying51 rfl (by kernel_rfl) (.tmp .nil))) rfl ⟨rfl, t2_, t3_, t4_⟩
set_option maxRecDepth 100000 in
set_option maxHeartbeats 2000000 in
theorem itemHw (k : Nat) (g : Nat) (s : ByteArray) (at_ e_ ea : Int) (wd : ByteArray) (a b : Int) (H : Int) (wd2 : ByteArray) (a2 b2 : Int) (w0 w : World) (hI : IsS60 w0 w g s at_ e_ ea) (hB : Below w0.heap.size w0 w) (hG : Names w0)
    (h : wordF k s at_ = some (wd, a, b)) (hne : wd.toList ≠ ([] : List UInt8)) (hk : headF wd = H) (h0 : H ≠ 0) (h1 : H ≠ 1) (h2 : H ≠ 2) (hw2 : wordF k s b = some (wd2, a2, b2)) (he2 : wd2.toList ≠ ([] : List UInt8)) :
    Calls Tryd.prog 29 #[.pointer (some ⟨g, 0, none⟩)] w fun E w' => E = .returned (.tuple #[.agg #[.int .i64 H, .int .i64 0, .int .i64 0, .int .i64 0, .string ⟨#[]⟩], .bool true]) ∧ IsS60 w0 w' g s b2 (wrongF e_ ea 3 a2).1 (wrongF e_ ea 3 a2).2 ∧ Below w0.heap.size w0 w' ∧ KeepBut w w' g none := by
  have HW := Aside0.mk h
  have HK := Aside0.mk hk
  have HG1 := Aside0.mk hG
  have HG := Aside0.mk hG.1
  have HGh := Aside0.mk hG.2
  have HW2 := Aside0.mk hw2
  have HS : Aside0 (g < w.heap.size ∧ w0.heap.size ≤ w.heap.size) := ⟨hI.lt, hB.size⟩
  have HI := Aside0.mk hI
  have HB := Aside0.mk hB
  have c1 : (wd.toList == ([] : List UInt8)) = false := beq_eq_false_iff_ne.mpr hne
  have c2 : (wd2.toList == ([] : List UInt8)) = false := beq_eq_false_iff_ne.mpr he2
  have c3 : (wd2.toList != ([] : List UInt8)) = true := bne_iff_ne.mpr he2
  have k0 : (H == 0) = false := beq_eq_false_iff_ne.mpr h0
  have k1 : (H == 1) = false := beq_eq_false_iff_ne.mpr h1
  have k2 : (H == 2) = false := beq_eq_false_iff_ne.mpr h2
  clear h0 h1 h2
  clear h hk hG hI hB hne hw2 he2
  go_enter Tryd.func29, Tryd.ntmps29
  go_wp2_with (first | (go_at_call 49; (refine (word_calls k g s at_ e_ ea wd a b w0 _ (IsS60.alloc HI.out _) (HB.out.alloc HB.out.size _) HW.out).mono ?_); rintro e W1 ⟨rfl, hI1, hB1, hK1⟩; have HR1 := Aside0.mk (keep_new HI.out hK1); have HI1 := Aside0.mk hI1; have HB1 := Aside0.mk hB1; have HS1 := Aside0.mk hI1.lt; have HRP := Aside0.mk (Nat.ne_of_lt (blk_lt HR1.out)); have HK1 := Aside0.mk (KeepBut.trans (keep_alloc (KeepBut.refl w g none) _) hK1 (.inl rfl)); clear hI1 hB1 hK1 HI HB) | (go_at_call 50; (refine (head_names wd w0 _ HB1.out HGh.out).mono ?_); rintro e W2 ⟨rfl, hW⟩; obtain rfl := hW.symm; rw [HK.out]) | (go_at_call 49; (refine (word_calls k g s b e_ ea wd2 a2 b2 w0 _ (IsS60.alloc HI1.out _) (HB1.out.alloc HB1.out.size _) HW2.out).mono ?_); rintro e W2 ⟨rfl, hI, hB, hK⟩; have HR2 : Aside0 (W2.heap[w.heap.size]? = some (.cells #[.int .i64 0, .int .i64 0, .int .i64 0, .int .i64 0, .string ⟨#[]⟩] 51 (0, 0))) := ⟨KeepBut.blk hK (blk_alloc HR1.out _) (Nat.ne_of_gt HS.out.1) (by simp)⟩; have HP2 : Aside0 (W2.heap[W1.heap.size]? = some (.cells #[.int .i64 H, .int .i64 0, .int .i64 0, .int .i64 0, .string ⟨#[]⟩] 51 (0, 0))) := ⟨KeepBut.blk hK (blk_new W1 #[.int .i64 H, .int .i64 0, .int .i64 0, .int .i64 0, .string ⟨#[]⟩] 51) (Nat.ne_of_gt HS1.out) (by simp)⟩; have HK2 := Aside0.mk (KeepBut.trans (keep_alloc HK1.out _) hK (.inl rfl)); have HI2 := Aside0.mk hI; have HB2 := Aside0.mk hB; clear hI hB hK; (try clear hx0 hx1 hx2 hx3 hx4 hy0 hy1 hy2 hy3 hy4 hf0 hf1 hf2 hf3 hf4 hg0 hg1 hg2 hg3 hg4); have hx0 : W2.cell? ⟨W1.heap.size, 0, none⟩ = some (.int .i64 H) := (blk_cell HP2.out 0).trans rfl; have hx1 : W2.cell? ⟨W1.heap.size, 1, none⟩ = some (.int .i64 0) := (blk_cell HP2.out 1).trans rfl; have hx2 : W2.cell? ⟨W1.heap.size, 2, none⟩ = some (.int .i64 0) := (blk_cell HP2.out 2).trans rfl; have hx3 : W2.cell? ⟨W1.heap.size, 3, none⟩ = some (.int .i64 0) := (blk_cell HP2.out 3).trans rfl; have hx4 : W2.cell? ⟨W1.heap.size, 4, none⟩ = some (.string ⟨#[]⟩) := (blk_cell HP2.out 4).trans rfl; have hy0 : W2.cell? ⟨w.heap.size, 0, none⟩ = some (.int .i64 0) := (blk_cell HR2.out 0).trans rfl; have hy1 : W2.cell? ⟨w.heap.size, 1, none⟩ = some (.int .i64 0) := (blk_cell HR2.out 1).trans rfl; have hy2 : W2.cell? ⟨w.heap.size, 2, none⟩ = some (.int .i64 0) := (blk_cell HR2.out 2).trans rfl; have hy3 : W2.cell? ⟨w.heap.size, 3, none⟩ = some (.int .i64 0) := (blk_cell HR2.out 3).trans rfl; have hy4 : W2.cell? ⟨w.heap.size, 4, none⟩ = some (.string ⟨#[]⟩) := (blk_cell HR2.out 4).trans rfl; have hf0 := blk_frozen HR2.out 0; have hg0 := blk_frozen HP2.out 0; have hf1 := blk_frozen HR2.out 1; have hg1 := blk_frozen HP2.out 1; have hf2 := blk_frozen HR2.out 2; have hg2 := blk_frozen HP2.out 2; have hf3 := blk_frozen HR2.out 3; have hg3 := blk_frozen HP2.out 3; have hf4 := blk_frozen HR2.out 4; have hg4 := blk_frozen HP2.out 4; have hnw := eq_false HRP.out; have hnw2 := eq_false (Ne.symm HRP.out); clear HI1) | (go_at_call 51; (refine (wrong_calls g s b2 e_ ea 3 a2 w0 _ HI2.out HB2.out).mono ?_); rintro e W3 ⟨rfl, hI, hB, hK⟩; have HR3 : Aside0 (W3.heap[w.heap.size]? = some (.cells #[.int .i64 0, .int .i64 0, .int .i64 0, .int .i64 0, .string ⟨#[]⟩] 51 (0, 0))) := ⟨KeepBut.blk hK HR2.out (Nat.ne_of_gt HS.out.1) (by simp)⟩; have HP3 : Aside0 (W3.heap[W1.heap.size]? = some (.cells #[.int .i64 H, .int .i64 0, .int .i64 0, .int .i64 0, .string ⟨#[]⟩] 51 (0, 0))) := ⟨KeepBut.blk hK HP2.out (Nat.ne_of_gt HS1.out) (by simp)⟩; have HK3 := Aside0.mk (KeepBut.trans HK2.out hK (.inl rfl)); have HI3 := Aside0.mk hI; have HB3 := Aside0.mk hB; clear hI hB hK; (try clear hx0 hx1 hx2 hx3 hx4 hy0 hy1 hy2 hy3 hy4 hf0 hf1 hf2 hf3 hf4 hg0 hg1 hg2 hg3 hg4); have hx0 : W3.cell? ⟨W1.heap.size, 0, none⟩ = some (.int .i64 H) := (blk_cell HP3.out 0).trans rfl; have hx1 : W3.cell? ⟨W1.heap.size, 1, none⟩ = some (.int .i64 0) := (blk_cell HP3.out 1).trans rfl; have hx2 : W3.cell? ⟨W1.heap.size, 2, none⟩ = some (.int .i64 0) := (blk_cell HP3.out 2).trans rfl; have hx3 : W3.cell? ⟨W1.heap.size, 3, none⟩ = some (.int .i64 0) := (blk_cell HP3.out 3).trans rfl; have hx4 : W3.cell? ⟨W1.heap.size, 4, none⟩ = some (.string ⟨#[]⟩) := (blk_cell HP3.out 4).trans rfl; have hy0 : W3.cell? ⟨w.heap.size, 0, none⟩ = some (.int .i64 0) := (blk_cell HR3.out 0).trans rfl; have hy1 : W3.cell? ⟨w.heap.size, 1, none⟩ = some (.int .i64 0) := (blk_cell HR3.out 1).trans rfl; have hy2 : W3.cell? ⟨w.heap.size, 2, none⟩ = some (.int .i64 0) := (blk_cell HR3.out 2).trans rfl; have hy3 : W3.cell? ⟨w.heap.size, 3, none⟩ = some (.int .i64 0) := (blk_cell HR3.out 3).trans rfl; have hy4 : W3.cell? ⟨w.heap.size, 4, none⟩ = some (.string ⟨#[]⟩) := (blk_cell HR3.out 4).trans rfl; have hf0 := blk_frozen HR3.out 0; have hg0 := blk_frozen HP3.out 0; have hf1 := blk_frozen HR3.out 1; have hg1 := blk_frozen HP3.out 1; have hf2 := blk_frozen HR3.out 2; have hg2 := blk_frozen HP3.out 2; have hf3 := blk_frozen HR3.out 3; have hg3 := blk_frozen HP3.out 3; have hf4 := blk_frozen HR3.out 4; have hg4 := blk_frozen HP3.out 4; clear HI2))
  obtain ⟨t1_, t2_, t3_, t4_⟩ := item_tail HI3.out HB3.out HK3.out HR3.out (Nat.le_refl _) HS.out.2 (Nat.ne_of_lt HS.out.1) (.int .i64 H) (.int .i64 0) (.int .i64 0) (.int .i64 0) (.string ⟨#[]⟩)
  refine bodyPost_ret (results_list (rs := [.cell 2 51, .tmp 3]) rfl (by simp) (.cell w.heap.size 51 #[.int .i64 H, .int .i64 0, .int .i64 0, .int .i64 0, .string ⟨#[]⟩] (0, 0) _ rfl t1_ Tryd.underlying51 rfl (by kernel_rfl) (.tmp .nil))) rfl ⟨rfl, t2_, t3_, t4_⟩
/-- What stands behind an item's first word, by its kind. -/
def midF (k : Nat) (s : ByteArray) (H a b e_ ea : Int) : Option (Int × Int × Int × ByteArray × Int × Int × Int) :=
  if H = 0 then some (0, 0, 0, ⟨#[]⟩, b, wrongF e_ ea 3 a)
  else if H = 1 then (numberF k s b e_ ea).bind fun n => (opF k s n.2.1 n.2.2.1 n.2.2.2).bind fun o => some (n.1, o)
  else if H = 2 then (numberF k s b e_ ea).bind fun n => some (n.1, 0, 0, ⟨#[]⟩, n.2)
  else some (0, 0, 0, ⟨#[]⟩, b, e_, ea)
/-- An item: its five parts, whether there is one, where what follows begins, what is wrong first. -/
def itemF (k : Nat) (s : ByteArray) (at_ e_ ea : Int) : Option (Int × Int × Int × Int × ByteArray × Bool × Int × Int × Int) :=
  (wordF k s at_).bind fun w =>
    if w.1.toList = ([] : List UInt8) then some (0, 0, 0, 0, ⟨#[]⟩, false, w.2.2, e_, ea)
    else (midF k s (headF w.1) w.2.1 w.2.2 e_ ea).bind fun m => (wordF k s m.2.2.2.2.1).bind fun v =>
      some (headF w.1, m.1, m.2.1, m.2.2.1, m.2.2.2.1, true, v.2.2, if v.1.toList = ([] : List UInt8) then (m.2.2.2.2.2.1, m.2.2.2.2.2.2) else wrongF m.2.2.2.2.2.1 m.2.2.2.2.2.2 3 v.2.1)
theorem item_calls (k : Nat) (g : Nat) (s : ByteArray) (at_ e_ ea : Int) (H C K n : Int) (d : ByteArray) (is : Bool) (tt e1 ea1 : Int) (w0 w : World) (hI : IsS60 w0 w g s at_ e_ ea) (hB : Below w0.heap.size w0 w) (hG : Names w0) (h : itemF k s at_ e_ ea = some (H, C, K, n, d, is, tt, e1, ea1)) :
    Calls Tryd.prog 29 #[.pointer (some ⟨g, 0, none⟩)] w fun E w' => E = .returned (.tuple #[.agg #[.int .i64 H, .int .i64 C, .int .i64 K, .int .i64 n, .string d], .bool is]) ∧ IsS60 w0 w' g s tt e1 ea1 ∧ Below w0.heap.size w0 w' ∧ KeepBut w w' g none := by
  unfold itemF at h
  obtain ⟨⟨wd, a, b⟩, h1, h2⟩ := Option.bind_eq_some_iff.mp h
  clear h
  dsimp only at h2
  by_cases hne : wd.toList = ([] : List UInt8)
  · rw [if_pos hne] at h2
    simp only [Option.some.injEq, Prod.mk.injEq] at h2
    obtain ⟨rfl, rfl, rfl, rfl, rfl, rfl, rfl, rfl, rfl⟩ := h2
    exact item_end k g s at_ e_ ea wd a b w0 w hI hB h1 hne
  · rw [if_neg hne] at h2
    obtain ⟨⟨C', K', n', d', t', e', ea'⟩, h3, h4⟩ := Option.bind_eq_some_iff.mp h2
    obtain ⟨⟨wd2, a2, b2⟩, h5, h6⟩ := Option.bind_eq_some_iff.mp h4
    dsimp only at h5 h6
    clear h2 h4
    simp only [Option.some.injEq, Prod.mk.injEq] at h6
    obtain ⟨rfl, rfl, rfl, rfl, rfl, rfl, rfl, h7⟩ := h6
    unfold midF at h3
    by_cases k0 : headF wd = 0
    · rw [if_pos k0] at h3
      simp only [Option.some.injEq, Prod.mk.injEq] at h3
      obtain ⟨rfl, rfl, rfl, rfl, rfl, h8⟩ := h3
      by_cases he2 : wd2.toList = ([] : List UInt8)
      · have h9 := item0 k g s at_ e_ ea wd a b wd2 a2 b2 w0 w hI hB hG h1 hne k0 h5 he2
        rw [if_pos he2] at h7
        rw [k0]
        simp only [h8] at h9
        cases h7
        exact h9
      · have h9 := item0w k g s at_ e_ ea wd a b wd2 a2 b2 w0 w hI hB hG h1 hne k0 h5 he2
        rw [if_neg he2] at h7
        rw [k0]
        simp only [h8, h7] at h9
        exact h9
    · rw [if_neg k0] at h3
      by_cases k1 : headF wd = 1
      · rw [if_pos k1] at h3
        obtain ⟨⟨n1, t1, e2, ea2⟩, h8, h9⟩ := Option.bind_eq_some_iff.mp h3
        obtain ⟨⟨K1, N1, D1, t2, e3, ea3⟩, h10, h11⟩ := Option.bind_eq_some_iff.mp h9
        clear h3 h9
        simp only [Option.some.injEq, Prod.mk.injEq] at h11
        obtain ⟨rfl, rfl, rfl, rfl, rfl, rfl, rfl⟩ := h11
        rw [k1]
        by_cases he2 : wd2.toList = ([] : List UInt8)
        · rw [if_pos he2] at h7
          cases h7
          exact item1 k g s at_ e_ ea wd a b _ _ _ _ _ _ _ _ _ _ wd2 a2 _ w0 w hI hB hG h1 hne k1 h8 h10 h5 he2
        · have h12 := item1w k g s at_ e_ ea wd a b _ _ _ _ _ _ _ _ _ _ wd2 a2 _ w0 w hI hB hG h1 hne k1 h8 h10 h5 he2
          rw [if_neg he2] at h7
          simp only [h7] at h12
          exact h12
      · rw [if_neg k1] at h3
        by_cases k2 : headF wd = 2
        · rw [if_pos k2] at h3
          obtain ⟨⟨n1, t1, e2, ea2⟩, h8, h9⟩ := Option.bind_eq_some_iff.mp h3
          clear h3
          simp only [Option.some.injEq, Prod.mk.injEq] at h9
          obtain ⟨rfl, rfl, rfl, rfl, rfl, rfl, rfl⟩ := h9
          rw [k2]
          by_cases he2 : wd2.toList = ([] : List UInt8)
          · rw [if_pos he2] at h7
            cases h7
            exact item2 k g s at_ e_ ea wd a b _ _ _ _ wd2 a2 _ w0 w hI hB hG h1 hne k2 h8 h5 he2
          · have h12 := item2w k g s at_ e_ ea wd a b _ _ _ _ wd2 a2 _ w0 w hI hB hG h1 hne k2 h8 h5 he2
            rw [if_neg he2] at h7
            simp only [h7] at h12
            exact h12
        · rw [if_neg k2] at h3
          simp only [Option.some.injEq, Prod.mk.injEq] at h3
          obtain ⟨rfl, rfl, rfl, rfl, rfl, rfl, rfl⟩ := h3
          by_cases he2 : wd2.toList = ([] : List UInt8)
          · rw [if_pos he2] at h7
            cases h7
            exact itemH k g s at_ _ _ wd a _ _ wd2 a2 _ w0 w hI hB hG h1 hne rfl k0 k1 k2 h5 he2
          · have h12 := itemHw k g s at_ _ _ wd a _ _ wd2 a2 _ w0 w hI hB hG h1 hne rfl k0 k1 k2 h5 he2
            rw [if_neg he2] at h7
            simp only [h7] at h12
            exact h12
end Go.Proofs.YtifcpamliidabaaDoor.HandItem

/- The lines of a text, one by one: what the iterator of script.lines hands to its loop; and a loop over them. No condition beyond a bound on the text's length. -/
set_option linter.unusedSimpArgs false
set_option linter.unusedVariables false
namespace Go.Proofs.YtifcpamliidabaaDoor.HandLine
open Go.RowKit Go.Shelf Go.Proofs.YtifcpamliidabaaDoorW.PrintWords Go.Proofs.YtifcpamliidabaaDoorW.PrintLast Go.Proofs.YtifcpamliidabaaDoorW.PrintMore Go.Proofs.YtifcpamliidabaaDoor.PS
theorem wide_fn (f : FuncId) : Fence.wide.fn f = True := rfl
theorem wide_depth : Fence.wide.depth = none := rfl
theorem round_fn (l : Nat) (f : FuncId) : (Fence.wide.inRound l).fn f = True := rfl
theorem round_depth (l : Nat) : (Fence.wide.inRound l).depth = none := rfl
attribute [local go_sem] Oper.semAt_some wide_fn wide_depth round_fn round_depth
/-! ### What is walked without a fence, within a round -/
theorem rowsIn_round {l n : Nat} {P : Program} {row : String} {args : Array Value} {w : World} {R : Value → World → Prop} (h : Rows P row args w R) : RowsIn (Fence.wide.inRound l) n P row args w R :=
  fun c cs _ => let ⟨v, w', r, s⟩ := h c cs; ⟨v, w', r, stepsIn_wide.2 s⟩
theorem operIn {l n : Nat} {P : Program} {o : Oper} {a : Act} {w : World} {K : Act → World → Prop} {Q : Exit → Act → World → Prop} (hnd : ∀ c, o.op ≠ .defer c) (h : o.wp P a w K Q) :
    o.wpIn (Fence.wide.inRound l) n P a w K Q := by
  refine ⟨fun _ _ => trivial, ?_⟩
  unfold Oper.wp at h
  rw [Fence.inRound_round, Oper.semAt_some l _ _ hnd]
  generalize (execOp a.eval o).run P w = r at h ⊢
  cases r with
  | ok x w' =>
    cases x with
    | value v => exact h
    | skip => exact h
    | defer d => exact h
    | enter f args => exact ⟨fun e => by simp [Fence.wide] at e, (callsIn_wide (n := n - 1)).2 h⟩
    | row row args => exact ⟨fun e => by simp [Fence.wide] at e, rowsIn_round h⟩
    | _ => exact absurd h (fun e => by cases e)
  | halt x w' =>
    cases x with
    | panic v => exact h
    | _ => exact absurd h (fun e => by cases e)
theorem opsIn {l n : Nat} {P : Program} {ops : Array Oper} {Q : Exit → Act → World → Prop} (hQ : ∀ a w, ¬ Q .outgrown a w) (hnd : ∀ (i : Nat) (o : Oper) (c : _), ops[i]? = some o → o.op ≠ .defer c) :
    ∀ (is : List Nat) (a : Act) (w : World), wpOps P ops Q is a w → wpOpsIn (Fence.wide.inRound l) n P ops Q is a w := by
  intro is
  induction is with
  | nil => intro a w h; exact h
  | cons i rest ih =>
    intro a w h
    unfold wpOps at h
    unfold wpOpsIn
    cases ho : ops[i]? with
    | none =>
      rw [ho] at h
      exact ih a w h
    | some o =>
      rw [ho] at h
      dsimp only at h ⊢
      split
      · rename_i hw
        rw [if_pos hw] at h
        rcases h with h | ⟨_, a', w', h⟩
        · exact Oper.wpIn_mono (fun a w h => ih a w h) (operIn (fun c => hnd i o c ho) h)
        · exact absurd h (hQ _ _)
      · rename_i hw
        rw [if_neg hw] at h
        exact ⟨fun _ _ => trivial, ih _ _ h⟩
def noDefer (o : Oper) : Bool := match o.op with | .defer _ => false | _ => true
theorem noDefer_all {ops : Array Oper} (h : ops.toList.all noDefer = true) : ∀ (i : Nat) (o : Oper) (c : _), ops[i]? = some o → o.op ≠ .defer c := by
  intro i o c hi ho
  have h1 := List.all_eq_true.mp h o (by rw [← Array.getElem?_toList] at hi; exact List.mem_of_getElem? hi)
  unfold noDefer at h1
  rw [ho] at h1
  cases h1
theorem startIn_ {l m id n : Nat} {P : Program} {ops : Array Oper} {Q : Exit → Act → World → Prop} {S : World → Prop} {ds : List Nat} {a : Act} {w : World} (lst : Array Bool) (hQ : ∀ a w, ¬ Q .outgrown a w) (hnd : ops.toList.all noDefer = true)
    (hm : P.follows .mixedOrders = true) (hn : ops.size = n) (hl : Array.replicate n false = lst) (hS : S w.drew)
    (h : S w.drew → wpAnyLast P .any ops Q S ds n lst a w.drew) : (Code.region id ops true).wpIn (Fence.wide.inRound l) m P Q a w := by
  subst hn
  subst hl
  refine wpIn_region_draw fun t => ?_
  simp only [Region.schedule, hm, Bool.true_or, if_true]
  exact opsIn hQ (noDefer_all hnd) _ _ _ (wpAny_sound ops.size t _ a _ (wpAny_of_last _ _ _ _ (h hS)))
/-! ### IndexByte -/
def nlF (t : ByteArray) : Int := Lib.indexByte t.data.toList 10
theorem nl_lt : ∀ (l : List UInt8) (c : UInt8), Lib.indexByte l c = -1 ∨ (0 ≤ Lib.indexByte l c ∧ Lib.indexByte l c < l.length)
  | [], _ => .inl rfl
  | b :: l, c => by
    unfold Lib.indexByte
    split
    · right; simp
    · have := nl_lt l c
      split
      · left; rfl
      · rename_i h1 h2
        rcases this with h | h
        · rw [h] at h2; exact absurd rfl h2
        · right; simp; omega
theorem nlF_two (t : ByteArray) : nlF t = -1 ∨ (0 ≤ nlF t ∧ nlF t < (t.size : Int)) := by
  have := nl_lt t.data.toList 10
  unfold nlF
  simpa using this
set_option maxRecDepth 100000 in
theorem index_calls (s : ByteArray) (w : World) : Calls Tryd.prog 48 #[.string s, .int .u8 10] w fun e w' => e = .returned (.int .i64 (nlF s)) ∧ w' = w := by
  have h58 : Calls Tryd.prog 58 #[.string s, .int .u8 10] w fun e w' => e = .returned (.int .i64 (nlF s)) ∧ w' = w := by
    go_enter Tryd.func58, Tryd.ntmps58
    go_wp2
    rw [run_callFunc_extern Tryd.func63 (by kernel_rfl) (by kernel_rfl) (by kernel_rfl) (e := Extern.BytealgIndexByte.indexByte) (by kernel_rfl), Lib.run_indexByteString]
    simp only [Result.andThen]
    rw [Oper.upon_value]
    go_wp2
    go_ret
    exact ⟨rfl, rfl⟩
  go_enter Tryd.func48, Tryd.ntmps48
  go_wp2_with (go_at_call 58; refine h58.mono ?_; rintro e w' ⟨rfl, rfl⟩)
  go_ret
  exact ⟨rfl, rfl⟩
/-! ### The lines -/
/-- A text's lines from a byte on, by so many steps: where each begins, and it. -/
def linesN (s : ByteArray) : Nat → Nat → List (Int × ByteArray)
  | 0, _ => []
  | d + 1, i => if nlF (s.extract i s.size) < 0 then [((i : Int), s.extract i s.size)]
    else ((i : Int), s.extract i (i + (nlF (s.extract i s.size)).toNat)) :: linesN s d (i + (nlF (s.extract i s.size)).toNat + 1)
def linesU (s : ByteArray) : List (Int × ByteArray) := linesN s (s.size + 1) 0
theorem box_under {W W' : World} {B : Nat} {t : TypeId} {v : Value} (h : Boxed W B t v) (hb : Below W.heap.size W W') : Boxed W' B t v := (hb.block B h.lt).trans h
set_option maxRecDepth 100000 in
set_option maxHeartbeats 2000000 in
theorem each1_in (m : Nat) (hm : 1 ≤ m) (l Bs : Nat) (s0 : ByteArray) (hs : s0.size ≤ 1000000) (J : List (Int × ByteArray) → World → Prop) (Jx : World → Prop)
    (hJT : ∀ r W, J r W → Boxed W Bs 9 (.string s0))
    (hY : ∀ x r W, J (x :: r) W → 0 ≤ x.1 → x.1 ≤ (s0.size : Int) → YieldAt Fence.wide (m - 1) Tryd.prog l #[.int .i64 x.1, .string x.2] W fun e W' =>
      (e = .returned (.bool true) ∧ J r W') ∨ (e = .returned (.bool false) ∧ Jx W'))
    (W : World) (h0 : J (linesU s0) W) :
    CallsIn Fence.wide m Tryd.prog 47 #[.func (.yield l) #[] #[], .pointer (some ⟨Bs, 0, none⟩)] W fun e W' => (∃ v, e = .returned v) ∧ (J [] W' ∨ Jx W') := by
  have HJ0 := Aside0.mk h0
  clear h0
  refine callsIn_of_wp Tryd.func47 rfl trivial ?_ rfl
  simp only [Tryd.ntmps47, List.size_toArray, List.length_cons, List.length_nil, Nat.reduceAdd, Nat.reduceSub, Array.replicate_succ, Array.replicate_zero, List.push_toArray, List.append_toArray, List.nil_append, List.cons_append]
  gi_wp2_with fail
  gi_loopw [3] (fun v3 wr => ∃ (i d : Nat), v3 = .int .i64 (i : Int) ∧ Aside0 (i ≤ s0.size ∧ s0.size < i + d ∧ J (linesN s0 d i) wr))
    (fun v3 _ => s0.size + 1 - (intOf v3).toNat)
  case atStart => exact ⟨0, s0.size + 1, rfl, ⟨by omega, by omega, HJ0.out⟩⟩
  case round =>
    clear HJ0
    obtain ⟨i, d, rfl, HP⟩ := hrel
    obtain ⟨p1, p2, p3⟩ := HP.out
    obtain ⟨d, rfl⟩ : ∃ d', d = d' + 1 := ⟨d - 1, by omega⟩
    have hb := hJT _ _ p3
    have hc := hb.cell
    have hf := hb.frozen
    have HS : Aside0 (((s0.extract i s0.size).size : Int) = (s0.size : Int) - (i : Int)) := ⟨by simp; omega⟩
    have HJ := Aside0.mk p3
    have q1 : (0 ≤ (i : Int)) = True := eq_true (by omega)
    have q2 : ((i : Int) ≤ (s0.size : Int)) = True := eq_true (by omega)
    have q3 : (i ≤ s0.size) = True := eq_true (by omega)
    clear HP hb p3
    unfold linesN at HJ
    by_cases hn : nlF (s0.extract i s0.size) < 0
    · rw [if_pos hn] at HJ
      have c1 : decide (nlF (s0.extract i s0.size) < 0) = true := decide_eq_true hn
      have HY := Aside0.mk (hY _ _ _ HJ.out (by omega) (by show (i : Int) ≤ _; omega))
      clear hY hn
      gi_wp2_with (gi_at_call 48; refine (callsIn_wide.2 (index_calls (s0.extract i s0.size) _)).mono ?_; rintro e W1 ⟨rfl, rfl⟩)
      obtain ⟨fn, tmps, assign, body, hy, hR⟩ := HY.out
      rw [hy, Oper.uponIn_round]
      refine ⟨fun _ => hm, ?_⟩
      refine hR.mono ?_
      clear hR hy HY HJ hc hf
      rintro e W3 (⟨rfl, hJ3⟩ | ⟨rfl, hJ3⟩)
      · have HJ3 := Aside0.mk hJ3
        clear hJ3
        gi_wp2_with fail
        first | go_end0 | go_ret | ((try simp only [Exit.inBlock, Exit.then]); refine bodyPost_ret (results_none rfl _ _ _) rfl ?_)
        exact ⟨⟨_, rfl⟩, .inl HJ3.out⟩
      · have HJ3 := Aside0.mk hJ3
        clear hJ3
        gi_wp2_with fail
        first | go_end0 | go_ret | ((try simp only [Exit.inBlock, Exit.then]); refine bodyPost_ret (results_none rfl _ _ _) rfl ?_)
        exact ⟨⟨_, rfl⟩, .inr HJ3.out⟩
    · rw [if_neg hn] at HJ
      obtain ⟨n, hn2⟩ : ∃ n : Nat, nlF (s0.extract i s0.size) = (n : Int) := ⟨(nlF (s0.extract i s0.size)).toNat, by omega⟩
      have hn3 := nlF_two (s0.extract i s0.size)
      rw [hn2, Int.toNat_natCast] at HJ
      rw [hn2] at hn hn3
      have c1 : decide ((n : Int) < 0) = false := decide_eq_false (by omega)
      have HN := Aside0.mk hn2
      have q4 : (((i : Int) + (n : Int)) ≤ (s0.size : Int)) = True := eq_true (by rw [HS.out] at hn3; omega)
      have q5 : ((i : Int) ≤ (i : Int) + (n : Int)) = True := eq_true (by omega)
      have q6 : (i : Int) + (n : Int) < 2000000 := by rw [HS.out] at hn3; omega
      have q7 : i + n < s0.size := by rw [HS.out] at hn3; omega
      clear hn hn2 hn3
      have HY := Aside0.mk (hY _ _ _ HJ.out (by omega) (by show (i : Int) ≤ _; omega))
      clear hY
      gi_wp2_with (gi_at_call 48; refine (callsIn_wide.2 (index_calls (s0.extract i s0.size) _)).mono ?_; rintro e W1 ⟨rfl, rfl⟩; rw [HN.out])
      obtain ⟨fn, tmps, assign, body, hy, hR⟩ := HY.out
      try rw [show s0.extract i ((i : Int) + (n : Int)).toNat = s0.extract i (i + n) by congr 1]
      rw [hy, Oper.uponIn_round]
      refine ⟨fun _ => hm, ?_⟩
      refine hR.mono ?_
      clear hR hy HY HJ hc hf
      rintro e W3 (⟨rfl, hJ3⟩ | ⟨rfl, hJ3⟩)
      · have HJ3 := Aside0.mk hJ3
        clear hJ3
        gi_wp2_with fail
        go_roundw
        case rel => exact ⟨i + n + 1, d, by congr 1, ⟨by omega, by omega, HJ3.out⟩⟩
        case measure => simp [intOf]; omega
      · have HJ3 := Aside0.mk hJ3
        clear hJ3
        gi_wp2_with fail
        first | go_end0 | go_ret | ((try simp only [Exit.inBlock, Exit.then]); refine bodyPost_ret (results_none rfl _ _ _) rfl ?_)
        exact ⟨⟨_, rfl⟩, .inr HJ3.out⟩
/-- How a round may be left. -/
def roundEnds (B : Nat) (I : List (Int × ByteArray) → World → Prop) (X : World → Prop) (r : List (Int × ByteArray)) (W : World) : Exit → Act → World → Prop
  | .normal, _, W' => KeepsFrom B W W' ∧ I r W'
  | .ret, _, W' => KeepsFrom B W W' ∧ X W'
  | _, _, _ => False
set_option maxRecDepth 100000 in
theorem range47 {ps : Array Tmp} {assign body : Code} {Q : Exit → Act → World → Prop} {a : Act} {w : World} {g : Operand} (m : Nat) (hm : 2 ≤ m) (Bs : Nat) (s0 : ByteArray) (hs : s0.size ≤ 1000000)
    (hg : a.eval g = .func (.func 47) #[] #[.pointer (some ⟨Bs, 0, none⟩)]) (hps : ps.size = 2) (I : List (Int × ByteArray) → World → Prop) (X : World → Prop)
    (hIT : ∀ r W, I r W → Boxed W Bs 9 (.string s0)) (hIb : ∀ r W W', I r W → Below W.heap.size W W' → I r W')
    (hIp : ∀ r W k o o', I r W → w.heap.size ≤ k → W.heap[k]? = some o → o.isCells = false → I r (W.putObj k o'))
    (hXp : ∀ W k o o', X W → w.heap.size ≤ k → W.heap[k]? = some o → o.isCells = false → X (W.putObj k o'))
    (h0 : I (linesU s0) w) (a₁ : Int → ByteArray → Act)
    (hassign : ∀ (l : Nat) (x : Int) (y : ByteArray) (W : World) (K : Act → World → Prop), K (a₁ x y) W → assign.wpIn (Fence.wide.inRound l) (m - 1 - 1) Tryd.prog (Exit.then K (fun _ _ _ => False)) { tmps := (ps.zip #[.int .i64 x, .string y]).foldl (fun t (p, v) => t.setIfInBounds p v) a.tmps, defers := [] } W)
    (hbody : ∀ (l : Nat) (x : Int) (y : ByteArray) (r : List (Int × ByteArray)) (W : World), I ((x, y) :: r) W → 0 ≤ x → x ≤ (s0.size : Int) → body.wpIn (Fence.wide.inRound l) (m - 1 - 1) Tryd.prog (roundEnds w.heap.size I X r W) (a₁ x y) W)
    (hdone : ∀ (D : Nat) (W : World), w.heap.size ≤ D → I [] W → W.heap[D]? = some (.deferred (some [])) → Q .normal { a with defers := { target := .collected D, args := #[] } :: a.defers } W)
    (hstop : ∀ (D : Nat) (W : World), w.heap.size ≤ D → X W → W.heap[D]? = some (.deferred (some [])) → Code.ret.wpIn Fence.wide m Tryd.prog Q { a with defers := { target := .collected D, args := #[] } :: a.defers } W) :
    (Code.rangeFunc g ps assign body).wpIn Fence.wide m Tryd.prog Q a w := by
  refine wpIn_rangeFunc fun fn hfn => ?_
  -- the record of the loop
  obtain ⟨rc, hrc⟩ : ∃ rc : LoopState → Option Code → Loop, rc = fun st pe => { state := st, pending := pe, fn, tmps := a.tmps, params := ps, assign, body, defers := w.heap.size } := ⟨_, rfl⟩
  have hst : ∀ st pe, (rc st pe).state = st := fun st pe => by rw [hrc]
  have hpd : ∀ st pe, (rc st pe).pending = pe := fun st pe => by rw [hrc]
  have hup : ∀ st pe st' pe', ({ rc st pe with state := st', pending := pe' } : Loop) = rc st' pe' := fun st pe st' pe' => by rw [hrc]
  have hup1 : ∀ st pe st', ({ rc st pe with state := st' } : Loop) = rc st' pe := fun st pe st' => by rw [hrc]
  -- the world behind its laying
  have hlay : Below w.heap.size w ((w.alloc (.deferred (some []))).alloc (.loop (rc .ready none))) := ((Below.refl _ w).alloc (Nat.le_refl _) _).alloc (by simp) _
  have hlp : ((w.alloc (.deferred (some []))).alloc (.loop (rc .ready none))).heap[w.heap.size + 1]? = some (.loop (rc .ready none)) := by
    have e := World.alloc_heap_new (w.alloc (.deferred (some []))) (.loop (rc .ready none))
    rwa [World.size_alloc] at e
  have hdf : ((w.alloc (.deferred (some []))).alloc (.loop (rc .ready none))).heap[w.heap.size]? = some (.deferred (some [])) :=
    (Below.heap_alloc _ _ _ (by simp)).trans (World.alloc_heap_new w _)
  have henter := run_enterLoop_outer (P := Tryd.prog) (w := w) fn a.tmps ps assign body
  rw [show ({ state := .ready, pending := none, fn, tmps := a.tmps, params := ps, assign, body, defers := w.heap.size } : Loop) = rc .ready none by rw [hrc]] at henter
  generalize (w.alloc (.deferred (some []))).alloc (.loop (rc .ready none)) = W1 at hlay hlp hdf henter
  refine ⟨w.heap.size + 1, [{ target := .collected w.heap.size, args := #[] }], W1, { target := .fn (.func 47) #[.pointer (some ⟨Bs, 0, none⟩)], args := #[.func (.yield (w.heap.size + 1)) #[] #[]] }, W1, 47,
    #[.func (.yield (w.heap.size + 1)) #[] #[], .pointer (some ⟨Bs, 0, none⟩)], W1, henter, ?_, fun _ _ => trivial, ?_, fun _ => by omega, ?_⟩
  · simp only [resolve, hg]
    simp [go_sem]
  · have e47 := enters_of Tryd.func47 (by kernel_rfl) rfl
    simp [invoke, go_sem, e47]
  · refine (each1_in (m - 1) (by omega) (w.heap.size + 1) Bs s0 hs
      (fun r W => I r W ∧ W.heap[w.heap.size + 1]? = some (.loop (rc .ready none)) ∧ W.heap[w.heap.size]? = some (.deferred (some [])))
      (fun W => X W ∧ W.heap[w.heap.size + 1]? = some (.loop (rc .done (some .ret))) ∧ W.heap[w.heap.size]? = some (.deferred (some [])))
      (fun r W h => hIT r W h.1)
      ?_ W1 ⟨hIb _ _ _ h0 hlay, hlp, hdf⟩).mono ?_
    · rintro ⟨x, y⟩ r W ⟨hi, hl, hd⟩ hx0 hx1
      have hlt := (Array.getElem?_eq_some_iff.1 hl).1
      have hy := run_yield (P := Tryd.prog) (args := #[.int .i64 x, .string y]) hl (by rw [hrc]; exact hps.symm)
      rw [hrc] at hy
      refine ⟨fn, _, assign, body, hy, roundIn_of_wpIn hfn (hassign _ x y W _ ⟨_, run_beginRound hl (hst _ _), ?_⟩)⟩
      rw [hup1]
      have hl2 : (W.putObj (w.heap.size + 1) (.loop (rc .busy none))).heap[w.heap.size + 1]? = some (.loop (rc .busy none)) := World.putObj_heap_same hlt
      have hd2 : (W.putObj (w.heap.size + 1) (.loop (rc .busy none))).heap[w.heap.size]? = some (.deferred (some [])) := (World.putObj_heap_other (by omega)).trans hd
      refine wpIn_mono (hbody _ x y r _ (hIp _ _ _ _ _ hi (by omega) hl rfl) hx0 hx1) ?_
      intro e a3 W3 hp
      cases e with
      | normal =>
        obtain ⟨k1, k3⟩ := hp
        have hl3 := k1.same _ _ (by omega) hl2 rfl
        have hd3 := k1.same _ _ (Nat.le_refl _) hd2 rfl
        have hend := run_endRound (P := Tryd.prog) none hl3
        rw [hup] at hend
        exact ⟨_, _, hend, .inl ⟨rfl, hIp _ _ _ _ _ k3 (by omega) hl3 rfl, World.putObj_heap_same (Array.getElem?_eq_some_iff.1 hl3).1, (World.putObj_heap_other (by omega)).trans hd3⟩⟩
      | ret =>
        obtain ⟨k1, k3⟩ := hp
        have hl3 := k1.same _ _ (by omega) hl2 rfl
        have hd3 := k1.same _ _ (Nat.le_refl _) hd2 rfl
        have hend := run_endRound (P := Tryd.prog) (some .ret) hl3
        rw [hup] at hend
        exact ⟨_, _, hend, .inr ⟨rfl, hXp _ _ _ _ k3 (by omega) hl3 rfl, World.putObj_heap_same (Array.getElem?_eq_some_iff.1 hl3).1, (World.putObj_heap_other (by omega)).trans hd3⟩⟩
      | exit id => exact hp.elim
      | goto t => exact hp.elim
      | panic ch => exact hp.elim
      | outgrown => exact hp.elim
    · rintro e W2 ⟨⟨v, rfl⟩, (⟨hi, hl, hd⟩ | ⟨hx, hl, hd⟩)⟩
      · have hend := run_endLoop (P := Tryd.prog) hl (by rw [hst]; simp)
        rw [hpd] at hend
        exact ⟨none, _, hend, hdone _ _ (Nat.le_refl _) (hIp _ _ _ _ _ hi (by omega) hl rfl) ((World.putObj_heap_other (by omega)).trans hd)⟩
      · have hend := run_endLoop (P := Tryd.prog) hl (by rw [hst]; simp)
        rw [hpd] at hend
        exact ⟨some .ret, _, hend, hstop _ _ (Nat.le_refl _) (hXp _ _ _ _ hx (by omega) hl rfl) ((World.putObj_heap_other (by omega)).trans hd)⟩
end Go.Proofs.YtifcpamliidabaaDoor.HandLine

/- The items of a text: what script.Parse makes. No condition beyond what the plain function tells. -/
set_option linter.unusedSimpArgs false
set_option linter.unusedVariables false
namespace Go.Proofs.YtifcpamliidabaaDoor.HandParse
open Go.RowKit Go.Shelf Go.Proofs.YtifcpamliidabaaDoorW.PrintWords Go.Proofs.YtifcpamliidabaaDoorW.PrintLast Go.Proofs.YtifcpamliidabaaDoorW.PrintMore Go.Proofs.YtifcpamliidabaaDoor.PS Go.Proofs.YtifcpamliidabaaDoor.HandKind Go.Proofs.YtifcpamliidabaaDoor.HandRd Go.Proofs.YtifcpamliidabaaDoor.HandOpM Go.Proofs.YtifcpamliidabaaDoor.HandItem Go.Proofs.YtifcpamliidabaaDoor.HandLine Go.Proofs.YtifcpamliidabaaDoor.HandOp
attribute [local go_sem] Oper.semAt_some wide_fn wide_depth round_fn round_depth
set_option maxRecDepth 100000 in
set_option maxHeartbeats 1000000 in
theorem lines_in (m : Nat) (s : ByteArray) (w : World) :
    CallsIn Fence.wide m Tryd.prog 28 #[.string s] w fun e w' => e = .returned (.func (.func 47) #[] #[.pointer (some ⟨w.heap.size, 0, none⟩)]) ∧ w' = w.alloc (.cells #[.string s] 9) := by
  refine callsIn_of_wp Tryd.func28 rfl trivial ?_ rfl
  simp only [Tryd.ntmps28, List.size_toArray, List.length_cons, List.length_nil, Nat.reduceAdd, Nat.reduceSub, Array.replicate_succ, Array.replicate_zero, List.push_toArray, List.append_toArray, List.nil_append, List.cons_append]
  gi_wp2
  go_ret
  exact ⟨rfl, rfl⟩
/-- The items' cells. -/
def itc (l : List S51) : List Value := l.flatMap fun x => [.int .i64 x.f0, .int .i64 x.f1, .int .i64 x.f2.f0, .int .i64 x.f2.f1, .string x.f2.f2]
theorem itc_length (l : List S51) : (itc l).length = l.length * 5 := by
  induction l with
  | nil => rfl
  | cons x l ih => simp only [itc, List.flatMap_cons, List.length_append, List.length_cons, List.length_nil] at ih ⊢; omega
theorem itc_append (l m : List S51) : itc (l ++ m) = itc l ++ itc m := by simp [itc]
theorem itc_drop (l : List S51) : ∀ (j : Nat) (x : S51), l[j]? = some x → ((itc l).drop (j * 5)).take 5 = [.int .i64 x.f0, .int .i64 x.f1, .int .i64 x.f2.f0, .int .i64 x.f2.f1, .string x.f2.f2] := by
  induction l with
  | nil => intro j x h; simp at h
  | cons y l ih =>
    intro j x h
    cases j with
    | zero =>
      simp only [List.getElem?_cons_zero, Option.some.injEq] at h
      subst h
      rfl
    | succ j =>
      rw [List.getElem?_cons_succ] at h
      rw [show (j + 1) * 5 = j * 5 + 5 by omega]
      exact ih j x h
/-- What the lines that are left make of the items so far: all items; what is wrong first, and where. -/
def foldF (k : Nat) : List (Int × ByteArray) → List S51 → Option (List S51 × Int × Int)
  | [], acc => some (acc, 0, 0)
  | (x, y) :: r, acc => (itemF k y 0 0 0).bind fun it =>
    if it.2.2.2.2.2.2.2.1 ≠ 0 then (if 0 ≤ it.2.2.2.2.2.2.2.2 ∧ it.2.2.2.2.2.2.2.2 ≤ 1000000 then some ([], it.2.2.2.2.2.2.2.1, x + it.2.2.2.2.2.2.2.2) else none)
    else if acc.length < 1000000 then foldF k r (if it.2.2.2.2.2.1 then acc ++ [⟨it.1, it.2.1, ⟨it.2.2.1, it.2.2.2.1, it.2.2.2.2.1⟩⟩] else acc) else none
/-- Between two rounds of the loop; and where it was left. -/
structure PAt (w0 : World) (k : Nat) (s : ByteArray) (T : List S51 × Int × Int) (r : List (Int × ByteArray)) (W : World) : Prop where
  box : ∃ v acc, Boxed W (w0.heap.size + 1 + 1) 23 v ∧ W.ownsRow w0.heap.size 51 5 v acc.length (itc acc) ∧ foldF k r acc = some T
  text : Boxed W (w0.heap.size + 1 + 1 + 1) 9 (.string s)
  r2 : Boxed W w0.heap.size 23 (.slice none 0 0)
  r3 : W.heap[w0.heap.size + 1]? = some (.cells #[.int .i64 0, .int .i64 0] 26 (0, 0))
  below : Below w0.heap.size w0 W
structure PEx (w0 : World) (T : List S51 × Int × Int) (W : World) : Prop where
  r2 : Boxed W w0.heap.size 23 (.slice none 0 0)
  r3 : W.heap[w0.heap.size + 1]? = some (.cells #[.int .i64 T.2.1, .int .i64 T.2.2] 26 (0, 0))
  none : T.1 = []
  below : Below w0.heap.size w0 W
theorem blk_under {W W' : World} {B : Nat} {o : Obj} (h : W.heap[B]? = some o) (hb : Below W.heap.size W W') : W'.heap[B]? = some o := (hb.block B (blk_lt h)).trans h
theorem PAt.under {w0 : World} {k : Nat} {s : ByteArray} {T : List S51 × Int × Int} {r : List (Int × ByteArray)} {W W' : World} (h : PAt w0 k s T r W) (hb : Below W.heap.size W W') : PAt w0 k s T r W' := by
  obtain ⟨v, acc, hv, hr, hf⟩ := h.box
  exact ⟨⟨v, acc, box_under hv hb, hr.kept (grown_of_below hb none) (by cases v.ownBlock <;> simp), hf⟩, box_under h.text hb, box_under h.r2 hb, blk_under h.r3 hb, below_then h.below h.below.size hb⟩
theorem far_put {W : World} {k B : Nat} {o o' o2 : Obj} (h : W.heap[B]? = some o2) (hc : o2.isCells = true) (hk : W.heap[k]? = some o) (ho : o.isCells = false) : (W.putObj k o').heap[B]? = some o2 := by
  have hne : B ≠ k := by
    rintro rfl
    rw [h] at hk
    cases hk
    rw [hc] at ho
    cases ho
  exact (World.putObj_heap_other hne).trans h
theorem PAt.put {w0 : World} {k : Nat} {s : ByteArray} {T : List S51 × Int × Int} {r : List (Int × ByteArray)} {W : World} {j : Nat} {o o' : Obj} (h : PAt w0 k s T r W) (hk : w0.heap.size ≤ j) (ho : W.heap[j]? = some o) (hc : o.isCells = false) : PAt w0 k s T r (W.putObj j o') := by
  obtain ⟨v, acc, hv, hr, hf⟩ := h.box
  exact ⟨⟨v, acc, far_put hv rfl ho hc, ownsRow_putObj hr o' ho hc, hf⟩, far_put h.text rfl ho hc, far_put h.r2 rfl ho hc, far_put h.r3 rfl ho hc, h.below.grown (grownBy_putObj' W _ _) h.below.size (fun j e => by cases e; exact hk)⟩
theorem PEx.put {w0 : World} {T : List S51 × Int × Int} {W : World} {j : Nat} {o o' : Obj} (h : PEx w0 T W) (hk : w0.heap.size ≤ j) (ho : W.heap[j]? = some o) (hc : o.isCells = false) : PEx w0 T (W.putObj j o') :=
  ⟨far_put h.r2 rfl ho hc, far_put h.r3 rfl ho hc, h.none, h.below.grown (grownBy_putObj' W _ _) h.below.size (fun j e => by cases e; exact hk)⟩
theorem info51' : ∃ i, Tryd.prog.info? 51 = some i ∧ i.zero = some (.agg #[.int .i64 0, .int .i64 0, .int .i64 0, .int .i64 0, .string ⟨#[]⟩]) ∧ i.size = 5 ∧ i.bytes = 48 := by
  obtain ⟨i, h1, h2, h3, h4⟩ := info_parts info51
  exact ⟨i, h1, h2, h3, h4⟩
theorem callsIn_round {F : Fence} {n : Nat} {P : Program} {f : FuncId} {args : Array Value} {w : World} {R : Ending → World → Prop} (l : Nat) (h : CallsIn F n P f args w R) : CallsIn (F.inRound l) n P f args w R := h
/-- The world behind the laying of an item. -/
theorem cell_five_new (w : World) (B : Nat) (hB : B = w.heap.size) (a b c d e : Value) (t : TypeId) : ∀ j u, [a, b, c, d, e][j]? = some u → (w.alloc (.cells #[a, b, c, d, e] t)).cell? ((⟨B, 0, none⟩ : Addr).add j) = some u := by
  subst hB
  intro j u hj
  match j, hj with
  | 0, hj => simp at hj; subst hj; simp [Addr.add]
  | 1, hj => simp at hj; subst hj; simp [Addr.add]
  | 2, hj => simp at hj; subst hj; simp [Addr.add]
  | 3, hj => simp at hj; subst hj; simp [Addr.add]
  | 4, hj => simp at hj; subst hj; simp [Addr.add]
  | j + 5, hj => simp at hj
theorem keeps_below {B : Nat} {W W' : World} (h : Below W.heap.size W W') : KeepsFrom B W W' := ⟨h.size, fun k o _ hk _ => (h.block k (blk_lt hk)).trans hk⟩
theorem blk_not_row {W : World} {B : Nat} {t e : TypeId} {cs : Array Value} (h : W.heap[B]? = some (.cells cs t (0, 0))) (hte : t ≠ e) {base size k : Nat} {v : Value} {xs : List Value} (hr : W.ownsRow base e size v k xs) : some B ≠ v.ownBlock := by
  rcases hr.2 with ⟨rfl, _⟩ | ⟨g, cap, cur, rfl, _, hgb, _⟩
  · simp [Value.ownBlock]
  · intro e'
    simp only [Value.ownBlock, Option.some.injEq] at e'
    subst e'
    rw [h] at hgb
    simp only [Option.some.injEq, Obj.cells.injEq] at hgb
    exact hte hgb.2.1
theorem results_parse {tmps : Array Value} {w : World} {R2 R3 : Nat} {v x y : Value} (hp2 : tmps.getD 2 undef = .pointer (some ⟨R2, 0, none⟩)) (hp3 : tmps.getD 3 undef = .pointer (some ⟨R3, 0, none⟩)) (hb2 : Boxed w R2 23 v) (hb3 : w.heap[R3]? = some (.cells #[x, y] 26 (0, 0))) :
    (results Tryd.f9 tmps).run Tryd.prog w = .ok (.tuple #[v, .agg #[x, y]]) w := by
  have hp2' : tmps[2]?.getD undef = .pointer (some ⟨R2, 0, none⟩) := by simpa using hp2
  have hp3' : tmps[3]?.getD undef = .pointer (some ⟨R3, 0, none⟩) := by simpa using hp3
  have hc := hb2.cell
  have hf := hb2.frozen
  have hr : Tryd.f9.results = #[ResultVar.cell 2 23, ResultVar.cell 3 26] := rfl
  have hu : Tryd.prog.underlying 23 = some (.slice 51) := Tryd.underlying23
  have h3 : (loadVar 26 ⟨R3, 0, none⟩).run Tryd.prog w = .ok (.agg #[x, y]) w := run_loadVar_row w R3 26 26 #[x, y] (0, 0) _ hb3 Tryd.underlying26 rfl (by kernel_rfl)
  have h2 : (loadVar 23 ⟨R2, 0, none⟩).run Tryd.prog w = .ok v w := by simp [loadVar, isAgg, hu, hc, go_sem]
  simp [results, hr, hp2', hp3', asAddr, h2, h3]
theorem row_far {W : World} {B : Nat} {t e : TypeId} {cs : Array Value} {base size k : Nat} {v : Value} {xs : List Value} (hr : W.ownsRow base e size v k xs) (h : W.heap[B]? = some (.cells cs t (0, 0))) (hte : t ≠ e) (i : Nat) (u : Value) : (W.setCell ⟨B, i, none⟩ u).ownsRow base e size v k xs :=
  hr.kept ⟨rfl, rfl, rfl, (KeepsWalks.setCell W _ u).size, fun k _ hk => Below.heap_setCell _ _ _ k (fun e => hk (by rw [e]))⟩ (.inr (blk_not_row h hte hr).symm)
theorem app_bound {n : Nat} (h : n < 1000000) : n + 1 ≤ maxLen := by unfold maxLen; omega
set_option maxRecDepth 100000 in
set_option maxHeartbeats 4000000 in
theorem parse_in (m : Nat) (hm : 4 ≤ m) (k : Nat) (s : ByteArray) (hs : s.size ≤ 65536) (T : List S51 × Int × Int) (hT : foldF k (linesU s) [] = some T) (w : World) (hG : Names w) :
    CallsIn Fence.wide m Tryd.prog 9 #[.string s] w fun e w' => ∃ v : Value, e = .returned (.tuple #[v, .agg #[.int .i64 T.2.1, .int .i64 T.2.2]]) ∧ w'.ownsRow w.heap.size 51 5 v T.1.length (itc T.1) ∧ Below w.heap.size w w' := by
  obtain ⟨i0, hi, hz0, hz1, hz2⟩ := info51'
  have c0 : decide ((s.size : Int) > 65536) = false := decide_eq_false (by omega)
  have c0' : decide (65536 < (s.size : Int)) = false := decide_eq_false (by omega)
  refine callsIn_of_wp_marks Tryd.func9 rfl trivial ?_ rfl
  simp only [Tryd.ntmps9, List.size_toArray, List.length_cons, List.length_nil, Nat.reduceAdd, Nat.reduceSub, Array.replicate_succ, Array.replicate_zero, List.push_toArray, List.append_toArray, List.nil_append, List.cons_append]
  gi_wp2_with (gi_at_call 28; refine (lines_in _ s _).mono ?_; rintro e w' ⟨rfl, rfl⟩)
  have e1 : Boxed (w.alloc (.cells #[.slice none 0 0] 23)) w.heap.size 23 (.slice none 0 0) := Boxed.new w 23 _
  have e2 : ((w.alloc (.cells #[.slice none 0 0] 23)).alloc (.cells #[.int .i64 0, .int .i64 0] 26)).heap[w.heap.size + 1]? = some (.cells #[.int .i64 0, .int .i64 0] 26 (0, 0)) := by
    have := blk_new (w.alloc (.cells #[.slice none 0 0] 23)) #[.int .i64 0, .int .i64 0] 26
    rwa [World.size_alloc] at this
  have e3 : Boxed (((w.alloc (.cells #[.slice none 0 0] 23)).alloc (.cells #[.int .i64 0, .int .i64 0] 26)).alloc (.cells #[.slice none 0 0] 23)) (w.heap.size + 1 + 1) 23 (.slice none 0 0) := by
    have := Boxed.new ((w.alloc (.cells #[.slice none 0 0] 23)).alloc (.cells #[.int .i64 0, .int .i64 0] 26)) 23 (.slice none 0 0)
    rwa [World.size_alloc, World.size_alloc] at this
  have e4 : Boxed ((((w.alloc (.cells #[.slice none 0 0] 23)).alloc (.cells #[.int .i64 0, .int .i64 0] 26)).alloc (.cells #[.slice none 0 0] 23)).alloc (.cells #[.string s] 9)) (w.heap.size + 1 + 1 + 1) 9 (.string s) := by
    have := Boxed.new (((w.alloc (.cells #[.slice none 0 0] 23)).alloc (.cells #[.int .i64 0, .int .i64 0] 26)).alloc (.cells #[.slice none 0 0] 23)) 9 (.string s)
    rwa [World.size_alloc, World.size_alloc, World.size_alloc] at this
  have hsz : ((((w.alloc (.cells #[.slice none 0 0] 23)).alloc (.cells #[.int .i64 0, .int .i64 0] 26)).alloc (.cells #[.slice none 0 0] 23)).alloc (.cells #[.string s] 9)).heap.size = w.heap.size + 1 + 1 + 1 + 1 := by simp
  refine range47 m (by omega) (w.heap.size + 1 + 1 + 1) s (by omega) rfl rfl (PAt w k s T) (PEx w T)
    (fun r W h => h.text) (fun r W W' h hb => h.under hb) (fun r W k o o' h hk ho hc => h.put (by omega) ho hc) (fun W k o o' h hk ho hc => h.put (by omega) ho hc)
    ⟨⟨_, [], e3.alloc _, World.ownsRow_nil _ _ _ _, hT⟩, e4, ((e1.alloc _).alloc _).alloc _, blk_alloc (blk_alloc e2 _) _, (((((Below.refl _ w).alloc (Nat.le_refl _) _).alloc (by simp) _).alloc (by simp; omega) _).alloc (by simp; omega) _)⟩
    (fun x y => { tmps := #[.string s, undef, .pointer (some ⟨w.heap.size, 0, none⟩), .pointer (some ⟨w.heap.size + 1, 0, none⟩), .pointer (some ⟨w.heap.size + 1 + 1, 0, none⟩), .int .i64 x, .string y, undef, undef, undef, .string s, .int .i64 (s.size : Int), .bool false, undef, .string s, .func (.func 47) #[] #[.pointer (some ⟨w.heap.size + 1 + 1 + 1, 0, none⟩)], .int .i64 x, .string y, undef, undef, undef, undef, undef, undef, undef, undef, undef, undef, undef, undef, undef, undef, undef, undef, undef, undef, undef, undef, undef, undef, undef, undef, undef, undef, undef, undef, undef, undef, undef, undef, undef, undef], defers := [] }) ?assign ?body ?done ?stop
  case assign =>
    intro l x y W K hK
    gi_wp2
    exact hK
  case body =>
    rintro l x y r W h hx0 hx1
    obtain ⟨v, acc, hv, hrow, hfold⟩ := h.box
    rw [foldF] at hfold
    obtain ⟨⟨H, C, K, n, d, is, tt, e1, ea1⟩, hIt, hrest⟩ := Option.bind_eq_some_iff.mp hfold
    dsimp only at hrest
    have HH := Aside0.mk h
    have HIT := Aside0.mk hIt
    have HNM : Aside0 (Names W) := ⟨Kd.C_below hG.1 h.below, Kd.C_below hG.2 h.below⟩
    have HV := Aside0.mk hv
    have HROW := Aside0.mk hrow
    have hl0 : w.heap.size + 1 + 1 < W.heap.size := hv.lt
    have hx2 : x ≤ 1000000 := by omega
    clear h hIt hfold hv hrow e2 e3 e4 hsz
    by_cases he : e1 = 0
    · rw [if_neg (by simp [he])] at hrest
      split at hrest
      · rename_i hacc
        subst he
        have c1 : ((0 : Int) != 0) = false := rfl
        cases is with
        | false =>
          rw [if_neg (by decide)] at hrest
          have HRS := Aside0.mk hrest
          clear hrest
          gi_wp2_with (gi_at_call 29; refine (callsIn_round l (callsIn_wide.2 (item_calls k W.heap.size y 0 0 0 H C K n d false tt 0 ea1 W _ (IsS60.new W W y 0 0 0 (Below.refl _ _)) (below_alloc (Below.refl _ _) _) HNM.out HIT.out))).mono ?_; rintro e W1 ⟨rfl, hI1, hB1, hK1⟩; have HI1 := Aside0.mk hI1; have HB1 := Aside0.mk hB1; have hg2 := cellS60_2 hI1.1; have hg3 := cellS60_3 hI1.1; have hlt := eq_true hI1.lt; have hne1 := eq_false (Nat.ne_of_lt hI1.lt); have hne2 := eq_false (Nat.ne_of_gt hI1.lt); clear hI1 hB1 hK1)
          have HB2 := Aside0.mk (below_then HB1.out HB1.out.size (below_alloc (Below.refl W1.heap.size W1) (.cells #[.int .i64 H, .int .i64 C, .int .i64 K, .int .i64 n, .string d] 51)))
          have HP2 := HH.out.under HB2.out
          exact ⟨keeps_below HB2.out, ⟨v, acc, box_under HV.out HB2.out, HROW.out.kept (grown_of_below HB2.out none) (by cases v.ownBlock <;> simp), HRS.out⟩, HP2.text, HP2.r2, HP2.r3, HP2.below⟩
        | true =>
          rw [if_pos rfl] at hrest
          have HRS := Aside0.mk hrest
          clear hrest
          gi_wp2_with (first | (gi_at_call 29; refine (callsIn_round l (callsIn_wide.2 (item_calls k W.heap.size y 0 0 0 H C K n d true tt 0 ea1 W _ (IsS60.new W W y 0 0 0 (Below.refl _ _)) (below_alloc (Below.refl _ _) _) HNM.out HIT.out))).mono ?_; rintro e W1 ⟨rfl, hI1, hB1, hK1⟩; have HI1 := Aside0.mk hI1; have HB1 := Aside0.mk hB1; have hg2 := cellS60_2 hI1.1; have hg3 := cellS60_3 hI1.1; have hlt := eq_true hI1.lt; have hne1 := eq_false (Nat.ne_of_lt hI1.lt); have hne2 := eq_false (Nat.ne_of_gt hI1.lt); clear hI1 hB1 hK1; have HP1 := Aside0.mk (HH.out.under HB1.out); have HV1 := Aside0.mk (box_under HV.out HB1.out); have hco := HV1.out.cell; have hfo := HV1.out.frozen; have hlo := eq_true HV1.out.lt; have hne3 := eq_false (Nat.ne_of_lt HV1.out.lt); have hne4 := eq_false (Nat.ne_of_gt HV1.out.lt)) | (gi_at_builtin; (have HB2 := Aside0.mk (below_then HB1.out HB1.out.size (below_alloc (Below.refl W1.heap.size W1) (.cells #[.int .i64 H, .int .i64 C, .int .i64 K, .int .i64 n, .string d] 51))); have HP2 := Aside0.mk (HH.out.under HB2.out); have HV2 := Aside0.mk (box_under HV.out HB2.out); have hrow2 : ((W1.alloc (.cells #[.int .i64 H, .int .i64 C, .int .i64 K, .int .i64 n, .string d] 51))).ownsRow w.heap.size 51 5 v acc.length (itc acc) := HROW.out.kept (grown_of_below HB2.out none) (by cases v.ownBlock <;> simp); have hs2 : w.heap.size ≤ ((W1.alloc (.cells #[.int .i64 H, .int .i64 C, .int .i64 K, .int .i64 n, .string d] 51))).heap.size := HP2.out.below.size; have hs1 := HP1.out.below.size; refine wpListIn_append_own _ rfl _ _ 23 rfl w.heap.size 51 i0 _ 5 48 Tryd.underlying23 hi hz0 hz1 hz2 rfl (by decide) v acc.length (itc acc) rfl (hrow2.alloc _) ⟨W1.heap.size + 1, 0, none⟩ 1 1 [.int .i64 H, .int .i64 C, .int .i64 K, .int .i64 n, .string d] rfl rfl (cell_five_new _ _ (World.size_alloc _ _).symm _ _ _ _ _ _) (by simp [Value.oneCell']) (app_bound hacc) (by omega) (by simp; omega) ?_; intro v' w3 hown' hg3' hnil3; clear hnil3; obtain ⟨g', cap, hq⟩ := ownsRow_succ hown'; rw [hq]; rw [hq] at hown'; clear hq; have HA := Aside0.mk (HV2.out.appended (by decide) hrow2 hs2 (by omega) hown' hg3'); have HO := Aside0.mk hown'; have HG := Aside0.mk hg3'; have HR2 := Aside0.mk hrow2; have hc3 := HA.out.1.cell; have hf3 := HA.out.1.frozen; clear hown' hg3' hrow2 hs2 hs1)))
          obtain ⟨a1, a2, a3, a4, a5⟩ := HA.out
          have hgs := grownBy_setCell' w3 (w.heap.size + 1 + 1) (.slice (some ⟨g', 0, none⟩) (acc.length + 1) cap)
          refine ⟨(keeps_below HB2.out).trans (a4.from _), ⟨_, acc ++ [⟨H, C, ⟨K, n, d⟩⟩], a2, ?_, HRS.out⟩, ?_, ?_, ?_, HP2.out.below.trans a5⟩
          · rw [List.length_append, itc_append]
            exact a3
          · exact ((HP2.out.text.alloc _).kept HG.out (HP2.out.text.not_row (by decide) HR2.out)).kept hgs (by intro e_; injection e_ with e_; omega)
          · exact ((HP2.out.r2.alloc _).kept HG.out (HP2.out.r2.not_row (by decide) HR2.out)).kept hgs (by intro e_; injection e_ with e_; omega)
          · exact blk_grown (blk_grown (blk_alloc HP2.out.r3 _) HG.out (blk_not_row HP2.out.r3 (by decide) HR2.out)) hgs (by intro e_; injection e_ with e_; omega)
      · cases hrest
    · rw [if_pos he] at hrest
      split at hrest
      · rename_i hea
        obtain rfl := Option.some.inj hrest
        obtain ⟨hea0, hea1⟩ := hea
        have c1 : (e1 != 0) = true := bne_iff_ne.mpr he
        gi_wp2_with (gi_at_call 29; refine (callsIn_round l (callsIn_wide.2 (item_calls k W.heap.size y 0 0 0 H C K n d is tt e1 ea1 W _ (IsS60.new W W y 0 0 0 (Below.refl _ _)) (below_alloc (Below.refl _ _) _) HNM.out HIT.out))).mono ?_; rintro e W1 ⟨rfl, hI1, hB1, hK1⟩; have HI1 := Aside0.mk hI1; have HB1 := Aside0.mk hB1; have hg2 := cellS60_2 hI1.1; have hg3 := cellS60_3 hI1.1; have hlt := eq_true hI1.lt; have hne1 := eq_false (Nat.ne_of_lt hI1.lt); have hne2 := eq_false (Nat.ne_of_gt hI1.lt); clear hI1 hB1 hK1)
        change Code.wpIn _ _ _ _ _ _ (W1.alloc (.cells #[.int .i64 H, .int .i64 C, .int .i64 K, .int .i64 n, .string d] 51))
        have HB2 := Aside0.mk (below_then HB1.out HB1.out.size (below_alloc (Below.refl W1.heap.size W1) (.cells #[.int .i64 H, .int .i64 C, .int .i64 K, .int .i64 n, .string d] 51)))
        have HI2 := Aside0.mk (HI1.out.below (below_alloc (Below.refl W1.heap.size W1) (.cells #[.int .i64 H, .int .i64 C, .int .i64 K, .int .i64 n, .string d] 51)))
        have hgw := HI1.out.lt
        generalize (W1.alloc (.cells #[.int .i64 H, .int .i64 C, .int .i64 K, .int .i64 n, .string d] 51)) = W2 at HB2 HI2 ⊢
        have HP2 := Aside0.mk (HH.out.under HB2.out)
        clear hg2 hg3 hlt hne1 hne2 HI1 HB1
        have HI3 : Aside0 (IsS60 W (W2.drew.setCell ⟨w.heap.size, 0, none⟩ (.slice none 0 0)) W.heap.size y tt e1 ea1) := ⟨IsS60.far (p := ⟨w.heap.size, 0, none⟩) (IsS60.drew HI2.out) (by show ¬ W.heap.size = w.heap.size; omega) _⟩
        have r2c := HP2.out.r2.cell
        have r2f := HP2.out.r2.frozen
        have r3a : W2.cell? ⟨w.heap.size + 1, 0, none⟩ = some (.int .i64 0) := (blk_cell HP2.out.r3 0).trans rfl
        have r3b : W2.cell? ⟨w.heap.size + 1, 1, none⟩ = some (.int .i64 0) := (blk_cell HP2.out.r3 1).trans rfl
        have r3f := blk_frozen HP2.out.r3 0
        have r3g := blk_frozen HP2.out.r3 1
        have hq1 : (w.heap.size = w.heap.size + 1) = False := eq_false (by omega)
        have hq2 : (w.heap.size + 1 = w.heap.size) = False := eq_false (by omega)
        refine startIn_ (n := 15) (S := fun w' => w'.cell? ⟨W.heap.size, 2, none⟩ = some (.int .i64 e1) ∧ w'.cell? ⟨W.heap.size, 3, none⟩ = some (.int .i64 ea1)) (ds := [14]) #[false, false, false, false, false, false, false, false, false, false, false, false, false, false, false] (fun _ _ h => h) (by kernel_rfl) (by kernel_rfl) rfl rfl ⟨cellS60_2 HI2.out.1, cellS60_3 HI2.out.1⟩ (fun hHeld => ?_)
        have hh := hHeld
        refine pure_ (i := 0) (N := some 32) (v := ?_) (a' := ?_) #[true, false, false, false, false, false, false, false, false, false, false, false, false, false, false] rfl rfl (by kernel_rfl) (fun _ _ _ h => h) (Or.inl ⟨by rfl, ?_⟩) ?_ ?_
        rotate_left
        · intro w'
          go_simp
          with_reducible rfl
        rotate_left
        · simp only [Act.put, List.setIfInBounds_toArray, List.set_cons_zero, List.set_cons_succ, i64_w, i32_w]
          rfl
        refine pure_ (i := 1) (N := some 33) (v := ?_) (a' := ?_) #[true, true, false, false, false, false, false, false, false, false, false, false, false, false, false] rfl rfl (by kernel_rfl) (fun _ _ _ h => h) (Or.inl ⟨by rfl, ?_⟩) ?_ ?_
        rotate_left
        · intro w'
          go_simp
          with_reducible rfl
        rotate_left
        · simp only [Act.put, List.setIfInBounds_toArray, List.set_cons_zero, List.set_cons_succ, i64_w, i32_w]
          rfl
        refine pure_ (i := 2) (N := some 34) (v := ?_) (a' := ?_) #[true, true, true, false, false, false, false, false, false, false, false, false, false, false, false] rfl rfl (by kernel_rfl) (fun _ _ _ h => h) (Or.inl ⟨by rfl, ?_⟩) ?_ ?_
        rotate_left
        · intro w'
          go_simp
          with_reducible rfl
        rotate_left
        · simp only [Act.put, List.setIfInBounds_toArray, List.set_cons_zero, List.set_cons_succ, i64_w, i32_w]
          rfl
        refine pure_ (i := 3) (N := some 35) (v := ?_) (a' := ?_) #[true, true, true, true, false, false, false, false, false, false, false, false, false, false, false] rfl rfl (by kernel_rfl) (fun _ _ _ h => h) (Or.inl ⟨by rfl, ?_⟩) ?_ ?_
        rotate_left
        · intro w'
          go_simp
          with_reducible rfl
        rotate_left
        · simp only [Act.put, List.setIfInBounds_toArray, List.set_cons_zero, List.set_cons_succ, i64_w, i32_w]
          rfl
        refine pure_ (i := 5) (N := some 37) (v := ?_) (a' := ?_) #[true, true, true, true, false, true, false, false, false, false, false, false, false, false, false] rfl rfl (by kernel_rfl) (fun _ _ _ h => h) (Or.inl ⟨by rfl, ?_⟩) ?_ ?_
        rotate_left
        · intro w'
          go_simp
          with_reducible rfl
        rotate_left
        · simp only [Act.put, List.setIfInBounds_toArray, List.set_cons_zero, List.set_cons_succ, i64_w, i32_w]
          rfl
        refine pure_ (i := 6) (N := some 38) (v := ?_) (a' := ?_) #[true, true, true, true, false, true, true, false, false, false, false, false, false, false, false] rfl rfl (by kernel_rfl) (fun _ _ _ h => h) (Or.inl ⟨by rfl, ?_⟩) ?_ ?_
        rotate_left
        · intro w'
          go_simp
          with_reducible rfl
        rotate_left
        · simp only [Act.put, List.setIfInBounds_toArray, List.set_cons_zero, List.set_cons_succ, i64_w, i32_w]
          rfl
        refine pure_ (i := 7) (N := some 39) (v := ?_) (a' := ?_) #[true, true, true, true, false, true, true, true, false, false, false, false, false, false, false] rfl rfl (by kernel_rfl) (fun _ _ _ h => h) (Or.inl ⟨by rfl, ?_⟩) ?_ ?_
        rotate_left
        · intro w'
          go_simp
          with_reducible rfl
        rotate_left
        · simp only [Act.put, List.setIfInBounds_toArray, List.set_cons_zero, List.set_cons_succ, i64_w, i32_w]
          rfl
        refine pure_ (i := 8) (N := some 40) (v := ?_) (a' := ?_) #[true, true, true, true, false, true, true, true, true, false, false, false, false, false, false] rfl rfl (by kernel_rfl) (fun _ _ _ h => h) (Or.inl ⟨by rfl, ?_⟩) ?_ ?_
        rotate_left
        · intro w'
          go_simp
          with_reducible rfl
        rotate_left
        · simp only [Act.put, List.setIfInBounds_toArray, List.set_cons_zero, List.set_cons_succ, i64_w, i32_w]
          rfl
        refine pure_ (i := 9) (N := some 41) (v := ?_) (a' := ?_) #[true, true, true, true, false, true, true, true, true, true, false, false, false, false, false] rfl rfl (by kernel_rfl) (fun _ _ _ h => h) (Or.inl ⟨by rfl, ?_⟩) ?_ ?_
        rotate_left
        · intro w'
          go_simp
          with_reducible rfl
        rotate_left
        · simp only [Act.put, List.setIfInBounds_toArray, List.set_cons_zero, List.set_cons_succ, i64_w, i32_w]
          rfl
        refine take_ (i := 4) (N := some 36) (v := ?_) (a' := ?_) #[true, true, true, true, true, true, true, true, true, true, false, false, false, false, false] rfl rfl (by kernel_rfl) (fun _ _ _ h => h) (Or.inl ⟨by rfl, ?_⟩) hHeld ?_ ?_
        rotate_left
        · rintro w' ⟨s0, s1⟩
          go_simp
          with_reducible rfl
        rotate_left
        · simp only [Act.put, List.setIfInBounds_toArray, List.set_cons_zero, List.set_cons_succ, i64_w, i32_w]
          rfl
        refine take_ (i := 10) (N := some 42) (v := ?_) (a' := ?_) #[true, true, true, true, true, true, true, true, true, true, true, false, false, false, false] rfl rfl (by kernel_rfl) (fun _ _ _ h => h) (Or.inl ⟨by rfl, ?_⟩) hHeld ?_ ?_
        rotate_left
        · rintro w' ⟨s0, s1⟩
          go_simp
          with_reducible rfl
        rotate_left
        · simp only [Act.put, List.setIfInBounds_toArray, List.set_cons_zero, List.set_cons_succ, i64_w, i32_w]
          rfl
        refine pure_ (i := 11) (N := some 43) (v := ?_) (a' := ?_) #[true, true, true, true, true, true, true, true, true, true, true, true, false, false, false] rfl rfl (by kernel_rfl) (fun _ _ _ h => h) (Or.inl ⟨by rfl, ?_⟩) ?_ ?_
        rotate_left
        · intro w'
          go_simp
          with_reducible rfl
        rotate_left
        · simp only [Act.put, List.setIfInBounds_toArray, List.set_cons_zero, List.set_cons_succ, i64_w, i32_w]
          rfl
        refine pure_ (i := 12) (N := some 44) (v := ?_) (a' := ?_) #[true, true, true, true, true, true, true, true, true, true, true, true, true, false, false] rfl rfl (by kernel_rfl) (fun _ _ _ h => h) (Or.inl ⟨by rfl, ?_⟩) ?_ ?_
        rotate_left
        · intro w'
          go_simp
          with_reducible rfl
        rotate_left
        · simp only [Act.put, List.setIfInBounds_toArray, List.set_cons_zero, List.set_cons_succ, i64_w, i32_w]
          rfl
        refine one_ (i := 13) (N := none) #[true, true, true, true, true, true, true, true, true, true, true, true, true, true, false] rfl rfl (by kernel_rfl) (by decide) (fun K hK => ?_)
        refine skip_ (w1 := ?_) (by rfl) rfl ?_ ?_
        rotate_left
        · go_simp
          rfl
        refine hK.out _ _ ⟨cellS60_2 HI3.out.1, cellS60_3 HI3.out.1⟩ (fun hHeld => ?_)
        clear hK K
        refine last_ (i := 14) (N := none) #[true, true, true, true, true, true, true, true, true, true, true, true, true, true, true] rfl rfl (by kernel_rfl) (by decide) (fun K hK => ?_)
        refine skip_ (w1 := ?_) (by rfl) rfl ?_ ?_
        rotate_left
        · go_simp
          rfl
        refine hK.out _ _ ?_
        clear hK K
        refine done_ (by kernel_rfl) ?_

        gi_wp2_with fail
        have hq0 : w.heap.size ≠ w.heap.size + 1 := by omega
        have hwr : wrap64 (x + ea1) = x + ea1 := by unfold wrap64; omega
        rw [hwr]
        have h0 := HP2.out.below
        have hB4 := (below_set (j := 1) (v := .int .i64 (x + ea1)) (below_set (j := 0) (v := .int .i64 e1) (below_set (j := 0) (v := .slice none 0 0) h0 (Nat.le_refl _)) (Nat.le_succ _)) (Nat.le_succ _))
        have hk := (((KeepsOthers.setCell W2 ⟨w.heap.size, 0, none⟩ (.slice none 0 0)).trans (KeepsOthers.setCell _ ⟨w.heap.size + 1, 0, none⟩ (.int .i64 e1))).trans (KeepsOthers.setCell _ ⟨w.heap.size + 1, 1, none⟩ (.int .i64 (x + ea1))))
        have hr2 : Boxed ((((W2.setCell ⟨w.heap.size, 0, none⟩ (.slice none 0 0)).setCell ⟨w.heap.size + 1, 0, none⟩ (.int .i64 e1)).setCell ⟨w.heap.size + 1, 1, none⟩ (.int .i64 (x + ea1)))) w.heap.size 23 (.slice none 0 0) :=
          blk_far (p := ⟨w.heap.size + 1, 1, none⟩) (blk_far (p := ⟨w.heap.size + 1, 0, none⟩) (HP2.out.r2.set (.slice none 0 0)) hq0 _) hq0 _
        have hr3 := blk_set (blk_set (blk_far (p := ⟨w.heap.size, 0, none⟩) HP2.out.r3 hq0.symm (.slice none 0 0)) 0 (.int .i64 e1)) 1 (.int .i64 (x + ea1))
        exact ⟨((keeps_below HB2.out).trans (hk.from _)).trans (keeps_below (below_drew (Below.refl _ _))), hr2, hr3, rfl, below_drew hB4⟩
      · cases hrest
  case done =>
    intro D W hD h hK
    rw [hsz] at hD
    obtain ⟨v, acc, hv, hrow, hfold⟩ := h.box
    rw [foldF] at hfold
    obtain rfl := Option.some.inj hfold
    have hc := hv.cell
    have hf := hv.frozen
    have r2c := h.r2.cell
    have r2f := h.r2.frozen
    have r3a : W.cell? ⟨w.heap.size + 1, 0, none⟩ = some (.int .i64 0) := (blk_cell h.r3 0).trans rfl
    have r3b : W.cell? ⟨w.heap.size + 1, 1, none⟩ = some (.int .i64 0) := (blk_cell h.r3 1).trans rfl
    have r3f := blk_frozen h.r3 0
    have r3g := blk_frozen h.r3 1
    have hq1 : (w.heap.size = w.heap.size + 1) = False := eq_false (by omega)
    have hq2 : (w.heap.size + 1 = w.heap.size) = False := eq_false (by omega)
    have HROW := Aside0.mk hrow
    have HH := Aside0.mk h
    have HK := Aside0.mk hK
    obtain ⟨A, n', c', rfl⟩ : ∃ A n c, v = .slice A n c := by
      rcases hrow.2 with ⟨rfl, _⟩ | ⟨g, cap, cur, rfl, _⟩
      · exact ⟨_, _, _, rfl⟩
      · exact ⟨_, _, _, rfl⟩
    clear hv h hrow hK e1 e2 e3 e4 hT hfold
    gi_wp2
    have hq0 : w.heap.size ≠ w.heap.size + 1 := by omega
    have h0 := HH.out.below
    have hB4 := (below_set (j := 1) (v := .int .i64 0) (below_set (j := 0) (v := .int .i64 0) (below_set (j := 0) (v := .slice A n' c') h0 (Nat.le_refl _)) (Nat.le_succ _)) (Nat.le_succ _))
    have hr2 : Boxed ((((W.setCell ⟨w.heap.size, 0, none⟩ (.slice A n' c')).setCell ⟨w.heap.size + 1, 0, none⟩ (.int .i64 0)).setCell ⟨w.heap.size + 1, 1, none⟩ (.int .i64 0))) w.heap.size 23 (.slice A n' c') :=
      blk_far (p := ⟨w.heap.size + 1, 1, none⟩) (blk_far (p := ⟨w.heap.size + 1, 0, none⟩) (HH.out.r2.set (.slice A n' c')) hq0 _) hq0 _
    have hr3 := blk_set (blk_set (blk_far (p := ⟨w.heap.size, 0, none⟩) HH.out.r3 hq0.symm (.slice A n' c')) 0 (.int .i64 0)) 1 (.int .i64 0)
    have hd : ((((W.setCell ⟨w.heap.size, 0, none⟩ (.slice A n' c')).setCell ⟨w.heap.size + 1, 0, none⟩ (.int .i64 0)).setCell ⟨w.heap.size + 1, 1, none⟩ (.int .i64 0))).heap[D]? = some (.deferred (some [])) :=
      (((Below.heap_setCell _ _ _ _ (by show D ≠ w.heap.size + 1; omega)).trans (Below.heap_setCell _ _ _ _ (by show D ≠ w.heap.size + 1; omega))).trans (Below.heap_setCell _ _ _ _ (by show D ≠ w.heap.size; omega))).trans HK.out
    have hrw := row_far (row_far (row_far HROW.out HH.out.r2 (by decide) 0 (.slice A n' c')) (blk_far (p := ⟨w.heap.size, 0, none⟩) HH.out.r3 hq0.symm (.slice A n' c')) (by decide) 0 (.int .i64 0)) (blk_set (blk_far (p := ⟨w.heap.size, 0, none⟩) HH.out.r3 hq0.symm (.slice A n' c')) 0 (.int .i64 0)) (by decide) 1 (.int .i64 0)
    refine ⟨by simp, .inl ⟨_, _, rfl, run_takeDeferred hd, ?_⟩⟩
    exact ⟨_, results_parse rfl rfl (far_put hr2 rfl hd rfl) (far_put hr3 rfl hd rfl), _, rfl, ownsRow_putObj hrw _ hd rfl, hB4.grown (grownBy_putObj' _ _ _) hB4.size (fun k e => by cases e; omega)⟩
  case stop =>
    intro D W hD h hK
    rw [hsz] at hD
    have HH := Aside0.mk h
    have HK := Aside0.mk hK
    clear h hK e1 e2 e3 e4 hT
    gi_wp2
    refine ⟨by simp, .inl ⟨_, _, rfl, run_takeDeferred HK.out, ?_⟩⟩
    refine ⟨_, results_parse rfl rfl (far_put HH.out.r2 rfl HK.out rfl) (far_put HH.out.r3 rfl HK.out rfl), _, rfl, ?_, HH.out.below.grown (grownBy_putObj' _ _ _) HH.out.below.size (fun k e => by cases e; omega)⟩
    rw [HH.out.none]
    exact World.ownsRow_nil _ _ _ _
set_option maxRecDepth 100000 in
set_option maxHeartbeats 2000000 in
theorem parse_big (m : Nat) (s : ByteArray) (hs : ¬ s.size ≤ 65536) (hs2 : s.size < 9223372036854775808) (w : World) :
    CallsIn Fence.wide m Tryd.prog 9 #[.string s] w fun e w' => e = .returned (.tuple #[.slice none 0 0, .agg #[.int .i64 6, .int .i64 0]]) ∧ Below w.heap.size w w' := by
  have c0 : decide ((s.size : Int) > 65536) = true := decide_eq_true (by omega)
  have c0' : decide (65536 < (s.size : Int)) = true := decide_eq_true (by omega)
  have hq1 : (w.heap.size = w.heap.size + 1) = False := eq_false (by omega)
  have hq2 : (w.heap.size + 1 = w.heap.size) = False := eq_false (by omega)
  refine callsIn_of_wp Tryd.func9 rfl trivial ?_ rfl
  simp only [Tryd.ntmps9, List.size_toArray, List.length_cons, List.length_nil, Nat.reduceAdd, Nat.reduceSub, Array.replicate_succ, Array.replicate_zero, List.push_toArray, List.append_toArray, List.nil_append, List.cons_append]
  gi_wp2
  have h2 : Boxed ((w.alloc (.cells #[.slice none 0 0] 23)).alloc (.cells #[.int .i64 6, .int .i64 0] 26)) w.heap.size 23 (.slice none 0 0) := (Boxed.new w 23 _).alloc _
  have h3 : ((w.alloc (.cells #[.slice none 0 0] 23)).alloc (.cells #[.int .i64 6, .int .i64 0] 26)).heap[w.heap.size + 1]? = some (.cells #[.int .i64 6, .int .i64 0] 26 (0, 0)) := by
    have := blk_new (w.alloc (.cells #[.slice none 0 0] 23)) #[.int .i64 6, .int .i64 0] 26
    rwa [World.size_alloc] at this
  exact bodyPost_ret (results_parse rfl rfl h2 h3) rfl ⟨rfl, below_alloc (below_alloc (Below.refl _ _) _) _⟩
/-! ### as the printed texts want it told -/
theorem row_of_items {W : World} {base : Nat} {v : Value} {l : List S51} (h : W.ownsRow base 51 5 v l.length (itc l)) : Kd.R k51 51 W base (fun _ => True) v l := by
  refine ⟨fun _ _ => trivial, itc l, h, ⟨by rw [itc_length]; rfl, fun j p hp => ?_⟩⟩
  have e := itc_drop l j p hp
  show k51.M W base _ p (((itc l).drop (j * 5)).take 5)
  rw [e]
  exact k51_mkM W base _ p
def script_Parse.f (k : Nat) (s : ByteArray) : Option (List S51 × Int × Int) := if s.size ≤ 65536 then foldF k (linesU s) [] else if s.size < 9223372036854775808 then some ([], 6, 0) else none
theorem script_Parse.calls (k : Nat) (a0 : ByteArray) (r1 : List S51) (r2 : Int) (r3 : Int) (w : World) (hrG0 : Kd.C Kd.string w (some ⟨0, 0, none⟩) tab_script_names.length tab_script_names) (hrG1 : Kd.C Kd.string w (some ⟨1, 0, none⟩) tab_script_heads.length tab_script_heads) (h : script_Parse.f k a0 = some (r1, r2, r3)) :
    Calls Tryd.prog 9 #[.string a0] w fun e w' => ∃ v0_ : Value, e = .returned (.tuple #[v0_, .agg #[.int .i64 r2, .int .i64 r3]]) ∧ Kd.R k51 51 w' w.heap.size (fun _ => True) v0_ r1 ∧ Below w.heap.size w w' := by
  unfold script_Parse.f at h
  by_cases hs : a0.size ≤ 65536
  · rw [if_pos hs] at h
    refine (callsIn_wide.1 (parse_in 9 (by omega) k a0 hs _ h w ⟨hrG0, hrG1⟩)).mono ?_
    rintro e w' ⟨v, rfl, hr, hb⟩
    exact ⟨v, rfl, row_of_items hr, hb⟩
  · rw [if_neg hs] at h
    split at h
    · rename_i hs2
      simp only [Option.some.injEq, Prod.mk.injEq] at h
      obtain ⟨rfl, rfl, rfl⟩ := h
      refine (callsIn_wide.1 (parse_big 9 a0 hs hs2 w)).mono ?_
      rintro e w' ⟨rfl, hb⟩
      exact ⟨_, rfl, Kd.R_nil _ _ _ _ _, hb⟩
    · cases h
theorem midF_mono (s : ByteArray) (H a b e_ ea : Int) (k : Nat) : LeO (midF k s H a b e_ ea) (midF (k + 1) s H a b e_ ea) := by
  unfold midF
  refine LeO.ite (LeO.refl _) (LeO.ite ?_ (LeO.ite ?_ (LeO.refl _)))
  · exact LeO.bind (numberF_mono s b e_ ea k) (fun n => LeO.bind (opF_mono s n.2.1 n.2.2.1 n.2.2.2 k) (fun _ => LeO.refl _))
  · exact LeO.bind (numberF_mono s b e_ ea k) (fun _ => LeO.refl _)
theorem itemF_mono (s : ByteArray) (at_ e_ ea : Int) (k : Nat) : LeO (itemF k s at_ e_ ea) (itemF (k + 1) s at_ e_ ea) :=
  LeO.bind (wordF_mono s at_ k) (fun w => LeO.ite (LeO.refl _) (LeO.bind (midF_mono s _ _ _ _ _ k) (fun m => LeO.bind (wordF_mono s _ k) (fun _ => LeO.refl _))))
theorem foldF_mono (k : Nat) : ∀ (r : List (Int × ByteArray)) (acc : List S51), LeO (foldF k r acc) (foldF (k + 1) r acc)
  | [], _ => LeO.refl _
  | (x, y) :: r, acc => by
    unfold foldF
    exact LeO.bind (itemF_mono y 0 0 0 k) (fun it => LeO.ite (LeO.refl _) (LeO.ite (foldF_mono k r _) (LeO.refl _)))
theorem script_Parse.mono : ∀ (a0 : ByteArray) (k : Nat), LeO (script_Parse.f k a0) (script_Parse.f (k + 1) a0) := fun s k => LeO.ite (foldF_mono k _ _) (LeO.refl _)
end Go.Proofs.YtifcpamliidabaaDoor.HandParse
