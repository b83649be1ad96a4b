/- What the reader of an action's words reads: one of some words, a name. Conditions: what the plain functions tell. -/
import Derived.Test.YtkfijbmplllmlaaDoorHandRd
set_option linter.unusedSimpArgs false
set_option linter.unusedVariables false
namespace Go.Proofs.YtkfijbmplllmlaaDoor.HandKw
open Go.RowKit Go.Proofs.YtkfijbmplllmlaaDoorW.PrintWords Go.Proofs.YtkfijbmplllmlaaDoorW.PrintLast Go.Proofs.YtkfijbmplllmlaaDoorW.PrintMore Go.Proofs.YtkfijbmplllmlaaDoor.PA Go.Proofs.YtkfijbmplllmlaaDoor.HandRd
attribute [local go_sem] arrI48_0 arrI48_1 arrI56_0 arrI56_1 arrI56_2
section
variable {w0 w W W1 : World} {g : Nat} {s : ByteArray} {v : Value} {k : Int}
theorem IsR.drawn (h : IsR w0 W g s v k) (d : Drawn0 W W1) : IsR w0 W1 g s v k := by obtain ⟨n, rfl⟩ := d.out; exact ⟨blk_drewN h.1 n, h.2⟩
theorem keep_drawn (h : KeepBut w W g none) (d : Drawn0 W W1) : KeepBut w W1 g none := by obtain ⟨n, rfl⟩ := d.out; exact keep_drewN h n
theorem below_drawn (h : Below w0.heap.size w0 W) (d : Drawn0 W W1) : Below w0.heap.size w0 W1 := by obtain ⟨n, rfl⟩ := d.out; exact pw_below_drewN h n
theorem blk_drawn {i : Nat} {o : Obj} (h : W.heap[i]? = some o) (d : Drawn0 W W1) : W1.heap[i]? = some o := by obtain ⟨n, rfl⟩ := d.out; exact blk_drewN h n
theorem blk_new (W : World) (cs : Array Value) (t : TypeId) : (W.alloc (.cells cs t)).heap[W.heap.size]? = some (.cells cs t (0, 0)) := by simpa using heap_alloc_new W (.cells cs t)
theorem keep_new {cs : Array Value} {t : TypeId} (hg : g < w.heap.size) (hk : KeepBut (w.alloc (.cells cs t)) W g none) : W.heap[w.heap.size]? = some (.cells cs t (0, 0)) :=
  KeepBut.blk hk (blk_new w cs t) (by omega) (by simp)
theorem keep_new_set {B : Nat} (h : KeepBut w W g none) (hB : w.heap.size ≤ B) (j : Nat) (u : Value) : KeepBut w (W.setCell ⟨B, j, none⟩ u) g none :=
  ⟨by simpa using h.1, fun i hi hg hr => (Below.heap_setCell W ⟨B, j, none⟩ u i (by show i ≠ B; omega)).trans (h.2 i hi hg hr)⟩
theorem IsR.far (h : IsR w0 W g s v k) {B : Nat} (hne : g ≠ B) (j : Nat) (u : Value) : IsR w0 (W.setCell ⟨B, j, none⟩ u) g s v k := ⟨blk_far (p := ⟨B, j, none⟩) h.1 hne u, h.2⟩
/-- Two stores into a block that was made since w. -/
theorem two_set (hI : IsR w0 W g s v k) {x0 x1 : Value} (hB : Below w0.heap.size w0 W) (hK : KeepBut w W g none) {B : Nat} (hw : w.heap.size ≤ B) (h0 : w0.heap.size ≤ w.heap.size) (hg : g ≠ B) (hR : W.heap[B]? = some (.cells #[x0, x1] 29 (0, 0))) (u0 u1 : Value) :
    ((W.setCell ⟨B, 0, none⟩ u0).setCell ⟨B, 1, none⟩ u1).heap[B]? = some (.cells #[u0, u1] 29 (0, 0)) ∧ IsR w0 ((W.setCell ⟨B, 0, none⟩ u0).setCell ⟨B, 1, none⟩ u1) g s v k ∧ Below w0.heap.size w0 ((W.setCell ⟨B, 0, none⟩ u0).setCell ⟨B, 1, none⟩ u1) ∧ KeepBut w ((W.setCell ⟨B, 0, none⟩ u0).setCell ⟨B, 1, none⟩ u1) g none :=
  ⟨blk_set (blk_set hR 0 u0) 1 u1, IsR.far (IsR.far hI hg 0 u0) hg 1 u1, below_set (below_set hB (Nat.le_trans h0 hw)) (Nat.le_trans h0 hw), keep_new_set (keep_new_set hK hw 0 u0) hw 1 u1⟩
end
set_option maxRecDepth 100000 in
set_option maxHeartbeats 1000000 in
theorem key_calls (K g : Nat) (s : ByteArray) (A : Option Addr) (cap : Nat) (l : List S48) (k : Int) (wd : ByteArray) (a b : Int) (r : Bool) (q : Option Addr) (qc : Nat) (ks : List ByteArray) (w0 w : World) (hI : IsR w0 w g s (.slice A l.length cap) k) (hB : Below w0.heap.size w0 w) (hC : Kd.C k48 w0 A l.length l)
    (hq : ∀ W', KeepBut w W' g none → Kd.C Kd.string W' q ks.length ks) (hqc : ks.length ≤ qc) (hW : wordF s l k = some (wd, a, b)) (hR : slices_Contains_string_string.f K ks wd = some r) :
    Calls Tryd.prog 23 #[.pointer (some ⟨g, 0, none⟩), .slice q ks.length qc] w fun e w' => e = .returned (.tuple #[.string (if r = true then wd else ⟨#[]⟩), .agg #[.int .i64 (if r = true then 0 else 3), .int .i64 (if r = true then 0 else a)]]) ∧ IsR w0 w' g s (.slice A l.length cap) b ∧ Below w0.heap.size w0 w' ∧ KeepBut w w' g none := by
  have HI := Aside0.mk hI
  have HB := Aside0.mk hB
  have HC := Aside0.mk hC
  have HQ := Aside0.mk hq
  have HQC := Aside0.mk hqc
  have HW := Aside0.mk hW
  have hg : g ≠ w.heap.size := by have := IsR.lt hI; omega
  have h0 : w0.heap.size ≤ w.heap.size := hB.size
  have HG := Aside0.mk hg
  have H0 := Aside0.mk h0
  clear hI hB hC hq hqc hW hg h0
  cases r with
  | false =>
    have HR := Aside0.mk hR
    clear hR
    go_enter Tryd.func23, Tryd.ntmps23
    go_wp2_with (first | (go_at_call 16; (with_reducible refine (word_calls g s A cap l k wd a b w0 _ (IsR.alloc HI.out _) (HB.out.alloc HB.out.size _) HC.out HW.out).mono ?_); rintro e W1 ⟨rfl, hI1, hB1, hK1⟩; have HR1 := Aside0.mk (keep_new (IsR.lt HI.out) hK1); have HI1 := Aside0.mk hI1; have HB1 := Aside0.mk hB1; have HK1 : Aside0 (KeepBut w W1 g none) := ⟨KeepBut.trans (keep_alloc (KeepBut.refl w g none) _) hK1 (.inl rfl)⟩; have hx0 : W1.cell? ⟨w.heap.size, 0, none⟩ = some (.int .i64 0) := (blk_cell HR1.out 0).trans rfl; have hx1 : W1.cell? ⟨w.heap.size, 1, none⟩ = some (.int .i64 0) := (blk_cell HR1.out 1).trans rfl; have hf0 := blk_frozen HR1.out 0; have hf1 := blk_frozen HR1.out 1; clear hI1 hB1 hK1) | (go_at_call 34; (with_reducible refine (slices_Contains_string_string.calls K q qc ks wd false _ (HQ.out _ HK1.out) HQC.out HR.out).mono ?_); rintro e W2 ⟨rfl, hd⟩; have HI2 := Aside0.mk (IsR.drawn HI1.out hd); have HB2 := Aside0.mk (below_drawn HB1.out hd); have HK2 := Aside0.mk (keep_drawn HK1.out hd); have HR2 := Aside0.mk (blk_drawn HR1.out hd); clear HI1 HB1 HK1 HR1 hx0 hx1 hf0 hf1 hd; have hx0 : W2.cell? ⟨w.heap.size, 0, none⟩ = some (.int .i64 0) := (blk_cell HR2.out 0).trans rfl; have hx1 : W2.cell? ⟨w.heap.size, 1, none⟩ = some (.int .i64 0) := (blk_cell HR2.out 1).trans rfl; have hf0 := blk_frozen HR2.out 0; have hf1 := blk_frozen HR2.out 1))
    obtain ⟨t1_, t2_, t3_, t4_⟩ := two_set HI2.out HB2.out HK2.out (Nat.le_refl _) H0.out HG.out HR2.out (.int .i64 3) (.int .i64 a)
    refine bodyPost_ret (results_list (rs := [.tmp 4, .cell 5 29]) rfl (by simp) (.tmp (.cell w.heap.size 29 #[.int .i64 3, .int .i64 a] (0, 0) _ rfl t1_ Tryd.underlying29 rfl (by kernel_rfl) .nil))) rfl ⟨rfl, t2_, t3_, t4_⟩
  | true =>
    have HR := Aside0.mk hR
    clear hR
    go_enter Tryd.func23, Tryd.ntmps23
    go_wp2_with (first | (go_at_call 16; (with_reducible refine (word_calls g s A cap l k wd a b w0 _ (IsR.alloc HI.out _) (HB.out.alloc HB.out.size _) HC.out HW.out).mono ?_); rintro e W1 ⟨rfl, hI1, hB1, hK1⟩; have HR1 := Aside0.mk (keep_new (IsR.lt HI.out) hK1); have HI1 := Aside0.mk hI1; have HB1 := Aside0.mk hB1; have HK1 : Aside0 (KeepBut w W1 g none) := ⟨KeepBut.trans (keep_alloc (KeepBut.refl w g none) _) hK1 (.inl rfl)⟩; have hx0 : W1.cell? ⟨w.heap.size, 0, none⟩ = some (.int .i64 0) := (blk_cell HR1.out 0).trans rfl; have hx1 : W1.cell? ⟨w.heap.size, 1, none⟩ = some (.int .i64 0) := (blk_cell HR1.out 1).trans rfl; have hf0 := blk_frozen HR1.out 0; have hf1 := blk_frozen HR1.out 1; clear hI1 hB1 hK1) | (go_at_call 34; (with_reducible refine (slices_Contains_string_string.calls K q qc ks wd true _ (HQ.out _ HK1.out) HQC.out HR.out).mono ?_); rintro e W2 ⟨rfl, hd⟩; have HI2 := Aside0.mk (IsR.drawn HI1.out hd); have HB2 := Aside0.mk (below_drawn HB1.out hd); have HK2 := Aside0.mk (keep_drawn HK1.out hd); have HR2 := Aside0.mk (blk_drawn HR1.out hd); clear HI1 HB1 HK1 HR1 hx0 hx1 hf0 hf1 hd; have hx0 : W2.cell? ⟨w.heap.size, 0, none⟩ = some (.int .i64 0) := (blk_cell HR2.out 0).trans rfl; have hx1 : W2.cell? ⟨w.heap.size, 1, none⟩ = some (.int .i64 0) := (blk_cell HR2.out 1).trans rfl; have hf0 := blk_frozen HR2.out 0; have hf1 := blk_frozen HR2.out 1))
    obtain ⟨t1_, t2_, t3_, t4_⟩ := two_set HI2.out HB2.out HK2.out (Nat.le_refl _) H0.out HG.out HR2.out (.int .i64 0) (.int .i64 0)
    refine bodyPost_ret (results_list (rs := [.tmp 4, .cell 5 29]) rfl (by simp) (.tmp (.cell w.heap.size 29 #[.int .i64 0, .int .i64 0] (0, 0) _ rfl t1_ Tryd.underlying29 rfl (by kernel_rfl) .nil))) rfl ⟨rfl, t2_, t3_, t4_⟩
set_option maxRecDepth 100000 in
set_option maxHeartbeats 1000000 in
theorem name_none (K g : Nat) (s : ByteArray) (A : Option Addr) (cap : Nat) (l : List S48) (k : Int) (wd : ByteArray) (a b : Int) (w0 w : World) (hI : IsR w0 w g s (.slice A l.length cap) k) (hB : Below w0.heap.size w0 w) (hC : Kd.C k48 w0 A l.length l)
    (hW : wordF s l k = some (wd, a, b)) (hE : wd.toList = ([] : List UInt8)) :
    Calls Tryd.prog 24 #[.func (.func 16) #[.pointer (some ⟨g, 0, none⟩)] #[]] w fun e w' => e = .returned (.tuple #[.string ⟨#[]⟩, .int .i64 a, .agg #[.int .i64 3, .int .i64 a]]) ∧ IsR w0 w' g s (.slice A l.length cap) b ∧ Below w0.heap.size w0 w' ∧ KeepBut w w' g none := by
  have HI := Aside0.mk hI
  have HB := Aside0.mk hB
  have HC := Aside0.mk hC
  have HW := Aside0.mk hW
  have hg : g ≠ w.heap.size := by have := IsR.lt hI; omega
  have h0 : w0.heap.size ≤ w.heap.size := hB.size
  have HG := Aside0.mk hg
  have H0 := Aside0.mk h0
  have c1 : (wd.toList == ([] : List UInt8)) = true := beq_iff_eq.mpr hE
  clear hI hB hC hW hg h0 hE
  go_enter Tryd.func24, Tryd.ntmps24
  go_wp2_with (go_at_call 16; (with_reducible refine (word_calls g s A cap l k wd a b w0 _ (IsR.alloc HI.out _) (HB.out.alloc HB.out.size _) HC.out HW.out).mono ?_); rintro e W1 ⟨rfl, hI1, hB1, hK1⟩; have HR1 := Aside0.mk (keep_new (IsR.lt HI.out) hK1); have HI1 := Aside0.mk hI1; have HB1 := Aside0.mk hB1; have HK1 : Aside0 (KeepBut w W1 g none) := ⟨KeepBut.trans (keep_alloc (KeepBut.refl w g none) _) hK1 (.inl rfl)⟩; have hx0 : W1.cell? ⟨w.heap.size, 0, none⟩ = some (.int .i64 0) := (blk_cell HR1.out 0).trans rfl; have hx1 : W1.cell? ⟨w.heap.size, 1, none⟩ = some (.int .i64 0) := (blk_cell HR1.out 1).trans rfl; have hf0 := blk_frozen HR1.out 0; have hf1 := blk_frozen HR1.out 1; clear hI1 hB1 hK1)
  obtain ⟨t1_, t2_, t3_, t4_⟩ := two_set HI1.out HB1.out HK1.out (Nat.le_refl _) H0.out HG.out HR1.out (.int .i64 3) (.int .i64 a)
  refine bodyPost_ret (results_list (rs := [.tmp 2, .tmp 3, .cell 4 29]) rfl (by simp) (.tmp (.tmp (.cell w.heap.size 29 #[.int .i64 3, .int .i64 a] (0, 0) _ rfl t1_ Tryd.underlying29 rfl (by kernel_rfl) .nil)))) rfl ⟨rfl, t2_, t3_, t4_⟩
set_option maxRecDepth 100000 in
set_option maxHeartbeats 1000000 in
theorem name_some (K g : Nat) (s : ByteArray) (A : Option Addr) (cap : Nat) (l : List S48) (k : Int) (wd : ByteArray) (a b : Int) (r : Bool) (w0 w : World) (hI : IsR w0 w g s (.slice A l.length cap) k) (hB : Below w0.heap.size w0 w) (hC : Kd.C k48 w0 A l.length l)
    (hW : wordF s l k = some (wd, a, b)) (hE : ¬ wd.toList = ([] : List UInt8)) (hR : words_Name.f K wd = some r) :
    Calls Tryd.prog 24 #[.func (.func 16) #[.pointer (some ⟨g, 0, none⟩)] #[]] w fun e w' => e = .returned (.tuple #[.string (if r = true then wd else ⟨#[]⟩), .int .i64 a, .agg #[.int .i64 (if r = true then 0 else 4), .int .i64 (if r = true then 0 else a)]]) ∧ IsR w0 w' g s (.slice A l.length cap) b ∧ Below w0.heap.size w0 w' ∧ KeepBut w w' g none := by
  have HI := Aside0.mk hI
  have HB := Aside0.mk hB
  have HC := Aside0.mk hC
  have HW := Aside0.mk hW
  have hg : g ≠ w.heap.size := by have := IsR.lt hI; omega
  have h0 : w0.heap.size ≤ w.heap.size := hB.size
  have HG := Aside0.mk hg
  have H0 := Aside0.mk h0
  have c1 : (wd.toList == ([] : List UInt8)) = false := beq_eq_false_iff_ne.mpr hE
  clear hI hB hC hW hg h0 hE
  cases r with
  | false =>
    have HR := Aside0.mk hR
    clear hR
    go_enter Tryd.func24, Tryd.ntmps24
    go_wp2_with (first | (go_at_call 16; (with_reducible refine (word_calls g s A cap l k wd a b w0 _ (IsR.alloc HI.out _) (HB.out.alloc HB.out.size _) HC.out HW.out).mono ?_); rintro e W1 ⟨rfl, hI1, hB1, hK1⟩; have HR1 := Aside0.mk (keep_new (IsR.lt HI.out) hK1); have HI1 := Aside0.mk hI1; have HB1 := Aside0.mk hB1; have HK1 : Aside0 (KeepBut w W1 g none) := ⟨KeepBut.trans (keep_alloc (KeepBut.refl w g none) _) hK1 (.inl rfl)⟩; have hx0 : W1.cell? ⟨w.heap.size, 0, none⟩ = some (.int .i64 0) := (blk_cell HR1.out 0).trans rfl; have hx1 : W1.cell? ⟨w.heap.size, 1, none⟩ = some (.int .i64 0) := (blk_cell HR1.out 1).trans rfl; have hf0 := blk_frozen HR1.out 0; have hf1 := blk_frozen HR1.out 1; clear hI1 hB1 hK1) | (go_at_call 21; (with_reducible refine (words_Name.calls K wd false _ HR.out).mono ?_); rintro e W2 ⟨rfl, hd⟩; have HI2 := Aside0.mk (IsR.drawn HI1.out hd); have HB2 := Aside0.mk (below_drawn HB1.out hd); have HK2 := Aside0.mk (keep_drawn HK1.out hd); have HR2 := Aside0.mk (blk_drawn HR1.out hd); clear HI1 HB1 HK1 HR1 hx0 hx1 hf0 hf1 hd; have hx0 : W2.cell? ⟨w.heap.size, 0, none⟩ = some (.int .i64 0) := (blk_cell HR2.out 0).trans rfl; have hx1 : W2.cell? ⟨w.heap.size, 1, none⟩ = some (.int .i64 0) := (blk_cell HR2.out 1).trans rfl; have hf0 := blk_frozen HR2.out 0; have hf1 := blk_frozen HR2.out 1))
    obtain ⟨t1_, t2_, t3_, t4_⟩ := two_set HI2.out HB2.out HK2.out (Nat.le_refl _) H0.out HG.out HR2.out (.int .i64 4) (.int .i64 a)
    refine bodyPost_ret (results_list (rs := [.tmp 2, .tmp 3, .cell 4 29]) rfl (by simp) (.tmp (.tmp (.cell w.heap.size 29 #[.int .i64 4, .int .i64 a] (0, 0) _ rfl t1_ Tryd.underlying29 rfl (by kernel_rfl) .nil)))) rfl ⟨rfl, t2_, t3_, t4_⟩
  | true =>
    have HR := Aside0.mk hR
    clear hR
    go_enter Tryd.func24, Tryd.ntmps24
    go_wp2_with (first | (go_at_call 16; (with_reducible refine (word_calls g s A cap l k wd a b w0 _ (IsR.alloc HI.out _) (HB.out.alloc HB.out.size _) HC.out HW.out).mono ?_); rintro e W1 ⟨rfl, hI1, hB1, hK1⟩; have HR1 := Aside0.mk (keep_new (IsR.lt HI.out) hK1); have HI1 := Aside0.mk hI1; have HB1 := Aside0.mk hB1; have HK1 : Aside0 (KeepBut w W1 g none) := ⟨KeepBut.trans (keep_alloc (KeepBut.refl w g none) _) hK1 (.inl rfl)⟩; have hx0 : W1.cell? ⟨w.heap.size, 0, none⟩ = some (.int .i64 0) := (blk_cell HR1.out 0).trans rfl; have hx1 : W1.cell? ⟨w.heap.size, 1, none⟩ = some (.int .i64 0) := (blk_cell HR1.out 1).trans rfl; have hf0 := blk_frozen HR1.out 0; have hf1 := blk_frozen HR1.out 1; clear hI1 hB1 hK1) | (go_at_call 21; (with_reducible refine (words_Name.calls K wd true _ HR.out).mono ?_); rintro e W2 ⟨rfl, hd⟩; have HI2 := Aside0.mk (IsR.drawn HI1.out hd); have HB2 := Aside0.mk (below_drawn HB1.out hd); have HK2 := Aside0.mk (keep_drawn HK1.out hd); have HR2 := Aside0.mk (blk_drawn HR1.out hd); clear HI1 HB1 HK1 HR1 hx0 hx1 hf0 hf1 hd; have hx0 : W2.cell? ⟨w.heap.size, 0, none⟩ = some (.int .i64 0) := (blk_cell HR2.out 0).trans rfl; have hx1 : W2.cell? ⟨w.heap.size, 1, none⟩ = some (.int .i64 0) := (blk_cell HR2.out 1).trans rfl; have hf0 := blk_frozen HR2.out 0; have hf1 := blk_frozen HR2.out 1))
    obtain ⟨t1_, t2_, t3_, t4_⟩ := two_set HI2.out HB2.out HK2.out (Nat.le_refl _) H0.out HG.out HR2.out (.int .i64 0) (.int .i64 0)
    refine bodyPost_ret (results_list (rs := [.tmp 2, .tmp 3, .cell 4 29]) rfl (by simp) (.tmp (.tmp (.cell w.heap.size 29 #[.int .i64 0, .int .i64 0] (0, 0) _ rfl t1_ Tryd.underlying29 rfl (by kernel_rfl) .nil)))) rfl ⟨rfl, t2_, t3_, t4_⟩
/-- One of some words: it, what is wrong, which comes next. -/
def keyF (K : Nat) (ks : List ByteArray) (s : ByteArray) (l : List S48) (k : Int) : Option (ByteArray × Int × Int × Int) :=
  (wordF s l k).bind fun w => (slices_Contains_string_string.f K ks w.1).bind fun r => some (if r = true then w.1 else ⟨#[]⟩, if r = true then 0 else 3, if r = true then 0 else w.2.1, w.2.2)
/-- A name: it, where it stands, what is wrong, which comes next. -/
def nameF (K : Nat) (s : ByteArray) (l : List S48) (k : Int) : Option (ByteArray × Int × Int × Int × Int) :=
  (wordF s l k).bind fun w => if w.1.toList = ([] : List UInt8) then some (⟨#[]⟩, w.2.1, 3, w.2.1, w.2.2) else (words_Name.f K w.1).bind fun r => some (if r = true then w.1 else ⟨#[]⟩, w.2.1, if r = true then 0 else 4, if r = true then 0 else w.2.1, w.2.2)
theorem lit_C {W : World} {B : Nat} (xs : List ByteArray) (h : W.heap[B]? = some (.cells (xs.map Value.string).toArray 9 (0, 0))) (hn : xs.length ≤ 1000) : Kd.C Kd.string W (some ⟨B, 0, none⟩) xs.length xs := by
  refine ⟨rfl, by omega, fun _ => ⟨_, rfl, fun j p hp => ⟨[.string p], rfl, rfl, fun i u hu => ?_⟩⟩⟩
  have hj : j < xs.length := (List.getElem?_eq_some_iff.1 hp).1
  have hi : i = 0 := by
    cases i with
    | zero => rfl
    | succ i => simp at hu
  subst hi
  have e : (Addr.add ⟨B, 0, none⟩ (j * Kd.string.sz + 0)) = ⟨B, j, none⟩ := by
    show Addr.add ⟨B, 0, none⟩ (j * 1 + 0) = _
    unfold Addr.add
    split
    · rename_i hz; rw [show j = 0 by omega]
    · simp
  rw [e, blk_cell h j]
  simp only [List.getElem?_cons_zero, Option.some.injEq] at hu
  subst hu
  simp [hp]
theorem key2_calls (K g : Nat) (s : ByteArray) (A : Option Addr) (cap : Nat) (l : List S48) (k : Int) (x y kw : ByteArray) (E a b : Int) (B : Nat) (w0 w : World) (hI : IsR w0 w g s (.slice A l.length cap) k) (hB : Below w0.heap.size w0 w) (hC : Kd.C k48 w0 A l.length l)
    (hq : w.heap[B]? = some (.cells #[.string x, .string y] 9 (0, 0))) (hne : B ≠ g) (h : keyF K [x, y] s l k = some (kw, E, a, b)) :
    Calls Tryd.prog 23 #[.pointer (some ⟨g, 0, none⟩), .slice (some ⟨B, 0, none⟩) 2 2] w fun e w' => e = .returned (.tuple #[.string kw, .agg #[.int .i64 E, .int .i64 a]]) ∧ IsR w0 w' g s (.slice A l.length cap) b ∧ Below w0.heap.size w0 w' ∧ KeepBut w w' g none := by
  unfold keyF at h
  obtain ⟨⟨wd, a', b'⟩, h1, h2⟩ := Option.bind_eq_some_iff.mp h
  obtain ⟨r, h3, h4⟩ := Option.bind_eq_some_iff.mp h2
  simp only [Option.some.injEq, Prod.mk.injEq] at h4
  obtain ⟨rfl, rfl, rfl, rfl⟩ := h4
  exact key_calls K g s A cap l k wd a' b' r (some ⟨B, 0, none⟩) 2 [x, y] w0 w hI hB hC (fun W' hk => lit_C [x, y] (KeepBut.blk hk hq hne (by simp)) (by simp)) (by simp) h1 h3
theorem key1_calls (K g : Nat) (s : ByteArray) (A : Option Addr) (cap : Nat) (l : List S48) (k : Int) (x kw : ByteArray) (E a b : Int) (B : Nat) (w0 w : World) (hI : IsR w0 w g s (.slice A l.length cap) k) (hB : Below w0.heap.size w0 w) (hC : Kd.C k48 w0 A l.length l)
    (hq : w.heap[B]? = some (.cells #[.string x] 9 (0, 0))) (hne : B ≠ g) (h : keyF K [x] s l k = some (kw, E, a, b)) :
    Calls Tryd.prog 23 #[.pointer (some ⟨g, 0, none⟩), .slice (some ⟨B, 0, none⟩) 1 1] w fun e w' => e = .returned (.tuple #[.string kw, .agg #[.int .i64 E, .int .i64 a]]) ∧ IsR w0 w' g s (.slice A l.length cap) b ∧ Below w0.heap.size w0 w' ∧ KeepBut w w' g none := by
  unfold keyF at h
  obtain ⟨⟨wd, a', b'⟩, h1, h2⟩ := Option.bind_eq_some_iff.mp h
  obtain ⟨r, h3, h4⟩ := Option.bind_eq_some_iff.mp h2
  simp only [Option.some.injEq, Prod.mk.injEq] at h4
  obtain ⟨rfl, rfl, rfl, rfl⟩ := h4
  exact key_calls K g s A cap l k wd a' b' r (some ⟨B, 0, none⟩) 1 [x] w0 w hI hB hC (fun W' hk => lit_C [x] (KeepBut.blk hk hq hne (by simp)) (by simp)) (by simp) h1 h3
theorem name_calls (K g : Nat) (s : ByteArray) (A : Option Addr) (cap : Nat) (l : List S48) (k : Int) (nm : ByteArray) (p E a b : Int) (w0 w : World) (hI : IsR w0 w g s (.slice A l.length cap) k) (hB : Below w0.heap.size w0 w) (hC : Kd.C k48 w0 A l.length l) (h : nameF K s l k = some (nm, p, E, a, b)) :
    Calls Tryd.prog 24 #[.func (.func 16) #[.pointer (some ⟨g, 0, none⟩)] #[]] w fun e w' => e = .returned (.tuple #[.string nm, .int .i64 p, .agg #[.int .i64 E, .int .i64 a]]) ∧ IsR w0 w' g s (.slice A l.length cap) b ∧ Below w0.heap.size w0 w' ∧ KeepBut w w' g none := by
  unfold nameF at h
  obtain ⟨⟨wd, a', b'⟩, h1, h2⟩ := Option.bind_eq_some_iff.mp h
  dsimp only at h2
  split at h2
  · rename_i hE
    simp only [Option.some.injEq, Prod.mk.injEq] at h2
    obtain ⟨rfl, rfl, rfl, rfl, rfl⟩ := h2
    exact name_none K g s A cap l k wd a' b' w0 w hI hB hC h1 hE
  · rename_i hE
    obtain ⟨r, h3, h4⟩ := Option.bind_eq_some_iff.mp h2
    simp only [Option.some.injEq, Prod.mk.injEq] at h4
    obtain ⟨rfl, rfl, rfl, rfl, rfl⟩ := h4
    exact name_some K g s A cap l k wd a' b' r w0 w hI hB hC h1 hE h3
end Go.Proofs.YtkfijbmplllmlaaDoor.HandKw
