/- An operation, read off a text from any byte on: what script.Op makes. Condition: what the plain functions tell. -/
import Derived.Test.YtifcpamliidabaaDoorPSx0
import Derived.Test.YtifcpamliidabaaDoorPSx4
import Derived.Test.YtifcpamliidabaaDoorPSx5
import Derived.Test.YtifcpamliidabaaDoorPSx6
import Derived.Test.YtifcpamliidabaaDoorHandOpM
set_option linter.unusedSimpArgs false
set_option linter.unusedVariables false
namespace Go.Proofs.YtifcpamliidabaaDoor.HandOp
open Go.RowKit Go.Proofs.YtifcpamliidabaaDoorW.PrintWords Go.Proofs.YtifcpamliidabaaDoorW.PrintLast Go.Proofs.YtifcpamliidabaaDoorW.PrintMore Go.Proofs.YtifcpamliidabaaDoor.PS Go.Proofs.YtifcpamliidabaaDoor.HandKind Go.Proofs.YtifcpamliidabaaDoor.HandRd Go.Proofs.YtifcpamliidabaaDoor.HandOpM
attribute [local go_sem] max2_int min2_int max_two min_two max_three min_three max_four min_four   -- for this text's walks alone
/-- An operation, the byte behind it, and what is wrong. -/
def script_Op.f (k : Nat) (s : ByteArray) (at_ : Int) : Option (Int × Int × ByteArray × Int × Int × Int) :=
  (opF k s (mn (mx at_ 0) (s.size : Int)) 0 0).bind fun o => if o.2.2.2.2.1 = 0 then some (o.1, o.2.1, o.2.2.1, o.2.2.2.1, 0, 0) else some (0, 0, ⟨#[]⟩, 0, o.2.2.2.2.1, o.2.2.2.2.2)
theorem wordF_mono (s : ByteArray) (at_ : Int) (k : Nat) : LeO (wordF k s at_) (wordF (k + 1) s at_) := LeO.bind (words_Next.mono s at_ k) (fun _ => LeO.refl _)
theorem numberF_mono (s : ByteArray) (at_ e_ ea : Int) (k : Nat) : LeO (numberF k s at_ e_ ea) (numberF (k + 1) s at_ e_ ea) := LeO.bind (wordF_mono s at_ k) (fun b => LeO.bind (digit_Parse.mono b.1 k) (fun _ => LeO.refl _))
theorem dataF_mono (s : ByteArray) (at_ e_ ea : Int) (k : Nat) : LeO (dataF k s at_ e_ ea) (dataF (k + 1) s at_ e_ ea) := LeO.bind (words_Next.mono s at_ k) (fun b => LeO.bind (script_Unquote.mono s b.1 k) (fun _ => LeO.refl _))
theorem opF_mono (s : ByteArray) (at_ e_ ea : Int) (k : Nat) : LeO (opF k s at_ e_ ea) (opF (k + 1) s at_ e_ ea) :=
  LeO.bind (wordF_mono s at_ k) (fun b => LeO.ite (LeO.refl _) (LeO.ite (LeO.bind (dataF_mono s b.2.2 e_ ea k) (fun _ => LeO.refl _)) (LeO.bind (LeO.refl _) (fun nb => LeO.ite (LeO.bind (numberF_mono s b.2.2 e_ ea k) (fun _ => LeO.refl _)) (LeO.refl _)))))
theorem script_Op.mono : ∀ (a0 : ByteArray) (a1 : Int) (k : Nat), LeO (script_Op.f k a0 a1) (script_Op.f (k + 1) a0 a1) := fun s at_ k => LeO.bind (opF_mono s _ 0 0 k) (fun _ => LeO.refl _)
theorem new3 (w : World) (s : ByteArray) (c : Int) (A B : Array Value) (t u : TypeId) :
    Aside0 (IsS60 w (((w.alloc (.cells A t)).alloc (.cells B u)).alloc (.cells #[.string s, .int .i64 c, .int .i64 0, .int .i64 0] 60)) (w.heap.size + 1 + 1) s c 0 0 ∧ Below w.heap.size w (((w.alloc (.cells A t)).alloc (.cells B u)).alloc (.cells #[.string s, .int .i64 c, .int .i64 0, .int .i64 0] 60)) ∧
      (((w.alloc (.cells A t)).alloc (.cells B u)).alloc (.cells #[.string s, .int .i64 c, .int .i64 0, .int .i64 0] 60)).heap[w.heap.size]? = some (.cells A t (0, 0)) ∧ (((w.alloc (.cells A t)).alloc (.cells B u)).alloc (.cells #[.string s, .int .i64 c, .int .i64 0, .int .i64 0] 60)).heap[w.heap.size + 1]? = some (.cells B u (0, 0))) := by
  have hb : Below w.heap.size w ((w.alloc (.cells A t)).alloc (.cells B u)) := ((Below.refl _ w).alloc (Nat.le_refl _) _).alloc (by simp) _
  have h := IsS60.new w ((w.alloc (.cells A t)).alloc (.cells B u)) s c 0 0 hb
  have e : ((w.alloc (.cells A t)).alloc (.cells B u)).heap.size = w.heap.size + 1 + 1 := by simp
  rw [e] at h
  have h2 := blk_new (w.alloc (.cells A t)) B u
  rw [show (w.alloc (.cells A t)).heap.size = w.heap.size + 1 by simp] at h2
  exact ⟨h, hb.alloc hb.size _, blk_alloc (blk_alloc (blk_new w A t) _) _, blk_alloc h2 _⟩
set_option maxRecDepth 100000 in
set_option maxHeartbeats 1000000 in
theorem op_bad (k : Nat) (s : ByteArray) (at_ K n tt e1 ea1 : Int) (d : ByteArray) (w : World) (hG : Kd.C Kd.string w (some ⟨0, 0, none⟩) tab_script_names.length tab_script_names) (h : opF k s (mn (mx at_ 0) (s.size : Int)) 0 0 = some (K, n, d, tt, e1, ea1)) (he : e1 ≠ 0) :
    Calls Tryd.prog 18 #[.string s, .int .i64 at_] w fun e w' => e = .returned (.tuple #[.agg #[.int .i64 0, .int .i64 0, .string ⟨#[]⟩], .int .i64 0, .agg #[.int .i64 e1, .int .i64 ea1]]) ∧ Below w.heap.size w w' := by
  have c1 : (e1 == 0) = false := beq_eq_false_iff_ne.mpr he
  have c2 : (e1 != 0) = true := bne_iff_ne.mpr he
  obtain ⟨a, hmx⟩ : ∃ a, a = mx at_ 0 := ⟨_, rfl⟩
  obtain ⟨c, hmn⟩ : ∃ c, c = mn a (s.size : Int) := ⟨_, rfl⟩
  have hmx1 : (if at_ < 0 then 0 else at_) = a := by rw [hmx]; unfold mx; (repeat' split) <;> first | rfl | omega
  have hmn1 : (if (s.size : Int) < a then (s.size : Int) else a) = c := by rw [hmn]; unfold mn; (repeat' split) <;> first | rfl | omega
  rw [← hmx, ← hmn] at h
  have HO := Aside0.mk h
  have HG := Aside0.mk hG
  have HN := new3 w s c #[.int .i64 0, .int .i64 0, .string ⟨#[]⟩] #[.int .i64 0, .int .i64 0] 42 26
  clear h hG hmx hmn
  clear he
  go_enter Tryd.func18, Tryd.ntmps18
  go_wp2_with (go_at_call 37; (refine (op_calls k (w.heap.size + 1 + 1) s c 0 0 K n d tt e1 ea1 w _ HN.out.1 HN.out.2.1 HG.out HO.out).mono ?_); rintro e W3 ⟨rfl, hI3, hB3, hK3⟩; have HR4 := Aside0.mk (KeepBut.blk hK3 HN.out.2.2.1 (by omega) (by simp)); have HR6 := Aside0.mk (KeepBut.blk hK3 HN.out.2.2.2 (by omega) (by simp)); have hq0 := cellS60_0 hI3.1; have hq1 := cellS60_1 hI3.1; have hq2 := cellS60_2 hI3.1; have hq3 := cellS60_3 hI3.1; have hlt := IsS60.lt hI3; have hne := eq_false (Nat.ne_of_lt hlt); have hne2 := eq_false (Nat.ne_of_gt hlt); have HI3 := Aside0.mk hI3; have HB3 := Aside0.mk hB3; have hlt2 := eq_true hlt; clear hI3 hB3 hK3)
  have HI := Aside0.mk (IsS60.alloc HI3.out (.cells #[.int .i64 K, .int .i64 n, .string d] 42))
  have HB := Aside0.mk (HB3.out.alloc HB3.out.size (.cells #[.int .i64 K, .int .i64 n, .string d] 42))
  have H4 := Aside0.mk (blk_alloc HR4.out (.cells #[.int .i64 K, .int .i64 n, .string d] 42))
  have H6 := Aside0.mk (blk_alloc HR6.out (.cells #[.int .i64 K, .int .i64 n, .string d] 42))
  have H8 := Aside0.mk (blk_new W3 #[.int .i64 K, .int .i64 n, .string d] 42)
  have HN8 : Aside0 (W3.heap.size ≠ w.heap.size) := ⟨by omega⟩
  clear HI3 HB3 HR4 HR6 hq0 hq1 hq2 hq3 hne hne2 hlt2
  obtain ⟨q, hq⟩ : ∃ q, q = W3.heap.size := ⟨_, rfl⟩
  rw [← hq] at H8 HN8 ⊢
  clear hlt hq
  generalize W3.alloc (.cells #[.int .i64 K, .int .i64 n, .string d] 42) = W4 at HI HB H4 H6 H8 ⊢
  have hc2 := cellS60_2 HI.out.1
  have hc3 := cellS60_3 HI.out.1
  refine start_ (n := 8) (S := fun w' => w'.cell? ⟨w.heap.size + 1 + 1, 2, none⟩ = some (.int .i64 e1) ∧ w'.cell? ⟨w.heap.size + 1 + 1, 3, none⟩ = some (.int .i64 ea1)) (ds := [7]) #[false, false, false, false, false, false, false, false] (by kernel_rfl) rfl rfl ⟨hc2, hc3⟩ (fun hHeld => ?_)
  have HI0 := Aside0.mk (IsS60.drew HI.out)
  have HB0 := Aside0.mk (below_drew HB.out)
  have H40 := Aside0.mk (blk_drew H4.out)
  have H60 := Aside0.mk (blk_drew H6.out)
  have H80 := Aside0.mk (blk_drew H8.out)
  clear HI HB H4 H6 H8 hc2 hc3
  generalize W4.drew = W5 at HI0 HB0 H40 H60 H80 hHeld ⊢
  have hy0 : W5.cell? ⟨w.heap.size, 0, none⟩ = some (.int .i64 0) := (blk_cell H40.out 0).trans rfl
  have hy1 : W5.cell? ⟨w.heap.size, 1, none⟩ = some (.int .i64 0) := (blk_cell H40.out 1).trans rfl
  have hy2 : W5.cell? ⟨w.heap.size, 2, none⟩ = some (.string ⟨#[]⟩) := (blk_cell H40.out 2).trans rfl
  have hf0 := blk_frozen H40.out 0
  have hf1 := blk_frozen H40.out 1
  have hf2 := blk_frozen H40.out 2
  have hz0 : W5.cell? ⟨w.heap.size + 1, 0, none⟩ = some (.int .i64 0) := (blk_cell H60.out 0).trans rfl
  have hz1 : W5.cell? ⟨w.heap.size + 1, 1, none⟩ = some (.int .i64 0) := (blk_cell H60.out 1).trans rfl
  have hg0 := blk_frozen H60.out 0
  have hg1 := blk_frozen H60.out 1
  refine pure_ (i := 0) (N := some 25) (v := ?_) (a' := ?_) #[true, false, false, false, false, false, false, false] rfl rfl (by kernel_rfl) (fun _ _ _ h => h) (Or.inl ⟨by rfl, ?_⟩) ?_ ?_
  rotate_left
  · intro w'
    go_simp
    with_reducible rfl
  rotate_left
  · simp only [Act.put, List.setIfInBounds_toArray, List.set_cons_zero, List.set_cons_succ, i64_w, i32_w]
    rfl
  refine pure_ (i := 1) (N := some 26) (v := ?_) (a' := ?_) #[true, true, false, false, false, false, false, false] rfl rfl (by kernel_rfl) (fun _ _ _ h => h) (Or.inl ⟨by rfl, ?_⟩) ?_ ?_
  rotate_left
  · intro w'
    go_simp
    with_reducible rfl
  rotate_left
  · simp only [Act.put, List.setIfInBounds_toArray, List.set_cons_zero, List.set_cons_succ, i64_w, i32_w]
    rfl
  refine pure_ (i := 2) (N := some 27) (v := ?_) (a' := ?_) #[true, true, true, false, false, false, false, false] rfl rfl (by kernel_rfl) (fun _ _ _ h => h) (Or.inl ⟨by rfl, ?_⟩) ?_ ?_
  rotate_left
  · intro w'
    go_simp
    with_reducible rfl
  rotate_left
  · simp only [Act.put, List.setIfInBounds_toArray, List.set_cons_zero, List.set_cons_succ, i64_w, i32_w]
    rfl
  refine pure_ (i := 3) (N := some 28) (v := ?_) (a' := ?_) #[true, true, true, true, false, false, false, false] rfl rfl (by kernel_rfl) (fun _ _ _ h => h) (Or.inl ⟨by rfl, ?_⟩) ?_ ?_
  rotate_left
  · intro w'
    go_simp
    with_reducible rfl
  rotate_left
  · simp only [Act.put, List.setIfInBounds_toArray, List.set_cons_zero, List.set_cons_succ, i64_w, i32_w]
    rfl
  refine take_ (i := 4) (N := some 29) (v := ?_) (a' := ?_) #[true, true, true, true, true, false, false, false] rfl rfl (by kernel_rfl) (fun _ _ _ h => h) (Or.inl ⟨by rfl, ?_⟩) hHeld ?_ ?_
  rotate_left
  · rintro w' ⟨s0, s1⟩
    go_simp
    with_reducible rfl
  rotate_left
  · simp only [Act.put, List.setIfInBounds_toArray, List.set_cons_zero, List.set_cons_succ, i64_w, i32_w]
    rfl
  refine one_ (i := 5) (N := none) #[true, true, true, true, true, true, false, false] rfl rfl (by kernel_rfl) (by decide) (fun K hK => ?_)
  refine skip_ (w1 := ?_) (by rfl) rfl ?_ ?_
  rotate_left
  · go_simp
    rfl
  refine hK.out _ _ ⟨cellS60_2 (IsS60.far (p := ⟨w.heap.size, 2, none⟩) (IsS60.far (p := ⟨w.heap.size, 1, none⟩) (IsS60.far (p := ⟨w.heap.size, 0, none⟩) HI0.out (by show _ ≠ _; simp; omega) _) (by show _ ≠ _; simp; omega) _) (by show _ ≠ _; simp; omega) _).1, cellS60_3 (IsS60.far (p := ⟨w.heap.size, 2, none⟩) (IsS60.far (p := ⟨w.heap.size, 1, none⟩) (IsS60.far (p := ⟨w.heap.size, 0, none⟩) HI0.out (by show _ ≠ _; simp; omega) _) (by show _ ≠ _; simp; omega) _) (by show _ ≠ _; simp; omega) _).1⟩ (fun hHeld => ?_)
  clear hK K
  refine pure_ (i := 6) (N := some 5) (v := ?_) (a' := ?_) #[true, true, true, true, true, true, true, false] rfl rfl (by kernel_rfl) (fun _ _ _ h => h) (Or.inl ⟨by rfl, ?_⟩) ?_ ?_
  rotate_left
  · intro w'
    go_simp
    with_reducible rfl
  rotate_left
  · simp only [Act.put, List.setIfInBounds_toArray, List.set_cons_zero, List.set_cons_succ, i64_w, i32_w]
    rfl
  refine last_ (i := 7) (N := none) #[true, true, true, true, true, true, true, true] rfl rfl (by kernel_rfl) (by decide) (fun K hK => ?_)
  refine skip_ (w1 := ?_) (by rfl) rfl ?_ ?_
  rotate_left
  · go_simp
    rfl
  refine hK.out _ _ ?_
  clear hK K
  refine done_ (by kernel_rfl) ?_

  try go_wp2
  refine bodyPost_ret (results_list (rs := [.cell 4 42, .tmp 5, .cell 6 26]) rfl (by simp) (.cell w.heap.size 42 #[.int .i64 0, .int .i64 0, .string ⟨#[]⟩] (0, 0) _ rfl (blk_far (p := ⟨w.heap.size + 1, 1, none⟩) (blk_far (p := ⟨w.heap.size + 1, 0, none⟩) (blk_set (blk_set (blk_set H40.out 0 _) 1 _) 2 _) (by show _ ≠ _; simp) _) (by show _ ≠ _; simp) _) Tryd.underlying42 rfl (by kernel_rfl) (.tmp (.cell (w.heap.size + 1) 26 #[.int .i64 e1, .int .i64 ea1] (0, 0) _ rfl (blk_set (blk_set (blk_far (p := ⟨w.heap.size, 2, none⟩) (blk_far (p := ⟨w.heap.size, 1, none⟩) (blk_far (p := ⟨w.heap.size, 0, none⟩) H60.out (by show _ ≠ _; simp) _) (by show _ ≠ _; simp) _) (by show _ ≠ _; simp) _) 0 _) 1 _) Tryd.underlying26 rfl (by kernel_rfl) .nil)))) rfl ?_
  exact ⟨rfl, below_set (below_set (below_set (below_set (below_set HB0.out (Nat.le_refl _)) (Nat.le_refl _)) (Nat.le_refl _)) (by show _ ≤ _; simp)) (by show _ ≤ _; simp)⟩
set_option maxRecDepth 100000 in
set_option maxHeartbeats 1000000 in
theorem op_good (k : Nat) (s : ByteArray) (at_ K n tt ea1 : Int) (d : ByteArray) (w : World) (hG : Kd.C Kd.string w (some ⟨0, 0, none⟩) tab_script_names.length tab_script_names) (h : opF k s (mn (mx at_ 0) (s.size : Int)) 0 0 = some (K, n, d, tt, 0, ea1)) :
    Calls Tryd.prog 18 #[.string s, .int .i64 at_] w fun e w' => e = .returned (.tuple #[.agg #[.int .i64 K, .int .i64 n, .string d], .int .i64 tt, .agg #[.int .i64 0, .int .i64 0]]) ∧ Below w.heap.size w w' := by
  obtain ⟨a, hmx⟩ : ∃ a, a = mx at_ 0 := ⟨_, rfl⟩
  obtain ⟨c, hmn⟩ : ∃ c, c = mn a (s.size : Int) := ⟨_, rfl⟩
  have hmx1 : (if at_ < 0 then 0 else at_) = a := by rw [hmx]; unfold mx; (repeat' split) <;> first | rfl | omega
  have hmn1 : (if (s.size : Int) < a then (s.size : Int) else a) = c := by rw [hmn]; unfold mn; (repeat' split) <;> first | rfl | omega
  rw [← hmx, ← hmn] at h
  have HO := Aside0.mk h
  have HG := Aside0.mk hG
  have HN := new3 w s c #[.int .i64 0, .int .i64 0, .string ⟨#[]⟩] #[.int .i64 0, .int .i64 0] 42 26
  clear h hG hmx hmn
  go_enter Tryd.func18, Tryd.ntmps18
  go_wp2_with (go_at_call 37; (refine (op_calls k (w.heap.size + 1 + 1) s c 0 0 K n d tt 0 ea1 w _ HN.out.1 HN.out.2.1 HG.out HO.out).mono ?_); rintro e W3 ⟨rfl, hI3, hB3, hK3⟩; have HR4 := Aside0.mk (KeepBut.blk hK3 HN.out.2.2.1 (by omega) (by simp)); have HR6 := Aside0.mk (KeepBut.blk hK3 HN.out.2.2.2 (by omega) (by simp)); have hq0 := cellS60_0 hI3.1; have hq1 := cellS60_1 hI3.1; have hq2 := cellS60_2 hI3.1; have hq3 := cellS60_3 hI3.1; have hlt := IsS60.lt hI3; have hne := eq_false (Nat.ne_of_lt hlt); have hne2 := eq_false (Nat.ne_of_gt hlt); have HI3 := Aside0.mk hI3; have HB3 := Aside0.mk hB3; have hlt2 := eq_true hlt; clear hI3 hB3 hK3)
  have HI := Aside0.mk (IsS60.alloc HI3.out (.cells #[.int .i64 K, .int .i64 n, .string d] 42))
  have HB := Aside0.mk (HB3.out.alloc HB3.out.size (.cells #[.int .i64 K, .int .i64 n, .string d] 42))
  have H4 := Aside0.mk (blk_alloc HR4.out (.cells #[.int .i64 K, .int .i64 n, .string d] 42))
  have H6 := Aside0.mk (blk_alloc HR6.out (.cells #[.int .i64 K, .int .i64 n, .string d] 42))
  have H8 := Aside0.mk (blk_new W3 #[.int .i64 K, .int .i64 n, .string d] 42)
  have HN8 : Aside0 (W3.heap.size ≠ w.heap.size) := ⟨by omega⟩
  clear HI3 HB3 HR4 HR6 hq0 hq1 hq2 hq3 hne hne2 hlt2
  obtain ⟨q, hq⟩ : ∃ q, q = W3.heap.size := ⟨_, rfl⟩
  rw [← hq] at H8 HN8 ⊢
  clear hlt hq
  generalize W3.alloc (.cells #[.int .i64 K, .int .i64 n, .string d] 42) = W4 at HI HB H4 H6 H8 ⊢
  have hc1 := cellS60_1 HI.out.1
  have hx0 : W4.cell? ⟨q, 0, none⟩ = some (.int .i64 K) := (blk_cell H8.out 0).trans rfl
  have hx1 : W4.cell? ⟨q, 1, none⟩ = some (.int .i64 n) := (blk_cell H8.out 1).trans rfl
  have hx2 : W4.cell? ⟨q, 2, none⟩ = some (.string d) := (blk_cell H8.out 2).trans rfl
  refine start_ (n := 9) (S := fun w' => w'.cell? ⟨q, 0, none⟩ = some (.int .i64 K) ∧ w'.cell? ⟨q, 1, none⟩ = some (.int .i64 n) ∧ w'.cell? ⟨q, 2, none⟩ = some (.string d) ∧ w'.cell? ⟨w.heap.size + 1 + 1, 1, none⟩ = some (.int .i64 tt)) (ds := [8]) #[false, false, false, false, false, false, false, false, false] (by kernel_rfl) rfl rfl ⟨hx0, hx1, hx2, hc1⟩ (fun hHeld => ?_)
  have HI0 := Aside0.mk (IsS60.drew HI.out)
  have HB0 := Aside0.mk (below_drew HB.out)
  have H40 := Aside0.mk (blk_drew H4.out)
  have H60 := Aside0.mk (blk_drew H6.out)
  have H80 := Aside0.mk (blk_drew H8.out)
  clear HI HB H4 H6 H8 hx0 hx1 hx2 hc1
  generalize W4.drew = W5 at HI0 HB0 H40 H60 H80 hHeld ⊢
  have hy0 : W5.cell? ⟨w.heap.size, 0, none⟩ = some (.int .i64 0) := (blk_cell H40.out 0).trans rfl
  have hy1 : W5.cell? ⟨w.heap.size, 1, none⟩ = some (.int .i64 0) := (blk_cell H40.out 1).trans rfl
  have hy2 : W5.cell? ⟨w.heap.size, 2, none⟩ = some (.string ⟨#[]⟩) := (blk_cell H40.out 2).trans rfl
  have hf0 := blk_frozen H40.out 0
  have hf1 := blk_frozen H40.out 1
  have hf2 := blk_frozen H40.out 2
  have hz0 : W5.cell? ⟨w.heap.size + 1, 0, none⟩ = some (.int .i64 0) := (blk_cell H60.out 0).trans rfl
  have hz1 : W5.cell? ⟨w.heap.size + 1, 1, none⟩ = some (.int .i64 0) := (blk_cell H60.out 1).trans rfl
  have hg0 := blk_frozen H60.out 0
  have hg1 := blk_frozen H60.out 1
  refine pure_ (i := 1) (N := some 31) (v := ?_) (a' := ?_) #[false, true, false, false, false, false, false, false, false] rfl rfl (by kernel_rfl) (fun _ _ _ h => h) (Or.inl ⟨by rfl, ?_⟩) ?_ ?_
  rotate_left
  · intro w'
    go_simp
    with_reducible rfl
  rotate_left
  · simp only [Act.put, List.setIfInBounds_toArray, List.set_cons_zero, List.set_cons_succ, i64_w, i32_w]
    rfl
  refine pure_ (i := 2) (N := some 32) (v := ?_) (a' := ?_) #[false, true, true, false, false, false, false, false, false] rfl rfl (by kernel_rfl) (fun _ _ _ h => h) (Or.inl ⟨by rfl, ?_⟩) ?_ ?_
  rotate_left
  · intro w'
    go_simp
    with_reducible rfl
  rotate_left
  · simp only [Act.put, List.setIfInBounds_toArray, List.set_cons_zero, List.set_cons_succ, i64_w, i32_w]
    rfl
  refine pure_ (i := 3) (N := some 33) (v := ?_) (a' := ?_) #[false, true, true, true, false, false, false, false, false] rfl rfl (by kernel_rfl) (fun _ _ _ h => h) (Or.inl ⟨by rfl, ?_⟩) ?_ ?_
  rotate_left
  · intro w'
    go_simp
    with_reducible rfl
  rotate_left
  · simp only [Act.put, List.setIfInBounds_toArray, List.set_cons_zero, List.set_cons_succ, i64_w, i32_w]
    rfl
  refine pure_ (i := 5) (N := some 35) (v := ?_) (a' := ?_) #[false, true, true, true, false, true, false, false, false] rfl rfl (by kernel_rfl) (fun _ _ _ h => h) (Or.inl ⟨by rfl, ?_⟩) ?_ ?_
  rotate_left
  · intro w'
    go_simp
    with_reducible rfl
  rotate_left
  · simp only [Act.put, List.setIfInBounds_toArray, List.set_cons_zero, List.set_cons_succ, i64_w, i32_w]
    rfl
  refine take_ (i := 0) (N := some 30) (v := ?_) (a' := ?_) #[true, true, true, true, false, true, false, false, false] rfl rfl (by kernel_rfl) (fun _ _ _ h => h) (Or.inl ⟨by rfl, ?_⟩) hHeld ?_ ?_
  rotate_left
  · rintro w' ⟨s0, s1, s2, s3⟩
    go_simp
    with_reducible rfl
  rotate_left
  · simp only [Act.put, List.setIfInBounds_toArray, List.set_cons_zero, List.set_cons_succ, i64_w, i32_w]
    rfl
  refine take_ (i := 4) (N := some 34) (v := ?_) (a' := ?_) #[true, true, true, true, true, true, false, false, false] rfl rfl (by kernel_rfl) (fun _ _ _ h => h) (Or.inl ⟨by rfl, ?_⟩) hHeld ?_ ?_
  rotate_left
  · rintro w' ⟨s0, s1, s2, s3⟩
    go_simp
    with_reducible rfl
  rotate_left
  · simp only [Act.put, List.setIfInBounds_toArray, List.set_cons_zero, List.set_cons_succ, i64_w, i32_w]
    rfl
  refine one_ (i := 6) (N := none) #[true, true, true, true, true, true, true, false, false] rfl rfl (by kernel_rfl) (by decide) (fun K hK => ?_)
  refine skip_ (w1 := ?_) (by rfl) rfl ?_ ?_
  rotate_left
  · go_simp
    rfl
  refine hK.out _ _ ⟨((blk_cell (blk_far (p := ⟨w.heap.size, 2, none⟩) (blk_far (p := ⟨w.heap.size, 1, none⟩) (blk_far (p := ⟨w.heap.size, 0, none⟩) H80.out HN8.out _) HN8.out _) HN8.out _) 0).trans rfl), ((blk_cell (blk_far (p := ⟨w.heap.size, 2, none⟩) (blk_far (p := ⟨w.heap.size, 1, none⟩) (blk_far (p := ⟨w.heap.size, 0, none⟩) H80.out HN8.out _) HN8.out _) HN8.out _) 1).trans rfl), ((blk_cell (blk_far (p := ⟨w.heap.size, 2, none⟩) (blk_far (p := ⟨w.heap.size, 1, none⟩) (blk_far (p := ⟨w.heap.size, 0, none⟩) H80.out HN8.out _) HN8.out _) HN8.out _) 2).trans rfl), cellS60_1 (IsS60.far (p := ⟨w.heap.size, 2, none⟩) (IsS60.far (p := ⟨w.heap.size, 1, none⟩) (IsS60.far (p := ⟨w.heap.size, 0, none⟩) HI0.out (by show _ ≠ _; simp; omega) _) (by show _ ≠ _; simp; omega) _) (by show _ ≠ _; simp; omega) _).1⟩ (fun hHeld => ?_)
  clear hK K
  refine pure_ (i := 7) (N := some 5) (v := ?_) (a' := ?_) #[true, true, true, true, true, true, true, true, false] rfl rfl (by kernel_rfl) (fun _ _ _ h => h) (Or.inl ⟨by rfl, ?_⟩) ?_ ?_
  rotate_left
  · intro w'
    go_simp
    with_reducible rfl
  rotate_left
  · simp only [Act.put, List.setIfInBounds_toArray, List.set_cons_zero, List.set_cons_succ, i64_w, i32_w]
    rfl
  refine last_ (i := 8) (N := none) #[true, true, true, true, true, true, true, true, true] rfl rfl (by kernel_rfl) (by decide) (fun K hK => ?_)
  refine skip_ (w1 := ?_) (by rfl) rfl ?_ ?_
  rotate_left
  · go_simp
    rfl
  refine hK.out _ _ ?_
  clear hK K
  refine done_ (by kernel_rfl) ?_

  try go_wp2
  refine bodyPost_ret (results_list (rs := [.cell 4 42, .tmp 5, .cell 6 26]) rfl (by simp) (.cell w.heap.size 42 #[.int .i64 K, .int .i64 n, .string d] (0, 0) _ rfl (blk_far (p := ⟨w.heap.size + 1, 1, none⟩) (blk_far (p := ⟨w.heap.size + 1, 0, none⟩) (blk_set (blk_set (blk_set H40.out 0 _) 1 _) 2 _) (by show _ ≠ _; simp) _) (by show _ ≠ _; simp) _) Tryd.underlying42 rfl (by kernel_rfl) (.tmp (.cell (w.heap.size + 1) 26 #[.int .i64 0, .int .i64 0] (0, 0) _ rfl (blk_set (blk_set (blk_far (p := ⟨w.heap.size, 2, none⟩) (blk_far (p := ⟨w.heap.size, 1, none⟩) (blk_far (p := ⟨w.heap.size, 0, none⟩) H60.out (by show _ ≠ _; simp) _) (by show _ ≠ _; simp) _) (by show _ ≠ _; simp) _) 0 _) 1 _) Tryd.underlying26 rfl (by kernel_rfl) .nil)))) rfl ?_
  exact ⟨rfl, below_set (below_set (below_set (below_set (below_set HB0.out (Nat.le_refl _)) (Nat.le_refl _)) (Nat.le_refl _)) (by show _ ≤ _; simp)) (by show _ ≤ _; simp)⟩
theorem script_Op.calls (k : Nat) (a0 : ByteArray) (a1 : Int) (r1 : Int) (r2 : Int) (r3 : ByteArray) (r4 : Int) (r5 : Int) (r6 : Int) (w : World) (hrG0 : Kd.C Kd.string w (some ⟨0, 0, none⟩) tab_script_names.length tab_script_names) (h : script_Op.f k a0 a1 = some (r1, r2, r3, r4, r5, r6)) :
    Calls Tryd.prog 18 #[.string a0, .int .i64 a1] w fun e w' => e = .returned (.tuple #[.agg #[.int .i64 r1, .int .i64 r2, .string r3], .int .i64 r4, .agg #[.int .i64 r5, .int .i64 r6]]) ∧ Below w.heap.size w w' := by
  unfold script_Op.f at h
  obtain ⟨⟨K, n, d, tt, e1, ea1⟩, h1, h2⟩ := Option.bind_eq_some_iff.mp h
  dsimp only at h2
  by_cases he : e1 = 0
  · rw [if_pos he] at h2
    subst he
    simp only [Option.some.injEq, Prod.mk.injEq] at h2
    obtain ⟨rfl, rfl, rfl, rfl, rfl, rfl⟩ := h2
    exact op_good k a0 a1 _ _ _ _ _ w hrG0 h1
  · rw [if_neg he] at h2
    simp only [Option.some.injEq, Prod.mk.injEq] at h2
    obtain ⟨rfl, rfl, rfl, rfl, rfl, rfl⟩ := h2
    exact op_bad k a0 a1 _ _ _ _ _ _ w hrG0 h1 he
end Go.Proofs.YtifcpamliidabaaDoor.HandOp
