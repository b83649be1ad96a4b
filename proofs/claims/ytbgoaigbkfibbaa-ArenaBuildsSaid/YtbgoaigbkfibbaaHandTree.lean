/- A builder: the tree of all. Conditions: bounds on the rows' lengths. -/
import Derived.Test.YtbgoaigbkfibbaaPAx0
import Derived.Test.YtbgoaigbkfibbaaHandBm
import Derived.Test.YtbgoaigbkfibbaaHandClone
set_option linter.unusedSimpArgs false
set_option linter.unusedVariables false
namespace Go.Proofs.Ytbgoaigbkfibbaa.HandTree
open Go.RowKit Go.Proofs.YtbgoaigbkfibbaaW.PrintWords Go.Proofs.YtbgoaigbkfibbaaW.PrintLast Go.Proofs.YtbgoaigbkfibbaaW.PrintMore Go.Proofs.Ytbgoaigbkfibbaa.PA Go.Proofs.Ytbgoaigbkfibbaa.HandRight Go.Proofs.Ytbgoaigbkfibbaa.HandBl Go.Proofs.Ytbgoaigbkfibbaa.HandBm Go.Proofs.Ytbgoaigbkfibbaa.HandClone
structure TInv (W : World) (b6 : Nat) (root : Int) (v0 : Value) (ns : List S41) (ss : List (List S55)) (A1 : Option Addr) (c1 j : Nat) (w : World) : Prop where
 bb4 : w.heap[W.heap.size]? = some (.cells #[.slice none 0 0, .slice none 0 0, .int .i64 0] 25 (0, 0))
 bb6 : w.heap[b6]? = some (.cells #[v0, .slice A1 j c1, .int .i64 root] 25 (0, 0))
 n : Kd.R k41 41 w W.heap.size (fun _ => True) v0 ns
 s : Kd.R (Kd.slice 55 k55) 37 w W.heap.size (fun _ => True) (.slice A1 j c1) (ss.take j)
 below : Below W.heap.size W w
 lo : W.heap.size ≤ b6
 ne : b6 ≠ W.heap.size
theorem TInv.under {W : World} {b6 : Nat} {root : Int} {v0 : Value} {ns : List S41} {ss : List (List S55)} {A1 : Option Addr} {c1 j : Nat} {w w' : World} (h : TInv W b6 root v0 ns ss A1 c1 j w) (hb : Below w.heap.size w w') : TInv W b6 root v0 ns ss A1 c1 j w' :=
 ⟨blk_below h.bb4 hb, blk_below h.bb6 hb, Kd.R_below h.n hb, Kd.R_below h.s hb, below_then h.below h.below.size hb, h.lo, h.ne⟩
theorem take_snoc (ss : List (List S55)) (j : Nat) (h : j < ss.length) : ss.take j ++ [rd_L3 ss (j : Int)] = ss.take (j + 1) := by
 rw [List.take_add_one]
 congr 1
 simp [rd_L3, List.getD_eq_getElem?_getD, h]
theorem eqP (w : World) (p : Option Addr) : (binOp .eql 35 (.pointer p) (.pointer none)).run Try.prog w = .ok (.bool p.isNone) w := run_eql_pointer_nil w 35 p (by kernel_rfl)
attribute [local go_sem high] eqP
set_option maxRecDepth 100000 in
set_option maxHeartbeats 400000 in
theorem tree_calls (w0 : World) (g : Nat) (u v : Value) (ns : List S41) (ss : List (List S55)) (root : Int) (W : World) (h : BAt w0 g u v ns ss W) (r0 : 0 ≤ root) (r1 : root < (ns.length : Int)) (hn : ns.length ≤ 4096) (hs : ss.length < 2 ^ 31) (hss : ∀ x, x ∈ ss → x.length ≤ 1000000) :
  Calls Try.prog 25 #[.pointer (some ⟨g, 0, none⟩), .int .i64 root] W fun e W' => ∃ v0 v1, e = .returned (.tuple #[.agg #[v0, v1, .int .i64 root], .int .i64 0]) ∧ Kd.R k41 41 W' W.heap.size (fun _ => True) v0 ns ∧ Kd.R (Kd.slice 55 k55) 37 W' W.heap.size (fun _ => True) v1 ss ∧ Below W.heap.size W W' := by
 obtain ⟨A, c, rfl, hAc, _⟩ := Kd.R_reads h.n
 obtain ⟨B, cv, rfl, _, _⟩ := Kd.R_reads h.s
 have HB4 := Aside0.mk (blk_new W (.cells #[.slice none 0 0, .slice none 0 0, .int .i64 0] 25 (0, 0)))
 have hbel : Below W.heap.size W ((W.alloc (.cells #[.slice none 0 0, .slice none 0 0, .int .i64 0] 25 (0, 0))).alloc (.cells #[.int .i64 root] 3)) := below_alloc (below_alloc (Below.refl _ _) _) _
 have H2 := Aside0.mk (h.under hbel)
 have hg0 := (h.under hbel).c0
 have H0 := Aside0.mk h
 have HR : Aside0 (thereB ns.length [root] = true) := ⟨by simp [thereB, r0, r1]⟩
 have HCN : Aside0 (clone_N.f ns = some ns) := ⟨if_pos (by omega)⟩
 have HSL := Aside0.mk hs
 have HSS := Aside0.mk hss
 have HAC := Aside0.mk hAc
 have HBE := Aside0.mk hbel
 have hli := lit_int (W.alloc (.cells #[.slice none 0 0, .slice none 0 0, .int .i64 0] 25 (0, 0))) root
 rw [show (W.alloc (.cells #[.slice none 0 0, .slice none 0 0, .int .i64 0] 25 (0, 0))).heap.size = W.heap.size + 1 by simp] at hli
 have HLI := Aside0.mk hli
 clear h r0 r1 hn hs hss hbel hAc hli
 go_enter Try.func25, Try.ntmps25
 go_wp2_with (first | (go_at_call 43; (refine (there_calls w0 g _ _ ns ss _ H2.out _ _ [root] HLI.out (by show 1 < 2 ^ 31; decide) true HR.out).mono ?_); rintro e w4 ⟨rfl, rfl⟩) | (go_at_call 44; (refine (clone_N.calls A c ns ns _ (Kd.R_reads' H2.out.n).2.2 HAC.out HCN.out).mono ?_); rintro e w4 ⟨v0, rfl, hr, hb⟩; obtain ⟨A0, c0, rfl, _, _⟩ := Kd.R_reads hr; have HV0 := Aside0.mk hr; have HB0 := Aside0.mk hb; have hc1 : w4.cell? ⟨g, 1, none⟩ = some (.slice B ss.length cv) := (H2.out.under hb).c1; have hc1' := fun o => HandBm.cell_al hc1 o; clear hr hb))
 have hT0 : TInv W w4.heap.size root (.slice A0 ns.length c0) ns ss none 0 0 (w4.alloc (.cells #[.slice A0 ns.length c0, .slice none 0 0, .int .i64 root] 25 (0, 0))) := by
  have hsz := HB0.out.size
  have hsz2 : ((W.alloc (.cells #[.slice none 0 0, .slice none 0 0, .int .i64 0] 25 (0, 0))).alloc (.cells #[.int .i64 root] 3)).heap.size = W.heap.size + 1 + 1 := by simp
  rw [hsz2] at hsz
  exact ⟨blk_alloc (blk_below (blk_alloc HB4.out _) HB0.out) _, blk_new w4 _, Kd.R_alloc (Kd.R_lower HV0.out HBE.out.size) _, by rw [List.take_zero]; exact Kd.R_nil _ _ _ _ _, below_alloc (below_then HBE.out HBE.out.size HB0.out) _, by omega, by omega⟩
 have HT0 := Aside0.mk hT0
 clear hT0 hc1 hc1' HV0 HB0 HB4 HBE H2 hg0 HLI
 obtain ⟨b6, hb6⟩ : ∃ b6, w4.heap.size = b6 := ⟨_, rfl⟩
 rw [hb6]
 rw [hb6] at HT0
 generalize hw5 : w4.alloc (.cells #[.slice A0 ns.length c0, .slice none 0 0, .int .i64 root] 25 (0, 0)) = w5 at HT0 ⊢
 clear hw5 hb6
 go_loopg [31] (ss.length + 1) (fun kq v31 w' => ∃ (x : Int) (j : Nat), v31 = .int .i64 x ∧ Aside0 (x = (j : Int)) ∧ Aside0 (j + kq = ss.length + 1) ∧ Aside0 (j ≤ ss.length) ∧ Aside0 (∃ A1 c1, TInv W b6 root (.slice A0 ns.length c0) ns ss A1 c1 j w'))
 case atStart => exact ⟨0, 0, rfl, ⟨rfl⟩, ⟨by omega⟩, ⟨Nat.zero_le _⟩, ⟨none, 0, HT0.out⟩⟩
 case round =>
  obtain ⟨x, j, rfl, HX1, HJ, HJ2, HE⟩ := hrel
  obtain ⟨A1, c1, hT⟩ := HE.out
  have hx := HX1.out
  have HT := Aside0.mk hT
  clear hT HE HT0
  by_cases cc : j < ss.length
  ·have p1 : 0 ≤ x := by omega
   have p2 : x < (ss.length : Int) := by omega
   obtain ⟨ad, Aj, cj, eB, hcell, hlj, hCj⟩ := at_L3 (Kd.R_reads' (H0.out.under HT.out.below).s).2.2 x p1 p2
   subst eB
   have hs1 : wr.cell? ⟨b6, 1, none⟩ = some (.slice A1 j c1) := (blk_cell HT.out.bb6 1).trans rfl
   have hL := HSL.out
   have HCL : Aside0 (clone_R.f (rd_L3 ss x) = some (rd_L3 ss x)) := ⟨if_pos (HSS.out _ (by rw [hx]; simp [rd_L3, List.getD_eq_getElem?_getD, cc]))⟩
   have HD : Aside0 (ss.take j ++ [rd_L3 ss x] = ss.take (j + 1)) := ⟨by rw [hx]; exact take_snoc ss j cc⟩
   have HTK : Aside0 ((ss.take (j + 1)).length = j + 1) := ⟨by rw [List.length_take]; omega⟩
   have hw : wrap64 (x + 1) = ((j + 1 : Nat) : Int) := by unfold wrap64; omega
   have HW := Aside0.mk hw
   have HC := Aside0.mk cc
   have p1' : decide (0 ≤ x) = true := decide_eq_true p1
   have p2' : decide (x < (ss.length : Int)) = true := decide_eq_true p2
   replace p1 := eq_true p1
   replace p2 := eq_true p2
   clear hL hw hx cc
   go_wp2_with fail
   refine start_ (n := 8) (S := fun w' => w'.cell? ⟨b6, 1, none⟩ = some (.slice A1 j c1)) (ds := [5, 7]) #[false, false, false, false, false, false, false, false] (by kernel_rfl) rfl rfl (hs1) (fun hHeld => ?_)
   refine pq_ (i := 0) (n := 35) (bA 8 1) (by kernel_rfl) ?_
   refine pq_ (i := 2) (n := 37) (bA 8 5) (by kernel_rfl) ?_
   refine take_ (i := 1) (N := some 36) (v := ?_) (a' := ?_) (bA 8 7) rfl rfl (by kernel_rfl) (fun _ _ _ h => h) (Or.inl ⟨by rfl, ?_⟩) hHeld ?_ ?_
   rotate_left
   ·intro w' s0
    go_simp
    with_reducible rfl
   rotate_left
   ·exact nrm_
   refine one_ (i := 3) (N := some 38) (bA 8 15) rfl rfl (by kernel_rfl) (by decide) (fun K hK => ?_)
   refine goes_ Try.func42 (by kernel_rfl) rfl #[.slice Aj (rd_L3 ss x).length cj] (by rfl) rfl rfl (by simp only [List.map_toArray, List.map_cons, List.map_nil]; rfl) ?_
   with_reducible refine (clone_R.calls Aj cj (rd_L3 ss x) (rd_L3 ss x) _ (Kd.C_drew hCj) hlj HCL.out).mono ?_
   rintro e w6 ⟨v0, rfl, hr, hb⟩
   refine ⟨_, rfl, ?_⟩
   obtain ⟨A2, c2, rfl, _, _⟩ := Kd.R_reads hr
   have HN4 := Aside0.mk hr
   have H4 := Aside0.mk (TInv.under HT.out (below_then (below_drew1 (Below.refl _ _)) (by simp) hb))
   have HB4 := Aside0.mk hb
   have hc4 : w6.cell? ⟨b6, 1, none⟩ = some (.slice A1 j c1) := (blk_cell H4.out.bb6 1).trans rfl
   clear hr hb
   refine hK.out _ _ (hc4) (fun hHeld => ?_)
   clear hK K
   refine norm_ (a' := ?_) ?_ ?_
   rotate_left
   ·show Act.put _ (some 38) _ = _
    exact nrm_
   refine one_ (i := 4) (N := some 39) (bA 8 31) rfl rfl (by kernel_rfl) (by decide) (fun K hK => ?_)
   refine value_ (w1 := ?_) (v := ?_) (by rfl) rfl ?_ ?_
   rotate_left 2
   ·go_simp
    constructor
    ·rfl
    ·rfl
   refine hK.out _ _ ((HandBm.cell_al (W := w6) hc4 _)) (fun hHeld => ?_)
   clear hK K
   refine norm_ (a' := ?_) ?_ ?_
   rotate_left
   ·show Act.put _ (some 39) _ = _
    exact nrm_
   refine last_ (i := 5) (N := some 40) #[true, true, true, true, true, true, false, false] rfl rfl (by kernel_rfl) (by decide) (fun K hK => ?_)
   refine Kd.R_append_step (Kd.slice 55 k55) (w0 := W) W.heap.size (by rfl) (.tmp 36) (.tmp 39) 23 37 (.slice none 0 0) 24 rfl Try.underlying23 info37 rfl (by decide) (by omega) (.slice A1 j c1) (ss.take j) (rd_L3 ss x) [.slice A2 (rd_L3 ss x).length c2] (fun _ => True) (fun k => True ∧ some k ≠ (Value.slice A1 j c1).ownBlock) rfl rfl (Kd.M_row (Kd.R_apartR (Kd.R_lower HN4.out (by have := HT.out.below.size; show _ ≤ wr.drew.heap.size; simpa using this)) H4.out.s (by decide))) (fun _ hk => hk) (fun _ _ => trivial) H4.out.s H4.out.below H4.out.below.size (by have := HSL.out; rw [List.length_take]; omega) ?_
   intro v1 w5_1 ho hb hg hat
   have hbox := blk_grown H4.out.bb6 hg (Kd.R_ne H4.out.s H4.out.bb6 (by decide))
   have hbox4 := blk_grown H4.out.bb4 hg (Kd.R_ne H4.out.s H4.out.bb4 (by decide))
   have HNS := Aside0.mk (Kd.R_over H4.out.n H4.out.s (by decide) hg)
   obtain ⟨A3, c3, e1, _, _⟩ := Kd.R_reads ho
   have hd := HD.out
   rw [hd] at e1 ho
   rw [HTK.out] at e1
   subst e1
   have hc5 : w5_1.cell? ⟨b6, 1, none⟩ = some (.slice A1 j c1) := (blk_cell hbox 1).trans rfl
   have hf5 := blk_frozen hbox 1
   have HO := Aside0.mk ho
   have HBX := Aside0.mk hbox
   have HBX4 := Aside0.mk hbox4
   have HBW := Aside0.mk hb
   clear ho hb hg hat hbox hbox4 hd
   refine hK.out _ _ ?_
   clear hK K
   refine norm_ (a' := ?_) ?_ ?_
   rotate_left
   ·show Act.put _ (some 40) _ = _
    exact nrm_
   refine pq_ (i := 6) (n := 41) (bA 8 127) (by kernel_rfl) ?_
   refine last_ (i := 7) (N := none) #[true, true, true, true, true, true, true, true] rfl rfl (by kernel_rfl) (by decide) (fun K hK => ?_)
   refine skip_ (w1 := ?_) (by rfl) rfl ?_ ?_
   rotate_left
   ·go_simp
    rfl
   refine hK.out _ _ ?_
   clear hK K
   refine done_ (by kernel_rfl) ?_
   have hTn : TInv W b6 root (.slice A0 ns.length c0) ns ss A3 c3 (j + 1) (w5_1.setCell ⟨b6, 1, none⟩ (.slice A3 (j + 1) c3)) :=
    ⟨blk_far HBX4.out (Ne.symm HT.out.ne) _, blk_put HBX.out 1 _ rfl, Kd.R_set HNS.out HBX.out (by decide) 1 _, Kd.R_set HO.out HBX.out (by decide) 1 _, HBW.out.setCell HT.out.lo _, HT.out.lo, HT.out.ne⟩
   have HTn := Aside0.mk hTn
   clear hTn
   go_wp2_with fail
   cases gk with
   | zero => have := HJ.out; have := HC.out; omega
   | succ k1 =>
    go_roundg k1
    case measure => omega
    case rel => exact ⟨_, j + 1, rfl, ⟨HW.out⟩, ⟨by have := HJ.out; omega⟩, ⟨HC.out⟩, ⟨A3, c3, HTn.out⟩⟩
  ·have p2' : decide (x < (ss.length : Int)) = false := decide_eq_false (by omega)
   have hj : j = ss.length := by have := HJ2.out; omega
   subst hj
   have hz0 : wr.cell? ⟨W.heap.size, 0, none⟩ = some (.slice none 0 0) := (blk_cell HT.out.bb4 0).trans rfl
   have hz1 : wr.cell? ⟨W.heap.size, 1, none⟩ = some (.slice none 0 0) := (blk_cell HT.out.bb4 1).trans rfl
   have hz2 : wr.cell? ⟨W.heap.size, 2, none⟩ = some (.int .i64 0) := (blk_cell HT.out.bb4 2).trans rfl
   have hf0 := blk_frozen HT.out.bb4 0
   have hf1 := blk_frozen HT.out.bb4 1
   have hf2 := blk_frozen HT.out.bb4 2
   have hy0 : wr.cell? ⟨b6, 0, none⟩ = some (.slice A0 ns.length c0) := (blk_cell HT.out.bb6 0).trans rfl
   have hy1 : wr.cell? ⟨b6, 1, none⟩ = some (.slice A1 ss.length c1) := (blk_cell HT.out.bb6 1).trans rfl
   have hy2 : wr.cell? ⟨b6, 2, none⟩ = some (.int .i64 root) := (blk_cell HT.out.bb6 2).trans rfl
   have hq1 : (((wr.setCell ⟨W.heap.size, 0, none⟩ (.slice A0 ns.length c0)).setCell ⟨W.heap.size, 1, none⟩ (.slice A1 ss.length c1)).setCell ⟨W.heap.size, 2, none⟩ (.int .i64 root)).heap[W.heap.size]? = some (.cells #[.slice A0 ns.length c0, .slice A1 ss.length c1, .int .i64 root] 25 (0, 0)) := blk_put (blk_put (blk_put HT.out.bb4 0 _ rfl) 1 _ rfl) 2 _ rfl
   have b1 := blk_put HT.out.bb4 0 (.slice A0 ns.length c0) rfl
   have b2 := blk_put b1 1 (.slice A1 ss.length c1) rfl
   have hs := HT.out.s
   rw [List.take_length] at hs
   have HQ : Aside0 (Kd.R k41 41 (((wr.setCell ⟨W.heap.size, 0, none⟩ (.slice A0 ns.length c0)).setCell ⟨W.heap.size, 1, none⟩ (.slice A1 ss.length c1)).setCell ⟨W.heap.size, 2, none⟩ (.int .i64 root)) W.heap.size (fun _ => True) (.slice A0 ns.length c0) ns) := ⟨Kd.R_set (Kd.R_set (Kd.R_set HT.out.n HT.out.bb4 (by decide) 0 _) b1 (by decide) 1 _) b2 (by decide) 2 _⟩
   have HP : Aside0 (Kd.R (Kd.slice 55 k55) 37 (((wr.setCell ⟨W.heap.size, 0, none⟩ (.slice A0 ns.length c0)).setCell ⟨W.heap.size, 1, none⟩ (.slice A1 ss.length c1)).setCell ⟨W.heap.size, 2, none⟩ (.int .i64 root)) W.heap.size (fun _ => True) (.slice A1 ss.length c1) ss) := ⟨Kd.R_set (Kd.R_set (Kd.R_set hs HT.out.bb4 (by decide) 0 _) b1 (by decide) 1 _) b2 (by decide) 2 _⟩
   have HB5 : Aside0 (Below W.heap.size W (((wr.setCell ⟨W.heap.size, 0, none⟩ (.slice A0 ns.length c0)).setCell ⟨W.heap.size, 1, none⟩ (.slice A1 ss.length c1)).setCell ⟨W.heap.size, 2, none⟩ (.int .i64 root))) := ⟨((HT.out.below.setCell (Nat.le_refl _) _).setCell (Nat.le_refl _) _).setCell (Nat.le_refl _) _⟩
   have HQ1 := Aside0.mk hq1
   clear hs b1 b2 hx cc hq1
   go_wp2_with fail
   refine bodyPost_ret (results_list (rs := [.cell 4 25, .tmp 5]) rfl (by simp) (.cell W.heap.size 25 #[.slice A0 ns.length c0, .slice A1 ss.length c1, .int .i64 root] (0, 0) _ rfl HQ1.out Try.underlying25 rfl (by kernel_rfl) (.tmp .nil))) rfl ⟨_, _, rfl, HQ.out, HP.out, HB5.out⟩
end Go.Proofs.Ytbgoaigbkfibbaa.HandTree
