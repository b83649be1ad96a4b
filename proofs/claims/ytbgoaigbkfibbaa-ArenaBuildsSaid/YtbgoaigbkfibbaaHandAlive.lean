/- The document's example is told as it should be. No condition. -/
import Derived.Test.YtbgoaigbkfibbaaHandTree
import Derived.Test.YtbgoaigbkfibbaaHandSame
import Derived.Test.YtbgoaigbkfibbaaPAx0
import Derived.Test.YtbgoaigbkfibbaaPAx2
import Derived.Test.YtbgoaigbkfibbaaPAx5
import Derived.Test.YtbgoaigbkfibbaaPAx6
import Derived.Test.YtbgoaigbkfibbaaPAx7
set_option linter.unusedSimpArgs false
set_option linter.unusedVariables false
namespace Go.Proofs.Ytbgoaigbkfibbaa.HandAlive
open Go.RowKit Go.Proofs.YtbgoaigbkfibbaaW.PrintWords Go.Proofs.YtbgoaigbkfibbaaW.PrintLast Go.Proofs.YtbgoaigbkfibbaaW.PrintMore Go.Proofs.Ytbgoaigbkfibbaa.PA Go.Proofs.Ytbgoaigbkfibbaa.HandRight Go.Proofs.Ytbgoaigbkfibbaa.HandBl Go.Proofs.Ytbgoaigbkfibbaa.HandBm Go.Proofs.Ytbgoaigbkfibbaa.HandTree Go.Proofs.Ytbgoaigbkfibbaa.HandSame Go.Proofs.Ytbgoaigbkfibbaa.Sets
def exN : List S41 := [⟨2, 0, 0, 0, 0, 0⟩, ⟨5, 0, 0, 0, -1, 0⟩]
def exS : List (List S55) := [[⟨97, 97⟩]]
theorem ex_of : ofL [⟨97, 97⟩] = [⟨97, 97⟩] := by kernel_rfl
theorem ex_times : arena_times.f 0 (-1) = some true := by kernel_rfl
theorem ex_depth : arena_Depth.f 50 exN exS 1 = some 2 := by kernel_rfl
theorem ex_size : arena_Size.f 50 exN exS 1 = some 2 := by kernel_rfl
theorem ex_check : arena_Check.f 50 exN exS 1 = some 0 := by kernel_rfl
theorem ex_same : arena_Same.f 50 exN exS 1 exN exS 1 = some true := by kernel_rfl
theorem lit55 {w : World} {b : Nat} (h : w.heap[b]? = some (.cells #[.int .i64 97, .int .i64 97] 55 (0, 0))) : Kd.C k55 w (some ⟨b, 0, none⟩) [(⟨97, 97⟩ : S55)].length [⟨97, 97⟩] := by
 have hr : k55.R 55 w 0 (fun _ => True) (.slice (some ⟨b, 0, none⟩) 1 1) [⟨97, 97⟩] :=
  ⟨fun _ _ => trivial, [.int .i64 97, .int .i64 97], ⟨by decide, .inr ⟨b, 1, #[.int .i64 97, .int .i64 97], rfl, Nat.zero_le _, h, Nat.le_refl _, by decide, by decide, rfl⟩⟩, by
   refine ⟨rfl, fun j p hj => ?_⟩
   match j, hj with
   | 0, hj =>
    injection hj with hj
    subst hj
    exact k55_mkM _ _ _ ⟨97, 97⟩
   | j + 1, hj => simp at hj⟩
 exact (Kd.R_reads' hr).2.2
theorem new_builder (W : World) : BAt W W.heap.size (.slice none 0 0) (.slice none 0 0) [] [] (W.alloc (.cells #[.slice none 0 0, .slice none 0 0] 65 (0, 0))) :=
 ⟨Nat.le_refl _, blk_new W _, Kd.R_nil _ _ _ _ _, Kd.R_nil _ _ _ _ _, below_alloc (Below.refl _ _) _⟩
theorem lit_kept (W : World) : ∀ W', Kept ((W.alloc (.cells #[.slice none 0 0, .slice none 0 0] 65 (0, 0))).alloc (.cells #[.int .i64 97, .int .i64 97] 55 (0, 0))) W' (fun k => k = W.heap.size ∨ some k = (Value.slice none 0 0).ownBlock ∨ ((W.alloc (.cells #[.slice none 0 0, .slice none 0 0] 65 (0, 0))).alloc (.cells #[.int .i64 97, .int .i64 97] 55 (0, 0))).heap.size ≤ k) →
  Kd.C k55 W' (some ⟨W.heap.size + 1, 0, none⟩) [(⟨97, 97⟩ : S55)].length [⟨97, 97⟩] := by
 intro W' hk
 have h2 := (two_boxes W (.cells #[.slice none 0 0, .slice none 0 0] 65 (0, 0)) (.cells #[.int .i64 97, .int .i64 97] 55 (0, 0))).2
 refine lit55 ((hk.2 _ (blk_lt h2) ?_).trans h2)
 rintro (h | h | h)
 ·omega
 ·simp [Value.ownBlock] at h
 ·have := blk_lt h2
  omega
set_option maxRecDepth 100000 in
set_option maxHeartbeats 1000000 in
theorem new_calls (W : World) : Calls Try.prog 16 #[] W fun e W' => e = .returned (.pointer (some ⟨W.heap.size, 0, none⟩)) ∧ W' = W.alloc (.cells #[.slice none 0 0, .slice none 0 0] 65 (0, 0)) := by
 go_enter Try.func16, Try.ntmps16
 go_wp2
 go_ret
 exact ⟨rfl, rfl⟩
def spoollaw10_alive.f : Option Bool := some true
set_option maxRecDepth 100000 in
set_option maxHeartbeats 2000000 in
theorem spoollaw10_alive.calls (r : Bool) (w : World) (h : spoollaw10_alive.f = some r) : Calls Try.prog 7 #[] w fun e w' => e = .returned (.bool r) ∧ Below w.heap.size w w' := by
 cases h
 have h2 := (new_builder w).under (below_alloc (Below.refl _ _) (.cells #[.int .i64 97, .int .i64 97] 55 (0, 0)))
 have H2 := Aside0.mk h2
 have HL := Aside0.mk (lit_kept w)
 clear h2
 go_enter Try.func7, Try.ntmps7
 go_wp2_with (first | (go_at_call 16; (refine (new_calls w).mono ?_); rintro e w1 ⟨rfl, rfl⟩) | (go_at_call 18; (refine (set_calls w w.heap.size _ _ [] [] _ 1 [⟨97, 97⟩] _ H2.out HL.out (Nat.le_refl _) (by show 1 < 2 ^ 31; decide) (by show 0 < 4096; decide) (by show 0 < 2 ^ 31; decide)).mono ?_); rintro e w2 ⟨rfl, u1, v1, hf, -, -, -⟩; rw [ex_of] at hf; have H3 : Aside0 (BAt w w.heap.size u1 v1 [⟨2, 0, 0, 0, 0, 0⟩] [[⟨97, 97⟩]] w2) := ⟨hf⟩; clear hf) | (go_at_call 22; (refine (rep_calls w w.heap.size u1 v1 _ _ 0 0 (-1) _ H3.out ex_times (by decide) (by show (0 : Int) < 1; decide) (by show 1 < 4096; decide)).mono ?_); rintro e w3 ⟨rfl, u2, hf, hk, hat⟩; have H4 : Aside0 (BAt w w.heap.size u2 v1 exN exS w3) := ⟨hf⟩; clear hf hk hat) | (go_at_call 25; (refine (tree_calls w w.heap.size u2 v1 exN exS 1 _ H4.out (by decide) (by decide) (by decide) (by decide) (by decide)).mono ?_); rintro e w4 ⟨v0, v2, rfl, hn, hs, hb⟩; obtain ⟨A0, c0, rfl, l0, i0⟩ := Kd.R_reads hn; obtain ⟨A1, c1, rfl, l1, i1⟩ := Kd.R_reads hs; have I0 := Aside0.mk i0; have I1 := Aside0.mk i1; have L0 := Aside0.mk l0; have L1 := Aside0.mk l1; have HB4 : Aside0 (Below w.heap.size w w4) := ⟨below_then H4.out.below H4.out.below.size hb⟩; have HBX := Aside0.mk (blk_new w4 (.cells #[.slice A0 exN.length c0, .slice A1 exS.length c1, .int .i64 1] 25 (0, 0))); obtain ⟨z0, z1, z2⟩ := cells25 HBX.out; clear hn hs hb i0 i1 l0 l1) | (go_at_call 10; (refine (arena_Depth.calls 50 A0 c0 exN A1 c1 exS 1 2 _ (Kd.C_alloc I0.out _) L0.out (Kd.C_alloc I1.out _) L1.out ex_depth).mono ?_); rintro e w5 ⟨rfl, hb⟩; have HBT5 : Aside0 (Below w4.heap.size w4 w5) := ⟨below_then (below_alloc (Below.refl _ _) _) (by simp) hb⟩; have HBX5 := Aside0.mk (blk_below HBX.out hb); clear z0 z1 z2; obtain ⟨z0, z1, z2⟩ := cells25 HBX5.out; clear hb) | (go_at_call 11; (refine (arena_Size.calls 50 A0 c0 exN A1 c1 exS 1 2 _ (Kd.C_below I0.out HBT5.out) L0.out (Kd.C_below I1.out HBT5.out) L1.out ex_size).mono ?_); rintro e w6 ⟨rfl, hb⟩; have HBT6 : Aside0 (Below w4.heap.size w4 w6) := ⟨below_then HBT5.out HBT5.out.size hb⟩; have HBX6 := Aside0.mk (blk_below HBX5.out hb); clear z0 z1 z2; obtain ⟨z0, z1, z2⟩ := cells25 HBX6.out; clear hb) | (go_at_call 9; (refine (arena_Check.calls 50 A0 c0 exN A1 c1 exS 1 0 _ (Kd.C_below I0.out HBT6.out) L0.out (Kd.C_below I1.out HBT6.out) L1.out ex_check).mono ?_); rintro e w7 ⟨rfl, hb⟩; have HBT6b : Aside0 (Below w4.heap.size w4 w7) := ⟨below_then HBT6.out HBT6.out.size hb⟩; have HBX7 := Aside0.mk (blk_below HBX6.out hb); clear z0 z1 z2; obtain ⟨z0, z1, z2⟩ := cells25 HBX7.out; clear hb) | (go_at_call 12; (refine (arena_Same.calls 50 A0 c0 exN A1 c1 exS 1 A0 c0 exN A1 c1 exS 1 true _ (Kd.C_below I0.out HBT6b.out) L0.out (Kd.C_below I1.out HBT6b.out) L1.out (Kd.C_below I0.out HBT6b.out) L0.out (Kd.C_below I1.out HBT6b.out) L1.out ex_same).mono ?_); rintro e w8 ⟨rfl, hb⟩; have HBT7 : Aside0 (Below w4.heap.size w4 w8) := ⟨below_then HBT6b.out HBT6b.out.size hb⟩; have HBX8 := Aside0.mk (blk_below HBX7.out hb); clear z0 z1 z2; obtain ⟨z0, z1, z2⟩ := cells25 HBX8.out; clear hb))
 go_ret
 exact ⟨rfl, below_then HB4.out HB4.out.size HBT7.out⟩
end Go.Proofs.Ytbgoaigbkfibbaa.HandAlive
