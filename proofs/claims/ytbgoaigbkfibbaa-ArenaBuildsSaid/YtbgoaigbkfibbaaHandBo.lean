/- A builder: what each call leaves; Empty, Cat, Alt, Rep. Conditions: bounds on the rows' lengths. -/
import Derived.Test.YtbgoaigbkfibbaaPAx0
import Derived.Test.YtbgoaigbkfibbaaPAx2
import Derived.Test.YtbgoaigbkfibbaaHandBm
set_option linter.unusedSimpArgs false
set_option linter.unusedVariables false
namespace Go.Proofs.Ytbgoaigbkfibbaa.HandBo
open Go.RowKit Go.Proofs.YtbgoaigbkfibbaaW.PrintWords Go.Proofs.YtbgoaigbkfibbaaW.PrintLast Go.Proofs.YtbgoaigbkfibbaaW.PrintMore Go.Proofs.Ytbgoaigbkfibbaa.PA Go.Proofs.Ytbgoaigbkfibbaa.HandRight Go.Proofs.Ytbgoaigbkfibbaa.HandBl Go.Proofs.Ytbgoaigbkfibbaa.HandBm Go.Proofs.Ytbgoaigbkfibbaa.HandOf Go.Proofs.Ytbgoaigbkfibbaa.Sets
/-- What a call of the builder may write. -/
def BK (g : Nat) (u v : Value) : Nat → Prop := fun k => k = g ∨ some k = u.ownBlock ∨ some k = v.ownBlock
/-- What a call of the builder leaves. -/
def BRes (w0 : World) (g : Nat) (u v : Value) (ns : List S41) (ss : List (List S55)) (W W' : World) : Prop :=
 ∃ u' v', BAt w0 g u' v' ns ss W' ∧ Kept W W' (BK g u v) ∧ (∀ k, some k = u'.ownBlock → some k = u.ownBlock ∨ W.heap.size ≤ k) ∧ (∀ k, some k = v'.ownBlock → some k = v.ownBlock ∨ W.heap.size ≤ k)
theorem BRes.same {w0 : World} {g : Nat} {u v : Value} {ns : List S41} {ss : List (List S55)} {W W' : World} (h : BAt w0 g u v ns ss W) (hb : Below W.heap.size W W') : BRes w0 g u v ns ss W W' :=
 ⟨u, v, h.under hb, Kept.of_below hb _, fun _ h => .inl h, fun _ h => .inl h⟩
theorem kept_sub {W W' : World} {S S' : Nat → Prop} (h : Kept W W' S) (hs : ∀ k, S k → S' k) : Kept W W' S' := ⟨h.1, fun i hi hn => h.2 i hi (fun q => hn (hs i q))⟩
theorem BRes.first {w0 : World} {g : Nat} {u v : Value} {ns : List S41} {ss : List (List S55)} {W W1 W' : World} (hb : Below W.heap.size W W1) (h : BRes w0 g u v ns ss W1 W') : BRes w0 g u v ns ss W W' := by
 obtain ⟨u', v', h1, h2, h3, h4⟩ := h
 exact ⟨u', v', h1, (Kept.of_below hb _).then_ h2 (fun k hk => .inl hk), fun k hk => (h3 k hk).imp_right (fun q => Nat.le_trans hb.size q), fun k hk => (h4 k hk).imp_right (fun q => Nat.le_trans hb.size q)⟩
theorem add_res {w0 : World} {g : Nat} {u v : Value} {ns : List S41} {ss : List (List S55)} {W W' : World} (h : ∃ u', BAt w0 g u' v ns ss W' ∧ Kept W W' (fun k => k = g ∨ some k = u.ownBlock) ∧ (∀ k, some k = u'.ownBlock → some k = u.ownBlock ∨ W.heap.size ≤ k)) : BRes w0 g u v ns ss W W' := by
 obtain ⟨u', h1, h2, h3⟩ := h
 exact ⟨u', v, h1, kept_sub h2 (fun k hk => hk.imp_right .inl), h3, fun _ h => .inl h⟩
theorem lit_two (W : World) (a b : Int) : Kd.C (Kd.int .i64) (W.alloc (.cells #[.int .i64 a, .int .i64 b] 3)) (some ⟨W.heap.size, 0, none⟩) [a, b].length [a, b] := by
 have h : (Kd.int .i64).R 3 (W.alloc (.cells #[.int .i64 a, .int .i64 b] 3)) W.heap.size (fun _ => True) (.slice (some ⟨W.heap.size, 0, none⟩) 2 2) [a, b] :=
  ⟨fun _ _ => trivial, [.int .i64 a, .int .i64 b], World.ownsRow_lit (base := W.heap.size) (e := 3) (size := 1) W #[.int .i64 a, .int .i64 b] 2 (Nat.le_refl _) (by decide) rfl, Reps.one rfl (Reps.one rfl (Reps.none _ _))⟩
 exact (Kd.R_reads' h).2.2
set_option maxRecDepth 100000 in
set_option maxHeartbeats 1000000 in
theorem empty_calls (w0 : World) (g : Nat) (u v : Value) (ns : List S41) (ss : List (List S55)) (W : World) (h : BAt w0 g u v ns ss W) (hn : ns.length < 4096) :
  Calls Try.prog 17 #[.pointer (some ⟨g, 0, none⟩)] W fun e W' => e = .returned (.int .i64 (ns.length : Int)) ∧ BRes w0 g u v (ns ++ [⟨1, 0, 0, 0, 0, 0⟩]) ss W W' := by
 have H := Aside0.mk h
 have HN := Aside0.mk hn
 clear h hn
 go_enter Try.func17, Try.ntmps17
 go_wp2_with (go_at_call 36; (refine (add_calls w0 g u v ns ss 1 0 0 0 0 0 _ H.out _ _ [] (Kd.C_nil _ _) (by show 0 < 2 ^ 31; decide) rfl HN.out).mono ?_); rintro e w1 ⟨rfl, hf⟩; have HF := Aside0.mk (add_res hf); clear hf)
 go_ret
 exact ⟨rfl, HF.out⟩
set_option maxRecDepth 100000 in
set_option maxHeartbeats 1000000 in
theorem cat_calls (w0 : World) (g : Nat) (u v : Value) (ns : List S41) (ss : List (List S55)) (x y : Int) (W : World) (h : BAt w0 g u v ns ss W) (hn : ns.length < 4096) (hx : thereB ns.length [x, y] = true) :
  Calls Try.prog 20 #[.pointer (some ⟨g, 0, none⟩), .int .i64 x, .int .i64 y] W fun e W' => e = .returned (.int .i64 (ns.length : Int)) ∧ BRes w0 g u v (ns ++ [⟨3, x, y, 0, 0, 0⟩]) ss W W' := by
 have H := Aside0.mk h
 have HN := Aside0.mk hn
 have HX := Aside0.mk hx
 clear h hn hx
 go_enter Try.func20, Try.ntmps20
 go_wp2_with (go_at_call 36; (refine (add_calls w0 g u v ns ss 3 x y 0 0 0 _ (H.out.under (below_alloc (Below.refl _ _) _)) _ _ [x, y] (lit_two _ x y) (by show 2 < 2 ^ 31; decide) HX.out HN.out).mono ?_); rintro e w1 ⟨rfl, hf⟩; have HF := Aside0.mk ((add_res hf).first (below_alloc (Below.refl _ _) _)); clear hf)
 go_ret
 exact ⟨rfl, HF.out⟩
set_option maxRecDepth 100000 in
set_option maxHeartbeats 1000000 in
theorem cat_not (w0 : World) (g : Nat) (u v : Value) (ns : List S41) (ss : List (List S55)) (x y : Int) (W : World) (h : BAt w0 g u v ns ss W) (hn : ns.length < 4096) (hx : thereB ns.length [x, y] = false) :
  Calls Try.prog 20 #[.pointer (some ⟨g, 0, none⟩), .int .i64 x, .int .i64 y] W fun e W' => e = .returned (.int .i64 (-1)) ∧ BRes w0 g u v ns ss W W' := by
 have H := Aside0.mk h
 have HN := Aside0.mk hn
 have HX := Aside0.mk hx
 clear h hn hx
 go_enter Try.func20, Try.ntmps20
 go_wp2_with (go_at_call 36; (refine (add_not w0 g u v ns ss 3 x y 0 0 0 _ (H.out.under (below_alloc (Below.refl _ _) _)) _ _ [x, y] (lit_two _ x y) (by show 2 < 2 ^ 31; decide) HX.out HN.out).mono ?_); rintro e w1 ⟨rfl, hf⟩; have HF : Aside0 (Below W.heap.size W w1) := ⟨below_then (below_alloc (Below.refl _ _) _) (below_alloc (Below.refl _ _) _).size hf⟩; clear hf)
 go_ret
 exact ⟨rfl, BRes.same H.out HF.out⟩
set_option maxRecDepth 100000 in
set_option maxHeartbeats 1000000 in
theorem alt_calls (w0 : World) (g : Nat) (u v : Value) (ns : List S41) (ss : List (List S55)) (x y : Int) (W : World) (h : BAt w0 g u v ns ss W) (hn : ns.length < 4096) (hx : thereB ns.length [x, y] = true) :
  Calls Try.prog 21 #[.pointer (some ⟨g, 0, none⟩), .int .i64 x, .int .i64 y] W fun e W' => e = .returned (.int .i64 (ns.length : Int)) ∧ BRes w0 g u v (ns ++ [⟨4, x, y, 0, 0, 0⟩]) ss W W' := by
 have H := Aside0.mk h
 have HN := Aside0.mk hn
 have HX := Aside0.mk hx
 clear h hn hx
 go_enter Try.func21, Try.ntmps21
 go_wp2_with (go_at_call 36; (refine (add_calls w0 g u v ns ss 4 x y 0 0 0 _ (H.out.under (below_alloc (Below.refl _ _) _)) _ _ [x, y] (lit_two _ x y) (by show 2 < 2 ^ 31; decide) HX.out HN.out).mono ?_); rintro e w1 ⟨rfl, hf⟩; have HF := Aside0.mk ((add_res hf).first (below_alloc (Below.refl _ _) _)); clear hf)
 go_ret
 exact ⟨rfl, HF.out⟩
set_option maxRecDepth 100000 in
set_option maxHeartbeats 1000000 in
theorem alt_not (w0 : World) (g : Nat) (u v : Value) (ns : List S41) (ss : List (List S55)) (x y : Int) (W : World) (h : BAt w0 g u v ns ss W) (hn : ns.length < 4096) (hx : thereB ns.length [x, y] = false) :
  Calls Try.prog 21 #[.pointer (some ⟨g, 0, none⟩), .int .i64 x, .int .i64 y] W fun e W' => e = .returned (.int .i64 (-1)) ∧ BRes w0 g u v ns ss W W' := by
 have H := Aside0.mk h
 have HN := Aside0.mk hn
 have HX := Aside0.mk hx
 clear h hn hx
 go_enter Try.func21, Try.ntmps21
 go_wp2_with (go_at_call 36; (refine (add_not w0 g u v ns ss 4 x y 0 0 0 _ (H.out.under (below_alloc (Below.refl _ _) _)) _ _ [x, y] (lit_two _ x y) (by show 2 < 2 ^ 31; decide) HX.out HN.out).mono ?_); rintro e w1 ⟨rfl, hf⟩; have HF : Aside0 (Below W.heap.size W w1) := ⟨below_then (below_alloc (Below.refl _ _) _) (below_alloc (Below.refl _ _) _).size hf⟩; clear hf)
 go_ret
 exact ⟨rfl, BRes.same H.out HF.out⟩
set_option maxRecDepth 100000 in
set_option maxHeartbeats 1000000 in
theorem rep_not (w0 : World) (g : Nat) (u v : Value) (ns : List S41) (ss : List (List S55)) (x lo hi : Int) (W : World) (h : BAt w0 g u v ns ss W) (hn : ns.length < 4096) (b : Bool) (ht : arena_times.f lo hi = some b) (hb : (b && thereB ns.length [x]) = false) :
  Calls Try.prog 22 #[.pointer (some ⟨g, 0, none⟩), .int .i64 x, .int .i64 lo, .int .i64 hi] W fun e W' => e = .returned (.int .i64 (-1)) ∧ BRes w0 g u v ns ss W W' := by
 have H := Aside0.mk h
 have HT := Aside0.mk ht
 have HN := Aside0.mk hn
 cases b with
 | false =>
  clear h ht hn hb
  go_enter Try.func22, Try.ntmps22
  go_wp2_with (go_at_call 40; (refine (arena_times.calls lo hi false _ HT.out).mono ?_); rintro e w4 ⟨rfl, ⟨nd, rfl⟩⟩; have hbd : Below W.heap.size W (W.drewN nd) := pw_below_drewN (Below.refl _ W) nd; have HBD := Aside0.mk hbd; clear hbd)
  go_ret
  exact ⟨rfl, BRes.same H.out HBD.out⟩
 | true =>
  have HX : Aside0 (thereB ns.length [x] = false) := ⟨by simpa using hb⟩
  clear h ht hn hb
  go_enter Try.func22, Try.ntmps22
  go_wp2_with (first | (go_at_call 40; (refine (arena_times.calls lo hi true _ HT.out).mono ?_); rintro e w4 ⟨rfl, ⟨nd, rfl⟩⟩; have hbd : Below W.heap.size W (W.drewN nd) := pw_below_drewN (Below.refl _ W) nd; have H4 := Aside0.mk (H.out.under hbd); have HBD := Aside0.mk hbd; clear hbd) | (go_at_call 36; (refine (add_not w0 g u v ns ss 5 x 0 lo hi 0 _ (H4.out.under (below_alloc (Below.refl _ _) _)) _ _ [x] (lit_int _ x) (by show 1 < 2 ^ 31; decide) HX.out HN.out).mono ?_); rintro e w5 ⟨rfl, hf⟩; have HF : Aside0 (Below W.heap.size W w5) := ⟨below_then (below_alloc HBD.out _) (below_alloc HBD.out _).size hf⟩; clear hf))
  go_ret
  exact ⟨rfl, BRes.same H.out HF.out⟩
end Go.Proofs.Ytbgoaigbkfibbaa.HandBo
