/- A set's rows: the rows that are put by (out), the closure that puts one by. No condition. -/
import Derived.Test.YtedoopnjhpbjfaaDoorPBx0
set_option linter.unusedSimpArgs false
set_option linter.unusedVariables false
namespace Go.Proofs.YtedoopnjhpbjfaaDoor.HandRows
open Go.RowKit Go.Proofs.YtedoopnjhpbjfaaDoorW.PrintWords Go.Proofs.YtedoopnjhpbjfaaDoorW.PrintLast Go.Proofs.YtedoopnjhpbjfaaDoorW.PrintMore Go.Proofs.YtedoopnjhpbjfaaDoor.PB
theorem info22 : (Tryd.prog.info? 22).map (fun i => (i.zero, i.size, i.bytes)) = some (some (.slice none 0 0), 1, 24) := by kernel_rfl
abbrev kR : Kd (List S35) := Kd.slice 35 k35
/-- The rows that are put by: a box of its own. -/
structure RAt (w0 : World) (g : Nat) (v : Value) (rs : List (List S35)) (W : World) : Prop where
  lo : w0.heap.size ≤ g
  box : W.heap[g]? = some (.cells #[v] 24 (0, 0))
  r : kR.R 22 W w0.heap.size (fun _ => True) v rs
  below : Below w0.heap.size w0 W
theorem RAt.under {w0 : World} {g : Nat} {v : Value} {rs : List (List S35)} {W W' : World} (h : RAt w0 g v rs W) (hb : Below W.heap.size W W') : RAt w0 g v rs W' :=
  ⟨h.lo, blk_below h.box hb, Kd.R_below h.r hb, below_then h.below h.below.size hb⟩
/-- What a call that puts rows by leaves. -/
def RRes (w0 : World) (g : Nat) (v : Value) (rs : List (List S35)) (W W' : World) : Prop :=
  ∃ v', RAt w0 g v' rs W' ∧ Kept W W' (fun k => k = g ∨ some k = v.ownBlock) ∧ ∀ k, some k = v'.ownBlock → some k = v.ownBlock ∨ W.heap.size ≤ k
theorem RRes.of {w0 : World} {g : Nat} {v v1 : Value} {rs : List (List S35)} {W w W' : World} (hk : Kept W w (fun k => k = g ∨ some k = v.ownBlock)) (hv : ∀ k, some k = v1.ownBlock → some k = v.ownBlock ∨ W.heap.size ≤ k) (h : RRes w0 g v1 rs w W') : RRes w0 g v rs W W' := by
  obtain ⟨v', h1, h2, h3⟩ := h
  refine ⟨v', h1, hk.then_ h2 ?_, fun k q => ?_⟩
  · rintro k (q | q)
    · exact .inl (.inl q)
    · exact (hv k q).imp .inr id
  · rcases h3 k q with q | q
    · exact hv k q
    · exact .inr (Nat.le_trans hk.1 q)
/-- Below first. -/
theorem RRes.since {w0 : World} {g : Nat} {v : Value} {rs : List (List S35)} {W w W' : World} (hb : Below W.heap.size W w) (h : RRes w0 g v rs w W') : RRes w0 g v rs W W' :=
  RRes.of (Kept.of_below hb _) (fun _ q => .inl q) h
theorem blk_typed {α : Type} {d : Kd α} {e base : Nat} {ok : Nat → Prop} {W : World} {v : Value} {xs : List α} (h : d.R e W base ok v xs) {k t : Nat} {cells : Array Value} (hk : some k = v.ownBlock) (hc : W.heap[k]? = some (.cells cells t (0, 0))) : t = e := by
  obtain ⟨c2, h2⟩ := Kd.R_typed h k hk.symm
  rw [h2] at hc
  injection hc with hc
  injection hc with _ h3
  exact h3.symm
/-- A row of ranges stays. -/
theorem row_kept {w0 : World} {g : Nat} {v u : Value} {rs : List (List S35)} {W W' : World} {base : Nat} {ok : Nat → Prop} {xs : List S35} (hR : RAt w0 g v rs W) (h : k35.R 35 W base ok u xs) (hk : Kept W W' (fun k => k = g ∨ some k = v.ownBlock)) : k35.R 35 W' base (fun _ => True) u xs := by
  refine Kd.R_mono (Kd.R_kept (Kd.R_tight rfl h) hk ?_) (fun _ _ => trivial)
  rintro k q (e | e)
  · subst e; have := blk_typed h q hR.box; omega
  · obtain ⟨c, hc⟩ := Kd.R_typed hR.r k e.symm
    have := blk_typed h q hc
    omega
/-- The closure: one row more. -/
theorem put_calls (w0 : World) (g : Nat) (v : Value) (rs : List (List S35)) (A : Option Addr) (c : Nat) (row : List S35) (W : World) (h : RAt w0 g v rs W) (hr : k35.R 35 W w0.heap.size (fun _ => True) (.slice A row.length c) row) (hl : rs.length < 100000) :
    Calls Tryd.prog 18 #[.slice A row.length c, .pointer (some ⟨g, 0, none⟩)] W fun e W' => e = .returned (.tuple #[]) ∧ RRes w0 g v (rs ++ [row]) W W' := by
  obtain ⟨U, cu, eu, _, _⟩ := Kd.R_reads h.r
  subst eu
  have H := Aside0.mk h
  have HRW := Aside0.mk hr
  have hg0 : W.cell? ⟨g, 0, none⟩ = some (.slice U rs.length cu) := (blk_cell h.box 0).trans rfl
  have HL := Aside0.mk hl
  clear h hr hl
  go_enter Tryd.func18, Tryd.ntmps18
  go_wp2_with (at_builtin; refine Kd.R_append kR (w0 := w0) w0.heap.size rfl (.tmp 3) (.tmp 5) 24 22 (.slice none 0 0) 24 rfl Tryd.underlying24 info22 rfl (by decide) (by omega) (.slice U rs.length cu) rs row [.slice A row.length c] (fun _ => True) (fun k => True ∧ some k ≠ (Value.slice U rs.length cu).ownBlock) rfl rfl (Kd.M_row (Kd.R_apartR HRW.out H.out.r (by decide))) (fun _ hk => hk) (fun _ _ => trivial) H.out.r H.out.below H.out.below.size (by have := HL.out; omega) ?_; intro z1 w9 ho hb hg hat; have b9 := blk_grown H.out.box hg (Kd.R_ne H.out.r H.out.box (by decide)); have c9 : w9.cell? ⟨g, 0, none⟩ = some (.slice U rs.length cu) := (blk_cell b9 0).trans rfl; have f9 := blk_frozen b9 0; have HO := Aside0.mk ho; have HB := Aside0.mk hb; have HG := Aside0.mk hg; have HAT := Aside0.mk hat; have HB9 := Aside0.mk b9; obtain ⟨AZ, cz, ez, _, _⟩ := Kd.R_reads ho; rw [show (rs ++ [row]).length = rs.length + 1 by simp] at ez; subst ez; clear ho hb hg hat b9)
  go_end0
  refine ⟨rfl, _, ⟨H.out.lo, blk_put HB9.out 0 _ rfl, Kd.R_set HO.out HB9.out (by decide) 0 _, HB.out.setCell H.out.lo _⟩, ?_, ?_⟩
  · refine Kept.setCell (p := ⟨g, 0, none⟩) ⟨HG.out.size, fun i hi hn => HG.out.block i hi (fun q => hn (.inr q))⟩ (.inl (.inl rfl)) _
  · intro k q
    rcases HAT.out with e | ⟨b, e, hb⟩
    · exact .inl (q.trans e)
    · rw [e] at q
      injection q with q
      exact .inr (by omega)
end Go.Proofs.YtedoopnjhpbjfaaDoor.HandRows
