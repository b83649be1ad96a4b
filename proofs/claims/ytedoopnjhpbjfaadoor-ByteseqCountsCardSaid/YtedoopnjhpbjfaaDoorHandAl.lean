/- The layer's example, by hand. Condition: the fuel. -/
import Derived.Test.YtedoopnjhpbjfaaDoorHandByOf
import Derived.Test.YtedoopnjhpbjfaaDoorHandByCount
import Derived.Test.YtedoopnjhpbjfaaDoorPBx0
import Derived.Test.YtedoopnjhpbjfaaDoorPBx5
set_option linter.unusedSimpArgs false
set_option linter.unusedVariables false
namespace Go.Proofs.YtedoopnjhpbjfaaDoor.HandAl
open Go.RowKit Go.Proofs.YtedoopnjhpbjfaaDoorW.PrintWords Go.Proofs.YtedoopnjhpbjfaaDoorW.PrintLast Go.Proofs.YtedoopnjhpbjfaaDoorW.PrintMore Go.Proofs.YtedoopnjhpbjfaaDoor.PB Go.Proofs.YtedoopnjhpbjfaaDoor.HandRows Go.Proofs.YtedoopnjhpbjfaaDoor.PlE Go.Proofs.YtedoopnjhpbjfaaDoor.PlB Go.Proofs.YtedoopnjhpbjfaaDoor.PlT Go.Proofs.YtedoopnjhpbjfaaDoor.HandByOf Go.Proofs.YtedoopnjhpbjfaaDoor.HandByCount
theorem ex_X0 : X [⟨128, 2047⟩] 0 = [] := by kernel_rfl
theorem ex_X1 : X [⟨128, 2047⟩] 1 = [⟨128, 2047⟩] := by kernel_rfl
theorem ex_X2 : X [⟨128, 2047⟩] 2 = [] := by kernel_rfl
theorem ex_X3 : X [⟨128, 2047⟩] 3 = [] := by kernel_rfl
theorem ex_cut : cut 128 2047 = none := by kernel_rfl
theorem ex_row : rowT ⟨128, 2047⟩ = [⟨194, 223⟩, ⟨128, 191⟩] := by kernel_rfl
theorem ex_tiles (k : Nat) (hk : 1 ≤ k) : (tiles k [⟨128, 2047⟩]).map rowT = exR := by
  obtain ⟨k, rfl⟩ : ∃ k', k = k' + 1 := ⟨k - 1, by omega⟩
  have hp : pT (k + 1) ⟨128, 2047⟩ = [⟨128, 2047⟩] := by
    unfold pT
    rw [parts]
    simp only
    rw [ex_cut]
    rfl
  unfold tiles til
  rw [ex_X0, ex_X1, ex_X2, ex_X3]
  simp only [List.flatMap_nil, List.flatMap_cons, List.append_nil, List.nil_append, hp, List.map_cons, List.map_nil, ex_row]
  rfl
theorem ex_any : byteseq_Any.f 20 exR (⟨#[195, 169]⟩ : ByteArray) = some true := by kernel_rfl
theorem eqA35 (d : Nat) (w : World) (x0 y0 x1 y1 : Int) :
    (Op.equalIn (d + 2) 35 (.agg #[.int .i64 x0, .int .i64 x1]) (.agg #[.int .i64 y0, .int .i64 y1])).run Tryd.prog w = .ok (x0 == y0 && (x1 == y1)) w := by
  refine eqA_of Tryd.underlying35 (by kernel_rfl) ?_
  refine eqf_cons (by rfl) (by go_simp; rfl) (by go_simp; rfl) (by go_simp) ?_
  exact eqf_last (by rfl) (by go_simp; rfl) (by go_simp; rfl) (by go_simp)
attribute [local go_sem high] eqA35
def spoollaw08_alive.f (k : Nat) : Option Bool := if 1200000 ≤ k then some true else none
theorem spoollaw08_alive.mono : ∀ k, LeO (spoollaw08_alive.f k) (spoollaw08_alive.f (k + 1)) := by
  intro k r h
  unfold spoollaw08_alive.f at h ⊢
  split at h
  · rw [if_pos (by omega)]; exact h
  · cases h
set_option maxRecDepth 100000 in
set_option maxHeartbeats 4000000 in
theorem spoollaw08_alive.calls (k : Nat) (r : Bool) (w : World) (hrG0 : Kd.C (Kd.int .i64) w (some ⟨0, 0, none⟩) tab_byteseq_gap.length tab_byteseq_gap) (hrG1 : Kd.C (Kd.int .i64) w (some ⟨1, 0, none⟩) tab_byteseq_limits.length tab_byteseq_limits) (h : spoollaw08_alive.f k = some r) :
    Calls Tryd.prog 5 #[] w fun e w' => e = .returned (.bool r) ∧ Below w.heap.size w w' := by
  unfold spoollaw08_alive.f at h
  split at h
  case isFalse => cases h
  rename_i hk
  obtain rfl := Option.some.inj h
  have HK := Aside0.mk hk
  have HBA := Aside0.mk (below_alloc (Below.refl w.heap.size w) (.cells #[.int .i64 128, .int .i64 2047] 35 (0, 0)))
  have HLIT := Aside0.mk (lit1 (blk_new w (.cells #[.int .i64 128, .int .i64 2047] 35 (0, 0))))
  have HG0 := Aside0.mk (Kd.C_below hrG0 HBA.out)
  have HG1 := Aside0.mk (Kd.C_below hrG1 HBA.out)
  clear hrG0 hrG1 h hk
  go_enter Tryd.func5, Tryd.ntmps5
  go_upto_region 2 with (first | (go_at_call 6; (refine (of_calls k HK.out (some ⟨w.heap.size, 0, none⟩) 1 [⟨128, 2047⟩] _ HG0.out HG1.out HLIT.out (Nat.le_refl _) (by decide)).mono ?_); rintro e w1 ⟨v0, rfl, hr, hb⟩; rw [ex_tiles k (by have := HK.out; omega)] at hr; obtain ⟨A1, c1, rfl, _, _⟩ := Kd.R_reads hr; have HB1 := Aside0.mk (below_then HBA.out HBA.out.size hb); have HR1 := Aside0.mk (Kd.R_reads' hr); clear hr hb))
  obtain ⟨ad, A2, c2, eA, s0, l0, h1⟩ := at_L3 (n := 1) HR1.out.2.2 0 (by decide) (by decide)
  have s0' : w1.cell? (ad.add 0) = some (.slice A2 2 c2) := s0
  have h1' : Kd.C k35 w1 A2 2 [⟨194, 223⟩, ⟨128, 191⟩] := h1
  obtain ⟨bd, eB, b0, b1⟩ := at_T35 (n := 2) h1' 0 (by decide) (by decide)
  obtain ⟨bd1, eB1, b2, b3⟩ := at_T35 (n := 2) h1' 1 (by decide) (by decide)
  subst eA eB
  injection eB1 with eB1
  subst eB1
  have b0' : w1.cell? (bd.add 0) = some (.int .i64 194) := b0
  have b1' : w1.cell? ⟨(bd.add 0).block, (bd.add 0).off + 1, none⟩ = some (.int .i64 223) := b1
  have b2' : w1.cell? (bd.add 2) = some (.int .i64 128) := b2
  have b3' : w1.cell? ⟨(bd.add 2).block, (bd.add 2).off + 1, none⟩ = some (.int .i64 191) := b3
  rw [show bd.add 0 = bd by cases bd; rfl] at b0' b1'
  rw [show ad.add 0 = ad by cases ad; rfl] at s0'
  have b2'' : w1.cell? ⟨bd.block, bd.off + 2, none⟩ = some (.int .i64 128) := b2'
  have b3'' : w1.cell? ⟨bd.block, bd.off + 2 + 1, none⟩ = some (.int .i64 191) := b3'
  have HR2 : Aside0 (Kd.C (Kd.slice 35 k35) w1 (some ad) 1 exR) := ⟨HR1.out.2.2⟩
  have HC1 : Aside0 (exR.length ≤ c1) := ⟨HR1.out.2.1⟩
  clear s0 l0 h1 h1' b0 b1 b2 b3 HR1
  show Code.wp _ _ _ _ _
  go_wp2_with (first | (go_at_call 10; (refine (byteseq_Any.calls 20 (some ad) c1 exR (⟨#[195, 169]⟩ : ByteArray) true _ HR2.out HC1.out ex_any).mono ?_); rintro e w2 ⟨rfl, hb⟩; have HB2 := Aside0.mk hb; clear hb) | (go_at_call 14; (refine (byteseq_Count.calls (some ad) c1 exR 1920 _ (Kd.C_below HR2.out HB2.out) HC1.out rfl).mono ?_); rintro e w3 ⟨rfl, hb⟩; have HB3 := Aside0.mk hb; clear hb))
  go_ret
  exact ⟨rfl, below_then HB1.out HB1.out.size (below_then HB2.out HB2.out.size HB3.out)⟩
end Go.Proofs.YtedoopnjhpbjfaaDoor.HandAl
