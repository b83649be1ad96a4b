/- byteseq.Of: a set's rows. Conditions: the fuel, not too many ranges. -/
import Derived.Test.YtedoopnjhpbjfaaDoorPBx0
import Derived.Test.YtedoopnjhpbjfaaDoorPBx2
import Derived.Test.YtedoopnjhpbjfaaDoorPBx4
import Derived.Test.YtedoopnjhpbjfaaDoorHandPart
import Derived.Test.YtedoopnjhpbjfaaDoorPlT
set_option linter.unusedSimpArgs false
set_option linter.unusedVariables false
namespace Go.Proofs.YtedoopnjhpbjfaaDoor.HandByOf
open Go.RowKit Go.Proofs.YtedoopnjhpbjfaaDoorW.PrintWords Go.Proofs.YtedoopnjhpbjfaaDoorW.PrintLast Go.Proofs.YtedoopnjhpbjfaaDoorW.PrintMore Go.Proofs.YtedoopnjhpbjfaaDoor.PB Go.Proofs.YtedoopnjhpbjfaaDoor.HandRows Go.Proofs.YtedoopnjhpbjfaaDoor.HandPart Go.Proofs.YtedoopnjhpbjfaaDoor.PlE Go.Proofs.YtedoopnjhpbjfaaDoor.PlB Go.Proofs.YtedoopnjhpbjfaaDoor.PlT Go.Proofs.YtedoopnjhpbjfaaDoor.Sets Go.Proofs.YtedoopnjhpbjfaaDoor.PfR
theorem lit1 {w : World} {b : Nat} {x y : Int} (h : w.heap[b]? = some (.cells #[.int .i64 x, .int .i64 y] 35 (0, 0))) : Kd.C k35 w (some ⟨b, 0, none⟩) [(⟨x, y⟩ : S35)].length [⟨x, y⟩] := by
  have hr : k35.R 35 w 0 (fun _ => True) (.slice (some ⟨b, 0, none⟩) 1 1) [⟨x, y⟩] :=
    ⟨fun _ _ => trivial, [.int .i64 x, .int .i64 y], ⟨by rfl, .inr ⟨b, 1, #[.int .i64 x, .int .i64 y], rfl, Nat.zero_le _, h, Nat.le_refl _, by decide, by rfl, rfl⟩⟩, by
      refine ⟨rfl, fun j p hj => ?_⟩
      match j, hj with
      | 0, hj =>
        injection hj with hj
        subst hj
        exact k35_mkM _ _ _ ⟨x, y⟩
      | j + 1, hj => simp at hj⟩
  exact (Kd.R_reads' hr).2.2
theorem cells_gap {w : World} (h : Kd.C (Kd.int .i64) w (some ⟨0, 0, none⟩) tab_byteseq_gap.length tab_byteseq_gap) : w.cell? ⟨0, 0, none⟩ = some (.int .i64 55296) ∧ w.cell? ⟨0, 1, none⟩ = some (.int .i64 57343) := by
  obtain ⟨ad, e, h0⟩ := Kd.at_int h 0 (by decide) (by decide)
  obtain ⟨ad1, e1, h1⟩ := Kd.at_int h 1 (by decide) (by decide)
  injection e with e
  injection e1 with e1
  subst e e1
  exact ⟨h0, h1⟩
theorem cells_lim {w : World} (h : Kd.C (Kd.int .i64) w (some ⟨1, 0, none⟩) tab_byteseq_limits.length tab_byteseq_limits) : w.cell? ⟨1, 0, none⟩ = some (.int .i64 127) ∧ w.cell? ⟨1, 1, none⟩ = some (.int .i64 2047) ∧ w.cell? ⟨1, 2, none⟩ = some (.int .i64 65535) ∧ w.cell? ⟨1, 3, none⟩ = some (.int .i64 1114111) := by
  obtain ⟨ad, e, h0⟩ := Kd.at_int h 0 (by decide) (by decide)
  obtain ⟨ad1, e1, h1⟩ := Kd.at_int h 1 (by decide) (by decide)
  obtain ⟨ad2, e2, h2⟩ := Kd.at_int h 2 (by decide) (by decide)
  obtain ⟨ad3, e3, h3⟩ := Kd.at_int h 3 (by decide) (by decide)
  injection e with e
  injection e1 with e1
  injection e2 with e2
  injection e3 with e3
  subst e e1 e2 e3
  exact ⟨h0, h1, h2, h3⟩
theorem idx0 (w : World) : (Instr.index 40 (.agg #[.int .i64 127, .int .i64 2047, .int .i64 65535, .int .i64 1114111]) (.int .i64 0)).run Tryd.prog w = .ok (.int .i64 127) w := by rfl
theorem idx1 (w : World) : (Instr.index 40 (.agg #[.int .i64 127, .int .i64 2047, .int .i64 65535, .int .i64 1114111]) (.int .i64 1)).run Tryd.prog w = .ok (.int .i64 2047) w := by rfl
theorem idx2 (w : World) : (Instr.index 40 (.agg #[.int .i64 127, .int .i64 2047, .int .i64 65535, .int .i64 1114111]) (.int .i64 2)).run Tryd.prog w = .ok (.int .i64 65535) w := by rfl
theorem idx3 (w : World) : (Instr.index 40 (.agg #[.int .i64 127, .int .i64 2047, .int .i64 65535, .int .i64 1114111]) (.int .i64 3)).run Tryd.prog w = .ok (.int .i64 1114111) w := by rfl
attribute [local go_sem high] idx0 idx1 idx2 idx3
def tilN (k : Nat) (l : List S35) : Nat → List S35
  | 0 => []
  | i + 1 => tilN k l i ++ til k l i
theorem tilN_4 (k : Nat) (l : List S35) : tilN k l 4 = tiles k l := by simp [tilN, tiles]
def fromN (i : Nat) : Int := match i with
  | 0 => 0
  | 1 => 128
  | 2 => 2048
  | 3 => 65536
  | _ => 1114112
set_option maxRecDepth 100000 in
set_option maxHeartbeats 8000000 in
theorem of_calls (k : Nat) (hk : 1200000 ≤ k) (A0 : Option Addr) (c0 : Nat) (l : List S35) (w : World) (hrG0 : Kd.C (Kd.int .i64) w (some ⟨0, 0, none⟩) tab_byteseq_gap.length tab_byteseq_gap) (hrG1 : Kd.C (Kd.int .i64) w (some ⟨1, 0, none⟩) tab_byteseq_limits.length tab_byteseq_limits)
    (hr0 : Kd.C k35 w A0 l.length l) (hc0 : l.length ≤ c0) (hl : l.length ≤ 1000) :
    Calls Tryd.prog 6 #[.slice A0 l.length c0] w fun e w' => ∃ v0_ : Value, e = .returned v0_ ∧ kR.R 22 w' w.heap.size (fun _ => True) v0_ ((tiles k l).map rowT) ∧ Below w.heap.size w w' := by
  obtain ⟨g0, g1⟩ := cells_gap hrG0
  obtain ⟨m0, m1, m2, m3⟩ := cells_lim hrG1
  have HM := Aside0.mk (And.intro m0 (And.intro m1 (And.intro m2 m3)))
  have HKK := Aside0.mk hk
  have HL0 := Aside0.mk hl
  have HC0 := Aside0.mk hc0
  have HLIT := Aside0.mk (lit1 (blk_new w (.cells #[.int .i64 55296, .int .i64 57343] 35 (0, 0))))
  have HBA := Aside0.mk (below_alloc (Below.refl w.heap.size w) (.cells #[.int .i64 55296, .int .i64 57343] 35 (0, 0)))
  have HR0 := Aside0.mk (Kd.C_below hr0 HBA.out)
  have HLESS : Aside0 (ranges_Less.f 8000 l [gapR] = some (lessG l)) := ⟨Less_f l [gapR] (by omega) (by simp) 8000 (by simp; omega)⟩
  clear hrG0 hrG1 hr0 hc0 hl hk m0 m1 m2 m3
  go_enter Tryd.func6, Tryd.ntmps6
  go_upto_region 2 with (first | (go_at_call 15; (refine (ranges_Less.calls 8000 A0 c0 l (some ⟨w.heap.size, 0, none⟩) 1 [gapR] (lessG l) _ HR0.out HC0.out HLIT.out (Nat.le_refl _) HLESS.out).mono ?_); rintro e w1 ⟨v0, rfl, hr, hb⟩; obtain ⟨A1, c1, rfl, _, _⟩ := Kd.R_reads hr; have HB1 := Aside0.mk (below_then HBA.out HBA.out.size hb); have HLR := Aside0.mk (Kd.R_lower hr HBA.out.size); clear hr hb))
  have hba := below_alloc (Below.refl w1.heap.size w1) (.cells #[.slice none 0 0] 24 (0, 0))
  have HB3 := Aside0.mk (below_then HB1.out HB1.out.size hba)
  have HR3 : Aside0 (RAt w w1.heap.size (.slice none 0 0) [] (w1.alloc (.cells #[.slice none 0 0] 24 (0, 0)))) := ⟨⟨HB1.out.size, blk_new w1 _, Kd.R_nil _ _ _ _ _, HB3.out⟩⟩
  have HL3 := Aside0.mk (Kd.R_below HLR.out hba)
  obtain ⟨m0, m1, m2, m3⟩ : (w1.alloc (.cells #[.slice none 0 0] 24 (0, 0))).cell? ⟨1, 0, none⟩ = some (.int .i64 127) ∧ (w1.alloc (.cells #[.slice none 0 0] 24 (0, 0))).cell? ⟨1, 1, none⟩ = some (.int .i64 2047) ∧ (w1.alloc (.cells #[.slice none 0 0] 24 (0, 0))).cell? ⟨1, 2, none⟩ = some (.int .i64 65535) ∧ (w1.alloc (.cells #[.slice none 0 0] 24 (0, 0))).cell? ⟨1, 3, none⟩ = some (.int .i64 1114111) := by
    have cw : ∀ {p : Addr} {z : Value}, w.cell? p = some z → (w1.alloc (.cells #[.slice none 0 0] 24 (0, 0))).cell? p = some z := fun h => (HB3.out.cell (World.block_lt_of_cell? w _ h)).trans h
    exact ⟨cw HM.out.1, cw HM.out.2.1, cw HM.out.2.2.1, cw HM.out.2.2.2⟩
  clear hba HBA HLIT HR0 HLESS HB1 HLR g0 g1
  obtain ⟨g, hg⟩ : ∃ g, w1.heap.size = g := ⟨_, rfl⟩
  go_wp2_with fail
  rw [hg] at HR3
  clear hg m0 m1 m2 m3
  generalize w1.alloc (.cells #[.slice none 0 0] 24 (0, 0)) = w3 at HB3 HR3 HL3 ⊢
  go_loopg [4, 18] 5 (fun kq v4 v18 w' => ∃ (i : Nat) (x y : Int), v4 = .int .i64 x ∧ v18 = .int .i64 y ∧ Aside0 (x = fromN i ∧ y = (i : Int)) ∧ Aside0 (kq + i = 5) ∧ Aside0 (i ≤ 4) ∧ Aside0 (∃ v, RAt w g v ((tilN k l i).map rowT) w') ∧ Aside0 (k35.R 35 w' w.heap.size (fun _ => True) (.slice A1 (lessG l).length c1) (lessG l)))
  case atStart => exact ⟨0, 0, 0, rfl, rfl, ⟨rfl, rfl⟩, ⟨rfl⟩, ⟨by omega⟩, ⟨_, HR3.out⟩, HL3⟩
  case round =>
    clear HR3 HL3 HB3
    obtain ⟨i, x, y, rfl, rfl, HXY, HK, HI, HE, HLR⟩ := hrel
    have hi := HI.out
    have hi4 : i = 0 ∨ i = 1 ∨ i = 2 ∨ i = 3 ∨ i = 4 := by omega
    clear hi
    rcases hi4 with rfl | rfl | rfl | rfl | rfl
    · have hx : x = 0 := HXY.out.1
      have hy : y = 0 := HXY.out.2
      subst hx hy
      cases gk with
      | zero => have := HK.out; omega
      | succ k1 =>
        obtain ⟨v, hR⟩ := HE.out
        have hlit := lit1 (blk_new wr (.cells #[.int .i64 0, .int .i64 127] 35 (0, 0)))
        have hba := below_alloc (Below.refl wr.heap.size wr) (.cells #[.int .i64 0, .int .i64 127] 35 (0, 0))
        have HLIT := Aside0.mk hlit
        have HBA := Aside0.mk hba
        have HR := Aside0.mk hR
        have HBOTH : Aside0 (ranges_Both.f 8000 (lessG l) [lim 0] = some (X l 0)) := ⟨Both_f _ _ (by have := lessG_len l; have := HL0.out; omega) (by simp) 8000 (by have := lessG_len l; have := HL0.out; simp; omega)⟩
        have HCLS : Aside0 (∀ r ∈ X l 0, Cls (0 + 1) r.f0 r.f1) := ⟨X_cls l 0 (by omega)⟩
        have HPT : Aside0 (∀ r ∈ X l 0, parts k r.f0 r.f1 = some (pT k r)) := ⟨(til_good l 0 (by omega) k HKK.out).1⟩
        have HFEW : Aside0 ((tilN k l 0).length + (til k l 0).length < 100000) := ⟨by have h := fun j hj => til_len l j hj k HKK.out; have h0 := h 0 (by omega); have h1 := h 1 (by omega); have h2 := h 2 (by omega); have h3 := h 3 (by omega); have := HL0.out; simp only [tilN, List.length_append, List.length_nil]; omega⟩
        clear hlit hba hR
        go_wp2_with (first | (go_at_call 16; (refine (ranges_Both.calls 8000 A1 c1 (lessG l) (some ⟨wr.heap.size, 0, none⟩) 1 [lim 0] (X l 0) _ (Kd.R_reads' (Kd.R_below HLR.out HBA.out)).2.2 (Kd.R_reads' HLR.out).2.1 HLIT.out (Nat.le_refl _) HBOTH.out).mono ?_); rintro e w2 ⟨v2, rfl, hr, hb⟩; obtain ⟨A2, c2, rfl, _, _⟩ := Kd.R_reads hr; have HB2 := Aside0.mk (below_then HBA.out HBA.out.size hb); have HX2 := Aside0.mk (Kd.R_lower hr (Nat.le_trans HR.out.below.size HBA.out.size)); have HR2 := Aside0.mk (HR.out.under HB2.out); have HLR2 := Aside0.mk (Kd.R_below HLR.out HB2.out); clear hr hb))
        have HE2 : Aside0 (∃ v, RAt w g v ((tilN k l 0 ++ ((X l 0).take 0).flatMap (pT k)).map rowT) w2) := ⟨v, by simpa using HR2.out⟩
        clear HR HLIT HBA HBOTH HB2 HR2 HE HLR
        go_loopg [28] ((X l 0).length + 1) (fun kq v28 w' => ∃ (z : Int) (j : Nat), v28 = .int .i64 z ∧ Aside0 (z = (j : Int)) ∧ Aside0 (j + kq = (X l 0).length + 1) ∧ Aside0 (j ≤ (X l 0).length) ∧ Aside0 (∃ v, RAt w g v ((tilN k l 0 ++ ((X l 0).take j).flatMap (pT k)).map rowT) w') ∧ Aside0 (k35.R 35 w' w.heap.size (fun _ => True) (.slice A2 (X l 0).length c2) (X l 0)) ∧ Aside0 (k35.R 35 w' w.heap.size (fun _ => True) (.slice A1 (lessG l).length c1) (lessG l)))
        case atStart => exact ⟨0, 0, rfl, ⟨rfl⟩, ⟨by omega⟩, ⟨Nat.zero_le _⟩, HE2, HX2, HLR2⟩
        case round =>
          clear HE2 HX2 HLR2
          obtain ⟨z, j, rfl, HZ, HJ, HJ2, HEj, HXj, HLj⟩ := hrel
          have hz := HZ.out
          obtain ⟨v, hR⟩ := HEj.out
          by_cases cc : j < (X l 0).length
          · have p1 : 0 ≤ z := by omega
            have p2 : z < ((X l 0).length : Int) := by omega
            obtain ⟨ad, eA, s0, s1⟩ := at_T35 (Kd.R_reads' HXj.out).2.2 z p1 p2
            obtain ⟨a, b, hE⟩ : ∃ a b, rd_T35 (X l 0) z = ⟨a, b⟩ := ⟨_, _, rfl⟩
            rw [hE] at s0 s1
            simp only at s0 s1
            have hmem : (⟨a, b⟩ : S35) ∈ X l 0 := by rw [← hE, hz]; simp [rd_T35, List.getD_eq_getElem?_getD, cc]
            have HCC : Aside0 (Cls (0 + 1) a b) := ⟨HCLS.out _ hmem⟩
            have HPP : Aside0 (parts k a b = some (pT k ⟨a, b⟩)) := ⟨HPT.out _ hmem⟩
            have htk : ((X l 0).take (j + 1)).flatMap (pT k) = ((X l 0).take j).flatMap (pT k) ++ pT k ⟨a, b⟩ := by
              have e : (X l 0)[j] = ⟨a, b⟩ := by rw [← hE, hz]; simp [rd_T35, List.getD_eq_getElem?_getD, cc]
              rw [List.take_add_one, List.getElem?_eq_getElem cc, e]
              simp
            have hlen : ((tilN k l 0 ++ ((X l 0).take j).flatMap (pT k)).map rowT).length + (pT k ⟨a, b⟩).length < 100000 := by
              have h1 : ((X l 0).take (j + 1)).flatMap (pT k) ++ ((X l 0).drop (j + 1)).flatMap (pT k) = til k l 0 := by rw [← List.flatMap_append, List.take_append_drop]; rfl
              have h2 := congrArg List.length h1
              rw [htk] at h2
              simp only [List.length_append, List.length_map] at h2 ⊢
              have := HFEW.out
              omega
            have HTK := Aside0.mk htk
            have HLN := Aside0.mk hlen
            have hba := below_alloc (Below.refl wr.heap.size wr) (.cells #[.int .i64 a, .int .i64 b] 35 (0, 0))
            have hnw := blk_new wr (.cells #[.int .i64 a, .int .i64 b] 35 (0, 0))
            have n0 : (wr.alloc (.cells #[.int .i64 a, .int .i64 b] 35 (0, 0))).cell? ⟨wr.heap.size, 0, none⟩ = some (.int .i64 a) := (blk_cell hnw 0).trans rfl
            have n1 : (wr.alloc (.cells #[.int .i64 a, .int .i64 b] 35 (0, 0))).cell? ⟨wr.heap.size, 1, none⟩ = some (.int .i64 b) := (blk_cell hnw 1).trans rfl
            have HRA := Aside0.mk (hR.under hba)
            have HXA := Aside0.mk (Kd.R_below HXj.out hba)
            have HLA := Aside0.mk (Kd.R_below HLj.out hba)
            have HZC := Aside0.mk (And.intro hz cc)
            subst eA
            have p1' : decide (0 ≤ z) = true := decide_eq_true p1
            have p2' : decide (z < ((X l 0).length : Int)) = true := decide_eq_true p2
            replace p1 := eq_true p1
            replace p2 := eq_true p2
            clear hz cc hE hmem htk hlen hba hnw hR HEj
            go_wp2_with (go_at_call 17; (refine (part_calls (0 + 1) w g k a b (pT k ⟨a, b⟩) v _ _ HPP.out HCC.out HRA.out HLN.out).mono ?_); rintro e w4 ⟨rfl, v1, h1, k1_, o1⟩; have HR4 := Aside0.mk h1; have HX4 := Aside0.mk (row_kept HRA.out HXA.out k1_); have HL4 := Aside0.mk (row_kept HRA.out HLA.out k1_); clear h1 k1_ o1)
            cases gk with
            | zero => have := HJ.out; have := HZC.out; omega
            | succ k2 =>
              have hw : wrap64 (z + 1) = ((j + 1 : Nat) : Int) := by have := HZC.out; have := X_len l 0; have := HL0.out; unfold wrap64; omega
              go_roundg k2
              case measure => omega
              case rel => exact ⟨_, j + 1, rfl, ⟨hw⟩, ⟨by have := HJ.out; omega⟩, ⟨by have := HZC.out; omega⟩, ⟨v1, by have h := HR4.out; rw [HTK.out, ← List.append_assoc, List.map_append]; exact h⟩, HX4, HL4⟩
          · have p2' : decide (z < ((X l 0).length : Int)) = false := decide_eq_false (by omega)
            have HEX : Aside0 (∃ v, RAt w g v ((tilN k l (0 + 1)).map rowT) wr) := ⟨v, by have h := hR; rw [List.take_of_length_le (by omega)] at h; exact h⟩
            clear hz cc hR HEj
            go_wp2_with fail
            go_roundg k1
            case measure => omega
            case rel => exact ⟨1, 128, 1, rfl, rfl, ⟨rfl, rfl⟩, ⟨by have := HK.out; omega⟩, ⟨by omega⟩, HEX, HLj⟩
    · have hx : x = 128 := HXY.out.1
      have hy : y = 1 := HXY.out.2
      subst hx hy
      cases gk with
      | zero => have := HK.out; omega
      | succ k1 =>
        obtain ⟨v, hR⟩ := HE.out
        have hlit := lit1 (blk_new wr (.cells #[.int .i64 128, .int .i64 2047] 35 (0, 0)))
        have hba := below_alloc (Below.refl wr.heap.size wr) (.cells #[.int .i64 128, .int .i64 2047] 35 (0, 0))
        have HLIT := Aside0.mk hlit
        have HBA := Aside0.mk hba
        have HR := Aside0.mk hR
        have HBOTH : Aside0 (ranges_Both.f 8000 (lessG l) [lim 1] = some (X l 1)) := ⟨Both_f _ _ (by have := lessG_len l; have := HL0.out; omega) (by simp) 8000 (by have := lessG_len l; have := HL0.out; simp; omega)⟩
        have HCLS : Aside0 (∀ r ∈ X l 1, Cls (1 + 1) r.f0 r.f1) := ⟨X_cls l 1 (by omega)⟩
        have HPT : Aside0 (∀ r ∈ X l 1, parts k r.f0 r.f1 = some (pT k r)) := ⟨(til_good l 1 (by omega) k HKK.out).1⟩
        have HFEW : Aside0 ((tilN k l 1).length + (til k l 1).length < 100000) := ⟨by have h := fun j hj => til_len l j hj k HKK.out; have h0 := h 0 (by omega); have h1 := h 1 (by omega); have h2 := h 2 (by omega); have h3 := h 3 (by omega); have := HL0.out; simp only [tilN, List.length_append, List.length_nil]; omega⟩
        clear hlit hba hR
        go_wp2_with (first | (go_at_call 16; (refine (ranges_Both.calls 8000 A1 c1 (lessG l) (some ⟨wr.heap.size, 0, none⟩) 1 [lim 1] (X l 1) _ (Kd.R_reads' (Kd.R_below HLR.out HBA.out)).2.2 (Kd.R_reads' HLR.out).2.1 HLIT.out (Nat.le_refl _) HBOTH.out).mono ?_); rintro e w2 ⟨v2, rfl, hr, hb⟩; obtain ⟨A2, c2, rfl, _, _⟩ := Kd.R_reads hr; have HB2 := Aside0.mk (below_then HBA.out HBA.out.size hb); have HX2 := Aside0.mk (Kd.R_lower hr (Nat.le_trans HR.out.below.size HBA.out.size)); have HR2 := Aside0.mk (HR.out.under HB2.out); have HLR2 := Aside0.mk (Kd.R_below HLR.out HB2.out); clear hr hb))
        have HE2 : Aside0 (∃ v, RAt w g v ((tilN k l 1 ++ ((X l 1).take 0).flatMap (pT k)).map rowT) w2) := ⟨v, by simpa using HR2.out⟩
        clear HR HLIT HBA HBOTH HB2 HR2 HE HLR
        go_loopg [28] ((X l 1).length + 1) (fun kq v28 w' => ∃ (z : Int) (j : Nat), v28 = .int .i64 z ∧ Aside0 (z = (j : Int)) ∧ Aside0 (j + kq = (X l 1).length + 1) ∧ Aside0 (j ≤ (X l 1).length) ∧ Aside0 (∃ v, RAt w g v ((tilN k l 1 ++ ((X l 1).take j).flatMap (pT k)).map rowT) w') ∧ Aside0 (k35.R 35 w' w.heap.size (fun _ => True) (.slice A2 (X l 1).length c2) (X l 1)) ∧ Aside0 (k35.R 35 w' w.heap.size (fun _ => True) (.slice A1 (lessG l).length c1) (lessG l)))
        case atStart => exact ⟨0, 0, rfl, ⟨rfl⟩, ⟨by omega⟩, ⟨Nat.zero_le _⟩, HE2, HX2, HLR2⟩
        case round =>
          clear HE2 HX2 HLR2
          obtain ⟨z, j, rfl, HZ, HJ, HJ2, HEj, HXj, HLj⟩ := hrel
          have hz := HZ.out
          obtain ⟨v, hR⟩ := HEj.out
          by_cases cc : j < (X l 1).length
          · have p1 : 0 ≤ z := by omega
            have p2 : z < ((X l 1).length : Int) := by omega
            obtain ⟨ad, eA, s0, s1⟩ := at_T35 (Kd.R_reads' HXj.out).2.2 z p1 p2
            obtain ⟨a, b, hE⟩ : ∃ a b, rd_T35 (X l 1) z = ⟨a, b⟩ := ⟨_, _, rfl⟩
            rw [hE] at s0 s1
            simp only at s0 s1
            have hmem : (⟨a, b⟩ : S35) ∈ X l 1 := by rw [← hE, hz]; simp [rd_T35, List.getD_eq_getElem?_getD, cc]
            have HCC : Aside0 (Cls (1 + 1) a b) := ⟨HCLS.out _ hmem⟩
            have HPP : Aside0 (parts k a b = some (pT k ⟨a, b⟩)) := ⟨HPT.out _ hmem⟩
            have htk : ((X l 1).take (j + 1)).flatMap (pT k) = ((X l 1).take j).flatMap (pT k) ++ pT k ⟨a, b⟩ := by
              have e : (X l 1)[j] = ⟨a, b⟩ := by rw [← hE, hz]; simp [rd_T35, List.getD_eq_getElem?_getD, cc]
              rw [List.take_add_one, List.getElem?_eq_getElem cc, e]
              simp
            have hlen : ((tilN k l 1 ++ ((X l 1).take j).flatMap (pT k)).map rowT).length + (pT k ⟨a, b⟩).length < 100000 := by
              have h1 : ((X l 1).take (j + 1)).flatMap (pT k) ++ ((X l 1).drop (j + 1)).flatMap (pT k) = til k l 1 := by rw [← List.flatMap_append, List.take_append_drop]; rfl
              have h2 := congrArg List.length h1
              rw [htk] at h2
              simp only [List.length_append, List.length_map] at h2 ⊢
              have := HFEW.out
              omega
            have HTK := Aside0.mk htk
            have HLN := Aside0.mk hlen
            have hba := below_alloc (Below.refl wr.heap.size wr) (.cells #[.int .i64 a, .int .i64 b] 35 (0, 0))
            have hnw := blk_new wr (.cells #[.int .i64 a, .int .i64 b] 35 (0, 0))
            have n0 : (wr.alloc (.cells #[.int .i64 a, .int .i64 b] 35 (0, 0))).cell? ⟨wr.heap.size, 0, none⟩ = some (.int .i64 a) := (blk_cell hnw 0).trans rfl
            have n1 : (wr.alloc (.cells #[.int .i64 a, .int .i64 b] 35 (0, 0))).cell? ⟨wr.heap.size, 1, none⟩ = some (.int .i64 b) := (blk_cell hnw 1).trans rfl
            have HRA := Aside0.mk (hR.under hba)
            have HXA := Aside0.mk (Kd.R_below HXj.out hba)
            have HLA := Aside0.mk (Kd.R_below HLj.out hba)
            have HZC := Aside0.mk (And.intro hz cc)
            subst eA
            have p1' : decide (0 ≤ z) = true := decide_eq_true p1
            have p2' : decide (z < ((X l 1).length : Int)) = true := decide_eq_true p2
            replace p1 := eq_true p1
            replace p2 := eq_true p2
            clear hz cc hE hmem htk hlen hba hnw hR HEj
            go_wp2_with (go_at_call 17; (refine (part_calls (1 + 1) w g k a b (pT k ⟨a, b⟩) v _ _ HPP.out HCC.out HRA.out HLN.out).mono ?_); rintro e w4 ⟨rfl, v1, h1, k1_, o1⟩; have HR4 := Aside0.mk h1; have HX4 := Aside0.mk (row_kept HRA.out HXA.out k1_); have HL4 := Aside0.mk (row_kept HRA.out HLA.out k1_); clear h1 k1_ o1)
            cases gk with
            | zero => have := HJ.out; have := HZC.out; omega
            | succ k2 =>
              have hw : wrap64 (z + 1) = ((j + 1 : Nat) : Int) := by have := HZC.out; have := X_len l 1; have := HL0.out; unfold wrap64; omega
              go_roundg k2
              case measure => omega
              case rel => exact ⟨_, j + 1, rfl, ⟨hw⟩, ⟨by have := HJ.out; omega⟩, ⟨by have := HZC.out; omega⟩, ⟨v1, by have h := HR4.out; rw [HTK.out, ← List.append_assoc, List.map_append]; exact h⟩, HX4, HL4⟩
          · have p2' : decide (z < ((X l 1).length : Int)) = false := decide_eq_false (by omega)
            have HEX : Aside0 (∃ v, RAt w g v ((tilN k l (1 + 1)).map rowT) wr) := ⟨v, by have h := hR; rw [List.take_of_length_le (by omega)] at h; exact h⟩
            clear hz cc hR HEj
            go_wp2_with fail
            go_roundg k1
            case measure => omega
            case rel => exact ⟨2, 2048, 2, rfl, rfl, ⟨rfl, rfl⟩, ⟨by have := HK.out; omega⟩, ⟨by omega⟩, HEX, HLj⟩
    · have hx : x = 2048 := HXY.out.1
      have hy : y = 2 := HXY.out.2
      subst hx hy
      cases gk with
      | zero => have := HK.out; omega
      | succ k1 =>
        obtain ⟨v, hR⟩ := HE.out
        have hlit := lit1 (blk_new wr (.cells #[.int .i64 2048, .int .i64 65535] 35 (0, 0)))
        have hba := below_alloc (Below.refl wr.heap.size wr) (.cells #[.int .i64 2048, .int .i64 65535] 35 (0, 0))
        have HLIT := Aside0.mk hlit
        have HBA := Aside0.mk hba
        have HR := Aside0.mk hR
        have HBOTH : Aside0 (ranges_Both.f 8000 (lessG l) [lim 2] = some (X l 2)) := ⟨Both_f _ _ (by have := lessG_len l; have := HL0.out; omega) (by simp) 8000 (by have := lessG_len l; have := HL0.out; simp; omega)⟩
        have HCLS : Aside0 (∀ r ∈ X l 2, Cls (2 + 1) r.f0 r.f1) := ⟨X_cls l 2 (by omega)⟩
        have HPT : Aside0 (∀ r ∈ X l 2, parts k r.f0 r.f1 = some (pT k r)) := ⟨(til_good l 2 (by omega) k HKK.out).1⟩
        have HFEW : Aside0 ((tilN k l 2).length + (til k l 2).length < 100000) := ⟨by have h := fun j hj => til_len l j hj k HKK.out; have h0 := h 0 (by omega); have h1 := h 1 (by omega); have h2 := h 2 (by omega); have h3 := h 3 (by omega); have := HL0.out; simp only [tilN, List.length_append, List.length_nil]; omega⟩
        clear hlit hba hR
        go_wp2_with (first | (go_at_call 16; (refine (ranges_Both.calls 8000 A1 c1 (lessG l) (some ⟨wr.heap.size, 0, none⟩) 1 [lim 2] (X l 2) _ (Kd.R_reads' (Kd.R_below HLR.out HBA.out)).2.2 (Kd.R_reads' HLR.out).2.1 HLIT.out (Nat.le_refl _) HBOTH.out).mono ?_); rintro e w2 ⟨v2, rfl, hr, hb⟩; obtain ⟨A2, c2, rfl, _, _⟩ := Kd.R_reads hr; have HB2 := Aside0.mk (below_then HBA.out HBA.out.size hb); have HX2 := Aside0.mk (Kd.R_lower hr (Nat.le_trans HR.out.below.size HBA.out.size)); have HR2 := Aside0.mk (HR.out.under HB2.out); have HLR2 := Aside0.mk (Kd.R_below HLR.out HB2.out); clear hr hb))
        have HE2 : Aside0 (∃ v, RAt w g v ((tilN k l 2 ++ ((X l 2).take 0).flatMap (pT k)).map rowT) w2) := ⟨v, by simpa using HR2.out⟩
        clear HR HLIT HBA HBOTH HB2 HR2 HE HLR
        go_loopg [28] ((X l 2).length + 1) (fun kq v28 w' => ∃ (z : Int) (j : Nat), v28 = .int .i64 z ∧ Aside0 (z = (j : Int)) ∧ Aside0 (j + kq = (X l 2).length + 1) ∧ Aside0 (j ≤ (X l 2).length) ∧ Aside0 (∃ v, RAt w g v ((tilN k l 2 ++ ((X l 2).take j).flatMap (pT k)).map rowT) w') ∧ Aside0 (k35.R 35 w' w.heap.size (fun _ => True) (.slice A2 (X l 2).length c2) (X l 2)) ∧ Aside0 (k35.R 35 w' w.heap.size (fun _ => True) (.slice A1 (lessG l).length c1) (lessG l)))
        case atStart => exact ⟨0, 0, rfl, ⟨rfl⟩, ⟨by omega⟩, ⟨Nat.zero_le _⟩, HE2, HX2, HLR2⟩
        case round =>
          clear HE2 HX2 HLR2
          obtain ⟨z, j, rfl, HZ, HJ, HJ2, HEj, HXj, HLj⟩ := hrel
          have hz := HZ.out
          obtain ⟨v, hR⟩ := HEj.out
          by_cases cc : j < (X l 2).length
          · have p1 : 0 ≤ z := by omega
            have p2 : z < ((X l 2).length : Int) := by omega
            obtain ⟨ad, eA, s0, s1⟩ := at_T35 (Kd.R_reads' HXj.out).2.2 z p1 p2
            obtain ⟨a, b, hE⟩ : ∃ a b, rd_T35 (X l 2) z = ⟨a, b⟩ := ⟨_, _, rfl⟩
            rw [hE] at s0 s1
            simp only at s0 s1
            have hmem : (⟨a, b⟩ : S35) ∈ X l 2 := by rw [← hE, hz]; simp [rd_T35, List.getD_eq_getElem?_getD, cc]
            have HCC : Aside0 (Cls (2 + 1) a b) := ⟨HCLS.out _ hmem⟩
            have HPP : Aside0 (parts k a b = some (pT k ⟨a, b⟩)) := ⟨HPT.out _ hmem⟩
            have htk : ((X l 2).take (j + 1)).flatMap (pT k) = ((X l 2).take j).flatMap (pT k) ++ pT k ⟨a, b⟩ := by
              have e : (X l 2)[j] = ⟨a, b⟩ := by rw [← hE, hz]; simp [rd_T35, List.getD_eq_getElem?_getD, cc]
              rw [List.take_add_one, List.getElem?_eq_getElem cc, e]
              simp
            have hlen : ((tilN k l 2 ++ ((X l 2).take j).flatMap (pT k)).map rowT).length + (pT k ⟨a, b⟩).length < 100000 := by
              have h1 : ((X l 2).take (j + 1)).flatMap (pT k) ++ ((X l 2).drop (j + 1)).flatMap (pT k) = til k l 2 := by rw [← List.flatMap_append, List.take_append_drop]; rfl
              have h2 := congrArg List.length h1
              rw [htk] at h2
              simp only [List.length_append, List.length_map] at h2 ⊢
              have := HFEW.out
              omega
            have HTK := Aside0.mk htk
            have HLN := Aside0.mk hlen
            have hba := below_alloc (Below.refl wr.heap.size wr) (.cells #[.int .i64 a, .int .i64 b] 35 (0, 0))
            have hnw := blk_new wr (.cells #[.int .i64 a, .int .i64 b] 35 (0, 0))
            have n0 : (wr.alloc (.cells #[.int .i64 a, .int .i64 b] 35 (0, 0))).cell? ⟨wr.heap.size, 0, none⟩ = some (.int .i64 a) := (blk_cell hnw 0).trans rfl
            have n1 : (wr.alloc (.cells #[.int .i64 a, .int .i64 b] 35 (0, 0))).cell? ⟨wr.heap.size, 1, none⟩ = some (.int .i64 b) := (blk_cell hnw 1).trans rfl
            have HRA := Aside0.mk (hR.under hba)
            have HXA := Aside0.mk (Kd.R_below HXj.out hba)
            have HLA := Aside0.mk (Kd.R_below HLj.out hba)
            have HZC := Aside0.mk (And.intro hz cc)
            subst eA
            have p1' : decide (0 ≤ z) = true := decide_eq_true p1
            have p2' : decide (z < ((X l 2).length : Int)) = true := decide_eq_true p2
            replace p1 := eq_true p1
            replace p2 := eq_true p2
            clear hz cc hE hmem htk hlen hba hnw hR HEj
            go_wp2_with (go_at_call 17; (refine (part_calls (2 + 1) w g k a b (pT k ⟨a, b⟩) v _ _ HPP.out HCC.out HRA.out HLN.out).mono ?_); rintro e w4 ⟨rfl, v1, h1, k1_, o1⟩; have HR4 := Aside0.mk h1; have HX4 := Aside0.mk (row_kept HRA.out HXA.out k1_); have HL4 := Aside0.mk (row_kept HRA.out HLA.out k1_); clear h1 k1_ o1)
            cases gk with
            | zero => have := HJ.out; have := HZC.out; omega
            | succ k2 =>
              have hw : wrap64 (z + 1) = ((j + 1 : Nat) : Int) := by have := HZC.out; have := X_len l 2; have := HL0.out; unfold wrap64; omega
              go_roundg k2
              case measure => omega
              case rel => exact ⟨_, j + 1, rfl, ⟨hw⟩, ⟨by have := HJ.out; omega⟩, ⟨by have := HZC.out; omega⟩, ⟨v1, by have h := HR4.out; rw [HTK.out, ← List.append_assoc, List.map_append]; exact h⟩, HX4, HL4⟩
          · have p2' : decide (z < ((X l 2).length : Int)) = false := decide_eq_false (by omega)
            have HEX : Aside0 (∃ v, RAt w g v ((tilN k l (2 + 1)).map rowT) wr) := ⟨v, by have h := hR; rw [List.take_of_length_le (by omega)] at h; exact h⟩
            clear hz cc hR HEj
            go_wp2_with fail
            go_roundg k1
            case measure => omega
            case rel => exact ⟨3, 65536, 3, rfl, rfl, ⟨rfl, rfl⟩, ⟨by have := HK.out; omega⟩, ⟨by omega⟩, HEX, HLj⟩
    · have hx : x = 65536 := HXY.out.1
      have hy : y = 3 := HXY.out.2
      subst hx hy
      cases gk with
      | zero => have := HK.out; omega
      | succ k1 =>
        obtain ⟨v, hR⟩ := HE.out
        have hlit := lit1 (blk_new wr (.cells #[.int .i64 65536, .int .i64 1114111] 35 (0, 0)))
        have hba := below_alloc (Below.refl wr.heap.size wr) (.cells #[.int .i64 65536, .int .i64 1114111] 35 (0, 0))
        have HLIT := Aside0.mk hlit
        have HBA := Aside0.mk hba
        have HR := Aside0.mk hR
        have HBOTH : Aside0 (ranges_Both.f 8000 (lessG l) [lim 3] = some (X l 3)) := ⟨Both_f _ _ (by have := lessG_len l; have := HL0.out; omega) (by simp) 8000 (by have := lessG_len l; have := HL0.out; simp; omega)⟩
        have HCLS : Aside0 (∀ r ∈ X l 3, Cls (3 + 1) r.f0 r.f1) := ⟨X_cls l 3 (by omega)⟩
        have HPT : Aside0 (∀ r ∈ X l 3, parts k r.f0 r.f1 = some (pT k r)) := ⟨(til_good l 3 (by omega) k HKK.out).1⟩
        have HFEW : Aside0 ((tilN k l 3).length + (til k l 3).length < 100000) := ⟨by have h := fun j hj => til_len l j hj k HKK.out; have h0 := h 0 (by omega); have h1 := h 1 (by omega); have h2 := h 2 (by omega); have h3 := h 3 (by omega); have := HL0.out; simp only [tilN, List.length_append, List.length_nil]; omega⟩
        clear hlit hba hR
        go_wp2_with (first | (go_at_call 16; (refine (ranges_Both.calls 8000 A1 c1 (lessG l) (some ⟨wr.heap.size, 0, none⟩) 1 [lim 3] (X l 3) _ (Kd.R_reads' (Kd.R_below HLR.out HBA.out)).2.2 (Kd.R_reads' HLR.out).2.1 HLIT.out (Nat.le_refl _) HBOTH.out).mono ?_); rintro e w2 ⟨v2, rfl, hr, hb⟩; obtain ⟨A2, c2, rfl, _, _⟩ := Kd.R_reads hr; have HB2 := Aside0.mk (below_then HBA.out HBA.out.size hb); have HX2 := Aside0.mk (Kd.R_lower hr (Nat.le_trans HR.out.below.size HBA.out.size)); have HR2 := Aside0.mk (HR.out.under HB2.out); have HLR2 := Aside0.mk (Kd.R_below HLR.out HB2.out); clear hr hb))
        have HE2 : Aside0 (∃ v, RAt w g v ((tilN k l 3 ++ ((X l 3).take 0).flatMap (pT k)).map rowT) w2) := ⟨v, by simpa using HR2.out⟩
        clear HR HLIT HBA HBOTH HB2 HR2 HE HLR
        go_loopg [28] ((X l 3).length + 1) (fun kq v28 w' => ∃ (z : Int) (j : Nat), v28 = .int .i64 z ∧ Aside0 (z = (j : Int)) ∧ Aside0 (j + kq = (X l 3).length + 1) ∧ Aside0 (j ≤ (X l 3).length) ∧ Aside0 (∃ v, RAt w g v ((tilN k l 3 ++ ((X l 3).take j).flatMap (pT k)).map rowT) w') ∧ Aside0 (k35.R 35 w' w.heap.size (fun _ => True) (.slice A2 (X l 3).length c2) (X l 3)) ∧ Aside0 (k35.R 35 w' w.heap.size (fun _ => True) (.slice A1 (lessG l).length c1) (lessG l)))
        case atStart => exact ⟨0, 0, rfl, ⟨rfl⟩, ⟨by omega⟩, ⟨Nat.zero_le _⟩, HE2, HX2, HLR2⟩
        case round =>
          clear HE2 HX2 HLR2
          obtain ⟨z, j, rfl, HZ, HJ, HJ2, HEj, HXj, HLj⟩ := hrel
          have hz := HZ.out
          obtain ⟨v, hR⟩ := HEj.out
          by_cases cc : j < (X l 3).length
          · have p1 : 0 ≤ z := by omega
            have p2 : z < ((X l 3).length : Int) := by omega
            obtain ⟨ad, eA, s0, s1⟩ := at_T35 (Kd.R_reads' HXj.out).2.2 z p1 p2
            obtain ⟨a, b, hE⟩ : ∃ a b, rd_T35 (X l 3) z = ⟨a, b⟩ := ⟨_, _, rfl⟩
            rw [hE] at s0 s1
            simp only at s0 s1
            have hmem : (⟨a, b⟩ : S35) ∈ X l 3 := by rw [← hE, hz]; simp [rd_T35, List.getD_eq_getElem?_getD, cc]
            have HCC : Aside0 (Cls (3 + 1) a b) := ⟨HCLS.out _ hmem⟩
            have HPP : Aside0 (parts k a b = some (pT k ⟨a, b⟩)) := ⟨HPT.out _ hmem⟩
            have htk : ((X l 3).take (j + 1)).flatMap (pT k) = ((X l 3).take j).flatMap (pT k) ++ pT k ⟨a, b⟩ := by
              have e : (X l 3)[j] = ⟨a, b⟩ := by rw [← hE, hz]; simp [rd_T35, List.getD_eq_getElem?_getD, cc]
              rw [List.take_add_one, List.getElem?_eq_getElem cc, e]
              simp
            have hlen : ((tilN k l 3 ++ ((X l 3).take j).flatMap (pT k)).map rowT).length + (pT k ⟨a, b⟩).length < 100000 := by
              have h1 : ((X l 3).take (j + 1)).flatMap (pT k) ++ ((X l 3).drop (j + 1)).flatMap (pT k) = til k l 3 := by rw [← List.flatMap_append, List.take_append_drop]; rfl
              have h2 := congrArg List.length h1
              rw [htk] at h2
              simp only [List.length_append, List.length_map] at h2 ⊢
              have := HFEW.out
              omega
            have HTK := Aside0.mk htk
            have HLN := Aside0.mk hlen
            have hba := below_alloc (Below.refl wr.heap.size wr) (.cells #[.int .i64 a, .int .i64 b] 35 (0, 0))
            have hnw := blk_new wr (.cells #[.int .i64 a, .int .i64 b] 35 (0, 0))
            have n0 : (wr.alloc (.cells #[.int .i64 a, .int .i64 b] 35 (0, 0))).cell? ⟨wr.heap.size, 0, none⟩ = some (.int .i64 a) := (blk_cell hnw 0).trans rfl
            have n1 : (wr.alloc (.cells #[.int .i64 a, .int .i64 b] 35 (0, 0))).cell? ⟨wr.heap.size, 1, none⟩ = some (.int .i64 b) := (blk_cell hnw 1).trans rfl
            have HRA := Aside0.mk (hR.under hba)
            have HXA := Aside0.mk (Kd.R_below HXj.out hba)
            have HLA := Aside0.mk (Kd.R_below HLj.out hba)
            have HZC := Aside0.mk (And.intro hz cc)
            subst eA
            have p1' : decide (0 ≤ z) = true := decide_eq_true p1
            have p2' : decide (z < ((X l 3).length : Int)) = true := decide_eq_true p2
            replace p1 := eq_true p1
            replace p2 := eq_true p2
            clear hz cc hE hmem htk hlen hba hnw hR HEj
            go_wp2_with (go_at_call 17; (refine (part_calls (3 + 1) w g k a b (pT k ⟨a, b⟩) v _ _ HPP.out HCC.out HRA.out HLN.out).mono ?_); rintro e w4 ⟨rfl, v1, h1, k1_, o1⟩; have HR4 := Aside0.mk h1; have HX4 := Aside0.mk (row_kept HRA.out HXA.out k1_); have HL4 := Aside0.mk (row_kept HRA.out HLA.out k1_); clear h1 k1_ o1)
            cases gk with
            | zero => have := HJ.out; have := HZC.out; omega
            | succ k2 =>
              have hw : wrap64 (z + 1) = ((j + 1 : Nat) : Int) := by have := HZC.out; have := X_len l 3; have := HL0.out; unfold wrap64; omega
              go_roundg k2
              case measure => omega
              case rel => exact ⟨_, j + 1, rfl, ⟨hw⟩, ⟨by have := HJ.out; omega⟩, ⟨by have := HZC.out; omega⟩, ⟨v1, by have h := HR4.out; rw [HTK.out, ← List.append_assoc, List.map_append]; exact h⟩, HX4, HL4⟩
          · have p2' : decide (z < ((X l 3).length : Int)) = false := decide_eq_false (by omega)
            have HEX : Aside0 (∃ v, RAt w g v ((tilN k l (3 + 1)).map rowT) wr) := ⟨v, by have h := hR; rw [List.take_of_length_le (by omega)] at h; exact h⟩
            clear hz cc hR HEj
            go_wp2_with fail
            go_roundg k1
            case measure => omega
            case rel => exact ⟨4, 1114112, 4, rfl, rfl, ⟨rfl, rfl⟩, ⟨by have := HK.out; omega⟩, ⟨by omega⟩, HEX, HLj⟩
    · have hx : x = 1114112 := HXY.out.1
      have hy : y = 4 := HXY.out.2
      subst hx hy
      obtain ⟨v, hR⟩ := HE.out
      obtain ⟨U, cu, eu, _, _⟩ := Kd.R_reads hR.r
      subst eu
      have HR := Aside0.mk hR
      have hc : wr.cell? ⟨g, 0, none⟩ = some (.slice U ((tilN k l 4).map rowT).length cu) := (blk_cell hR.box 0).trans rfl
      clear hR HE
      go_wp2_with fail
      go_ret
      exact ⟨_, rfl, by have h := HR.out.r; rw [tilN_4, List.length_map] at h; rw [tilN_4]; exact h, HR.out.below⟩
def byteseq_Of.f (k : Nat) (l : List S35) : Option (List (List S35)) := if 1200000 ≤ k ∧ l.length ≤ 1000 then some ((tiles k l).map rowT) else none
theorem byteseq_Of.mono : ∀ a0 k, LeO (byteseq_Of.f k a0) (byteseq_Of.f (k + 1) a0) := by
  intro a0 k r h
  unfold byteseq_Of.f at h ⊢
  split at h
  · rename_i c
    rw [if_pos ⟨by omega, c.2⟩, ← tiles_same a0 k (k + 1) c.1 (by omega)]
    exact h
  · cases h
theorem byteseq_Of.calls (k : Nat) (A0 : Option Addr) (c0 : Nat) (l0 : List S35) (r : List (List S35)) (w : World) (hr0 : Kd.C k35 w A0 l0.length l0) (hc0 : l0.length ≤ c0)
    (hrG0 : Kd.C (Kd.int .i64) w (some ⟨0, 0, none⟩) tab_byteseq_gap.length tab_byteseq_gap) (hrG1 : Kd.C (Kd.int .i64) w (some ⟨1, 0, none⟩) tab_byteseq_limits.length tab_byteseq_limits) (h : byteseq_Of.f k l0 = some r) :
    Calls Tryd.prog 6 #[.slice A0 l0.length c0] w fun e w' => ∃ v0_ : Value, e = .returned v0_ ∧ Kd.R (Kd.slice 35 k35) 22 w' w.heap.size (fun _ => True) v0_ r ∧ Below w.heap.size w w' := by
  unfold byteseq_Of.f at h
  split at h
  · rename_i c
    obtain rfl := Option.some.inj h
    exact of_calls k c.1 A0 c0 l0 w hrG0 hrG1 hr0 hc0 c.2
  · cases h
end Go.Proofs.YtedoopnjhpbjfaaDoor.HandByOf
