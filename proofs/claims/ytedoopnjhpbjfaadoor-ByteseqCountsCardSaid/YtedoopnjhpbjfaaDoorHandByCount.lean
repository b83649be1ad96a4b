/- byteseq.Count at the example's rows. -/
import Derived.Test.YtedoopnjhpbjfaaDoorPBx0
import Derived.Test.YtedoopnjhpbjfaaDoorWMore
import Derived.WalkMore
set_option linter.unusedSimpArgs false
set_option linter.unusedVariables false
namespace Go.Proofs.YtedoopnjhpbjfaaDoor.HandByCount
open Go.RowKit Go.Proofs.YtedoopnjhpbjfaaDoorW.PrintWords Go.Proofs.YtedoopnjhpbjfaaDoorW.PrintLast Go.Proofs.YtedoopnjhpbjfaaDoorW.PrintMore Go.Proofs.YtedoopnjhpbjfaaDoor.PB
def exR : List (List S35) := [[⟨194, 223⟩, ⟨128, 191⟩]]
def okR : List (List S35) → Bool
  | [[a, b]] => decide (a.f0 = 194) && decide (a.f1 = 223) && decide (b.f0 = 128) && decide (b.f1 = 191)
  | _ => false
theorem okR_eq : ∀ r : List (List S35), okR r = true → r = exR
  | [[⟨a, b⟩, ⟨c, d⟩]], h => by
    simp only [okR, Bool.and_eq_true, decide_eq_true_eq] at h
    obtain ⟨⟨⟨rfl, rfl⟩, rfl⟩, rfl⟩ := h
    rfl
  | [], h => by cases h
  | [] :: _, h => by cases h
  | [_] :: _, h => by cases h
  | (_ :: _ :: _ :: _) :: _, h => by cases h
  | [_, _] :: _ :: _, h => by cases h
def byteseq_Count.f (r : List (List S35)) : Option Int := if okR r = true then some 1920 else none
attribute [local go_sem] max2_int min2_int max_two min_two max_three min_three max_four min_four
set_option maxRecDepth 100000 in
set_option maxHeartbeats 2000000 in
theorem count_calls (A : Option Addr) (c : Nat) (w : World) (hr : Kd.C (Kd.slice 35 k35) w A 1 exR) :
    Calls Tryd.prog 14 #[.slice A 1 c] w fun e w' => e = .returned (.int .i64 1920) ∧ Below w.heap.size w w' := by
  have HC := Aside0.mk hr
  have HB := Aside0.mk (Below.refl w.heap.size w)
  clear hr
  go_enter Tryd.func14, Tryd.ntmps14
  go_wp2_with fail
  go_step3
  go_wp2_with fail
  go_step3
  go_wp2_with fail
  go_loopg [3, 11] 2 (fun kq v3 v11 w' => ∃ (x y : Int), v3 = .int .i64 x ∧ v11 = .int .i64 y ∧ Aside0 ((x = 0 ∧ y = 0 ∧ kq = 2) ∨ (x = 1920 ∧ y = 1 ∧ kq = 1)) ∧ Aside0 (Below w.heap.size w w'))
  case atStart => exact ⟨0, 0, rfl, rfl, ⟨.inl ⟨rfl, rfl, rfl⟩⟩, HB⟩
  case round =>
    clear HB
    obtain ⟨x, y, rfl, rfl, HI, HBy⟩ := hrel
    rcases HI.out with ⟨hx, hy, hk⟩ | ⟨hx, hy, hk⟩
    · subst hx
      have p1 : 0 ≤ y := by omega
      have p2 : y < 1 := by omega
      obtain ⟨ad, A1, c1, eA, s0, l0, h1⟩ := at_L3 (n := 1) (Kd.C_below HC.out HBy.out) y p1 p2
      rw [show rd_L3 exR y = [⟨194, 223⟩, ⟨128, 191⟩] by rw [hy]; rfl] at s0 h1
      have HROW : Aside0 (Kd.C k35 wr A1 2 [⟨194, 223⟩, ⟨128, 191⟩]) := ⟨h1⟩
      have s0' : wr.cell? (ad.add y.toNat) = some (.slice A1 2 c1) := s0
      have HYY := Aside0.mk (And.intro hy hk)
      subst eA
      have p1' : decide (0 ≤ y) = true := decide_eq_true p1
      have p2' : decide (y < 1) = true := decide_eq_true p2
      replace p1 := eq_true p1
      replace p2 := eq_true p2
      have HB0 := Aside0.mk (Below.refl wr.heap.size wr)
      clear hy hk s0 l0 h1 HI
      cases gk with
      | zero => have := HYY.out; omega
      | succ k1 =>
        go_wp2_with fail
        clear s0'
        go_loopg [6, 17] 3 (fun kq v6 v17 w' => ∃ (i : Nat) (n z : Int), v6 = .int .i64 n ∧ v17 = .int .i64 z ∧ Aside0 ((i = 0 ∧ n = 1 ∧ z = 0) ∨ (i = 1 ∧ n = 30 ∧ z = 1) ∨ (i = 2 ∧ n = 1920 ∧ z = 2)) ∧ Aside0 (kq + i = 3) ∧ Aside0 (i ≤ 2) ∧ Aside0 (Below wr.heap.size wr w'))
        case atStart => exact ⟨0, 1, 0, rfl, rfl, ⟨.inl ⟨rfl, rfl, rfl⟩⟩, ⟨rfl⟩, ⟨by omega⟩, HB0⟩
        case round =>
          obtain ⟨i, n, z, rfl, rfl, HN, HKz, HIz, HBz⟩ := hrel
          rcases HN.out with ⟨hi, hn, hz⟩ | ⟨hi, hn, hz⟩ | ⟨hi, hn, hz⟩
          · have hy : z = 0 := hz
            subst hn
            have p1 : 0 ≤ z := by omega
            have p2 : z < 2 := by omega
            obtain ⟨bd, eB, b0, b1⟩ := at_T35 (n := 2) (Kd.C_below HROW.out HBz.out) z p1 p2
            rw [show rd_T35 [⟨194, 223⟩, ⟨128, 191⟩] z = ⟨194, 223⟩ by rw [hy]; rfl] at b0 b1
            simp only at b0 b1
            subst eB
            have HBA := Aside0.mk (below_then HBz.out HBz.out.size (below_alloc (Below.refl wr.heap.size wr) (.cells #[.int .i64 194, .int .i64 223] 35 (0, 0))))
            have hnw := blk_new wr (.cells #[.int .i64 194, .int .i64 223] 35 (0, 0))
            have n0 : (wr.alloc (.cells #[.int .i64 194, .int .i64 223] 35 (0, 0))).cell? ⟨wr.heap.size, 0, none⟩ = some (.int .i64 194) := (blk_cell hnw 0).trans rfl
            have n1 : (wr.alloc (.cells #[.int .i64 194, .int .i64 223] 35 (0, 0))).cell? ⟨wr.heap.size, 1, none⟩ = some (.int .i64 223) := (blk_cell hnw 1).trans rfl
            have HY := Aside0.mk hy
            have p1' : decide (0 ≤ z) = true := decide_eq_true p1
            have p2' : decide (z < 2) = true := decide_eq_true p2
            replace p1 := eq_true p1
            replace p2 := eq_true p2
            clear hz hy hnw
            go_wp2_with fail
            cases gk with
            | zero => have := HKz.out; have := HIz.out; omega
            | succ k2 =>
              have hw : wrap64 (z + 1) = 1 := by have := HY.out; unfold wrap64; omega
              go_roundg k2
              case measure => omega
              case rel => exact ⟨1, 30, _, rfl, rfl, ⟨by omega⟩, ⟨by have := HKz.out; omega⟩, ⟨by omega⟩, HBA⟩
          · have hy : z = 1 := hz
            subst hn
            have p1 : 0 ≤ z := by omega
            have p2 : z < 2 := by omega
            obtain ⟨bd, eB, b0, b1⟩ := at_T35 (n := 2) (Kd.C_below HROW.out HBz.out) z p1 p2
            rw [show rd_T35 [⟨194, 223⟩, ⟨128, 191⟩] z = ⟨128, 191⟩ by rw [hy]; rfl] at b0 b1
            simp only at b0 b1
            subst eB
            have HBA := Aside0.mk (below_then HBz.out HBz.out.size (below_alloc (Below.refl wr.heap.size wr) (.cells #[.int .i64 128, .int .i64 191] 35 (0, 0))))
            have hnw := blk_new wr (.cells #[.int .i64 128, .int .i64 191] 35 (0, 0))
            have n0 : (wr.alloc (.cells #[.int .i64 128, .int .i64 191] 35 (0, 0))).cell? ⟨wr.heap.size, 0, none⟩ = some (.int .i64 128) := (blk_cell hnw 0).trans rfl
            have n1 : (wr.alloc (.cells #[.int .i64 128, .int .i64 191] 35 (0, 0))).cell? ⟨wr.heap.size, 1, none⟩ = some (.int .i64 191) := (blk_cell hnw 1).trans rfl
            have HY := Aside0.mk hy
            have p1' : decide (0 ≤ z) = true := decide_eq_true p1
            have p2' : decide (z < 2) = true := decide_eq_true p2
            replace p1 := eq_true p1
            replace p2 := eq_true p2
            clear hz hy hnw
            go_wp2_with fail
            cases gk with
            | zero => have := HKz.out; have := HIz.out; omega
            | succ k2 =>
              have hw : wrap64 (z + 1) = 2 := by have := HY.out; unfold wrap64; omega
              go_roundg k2
              case measure => omega
              case rel => exact ⟨2, 1920, _, rfl, rfl, ⟨by omega⟩, ⟨by have := HKz.out; omega⟩, ⟨by omega⟩, HBA⟩
          · subst hn
            have p2' : decide (z < 2) = false := decide_eq_false (by omega)
            have HBW := Aside0.mk (below_then HBy.out HBy.out.size HBz.out)
            clear hz
            go_wp2_with fail
            have hw : wrap64 (y + 1) = 1 := by have := HYY.out; unfold wrap64; omega
            go_roundg k1
            case measure => omega
            case rel => exact ⟨1920, _, rfl, rfl, ⟨.inr ⟨rfl, hw, by have := HYY.out; omega⟩⟩, HBW⟩
    · subst hx
      have p2' : decide (y < 1) = false := decide_eq_false (by omega)
      clear hy hk HI
      go_wp2_with fail
      (try simp only [Exit.inBlock, Exit.then, Exit.noGoto_ret, Exit.noGoto_normal])
      go_ret
      exact ⟨rfl, HBy.out⟩
theorem byteseq_Count.calls (A0 : Option Addr) (c0 : Nat) (l0 : List (List S35)) (r : Int) (w : World) (hr0 : Kd.C (Kd.slice 35 k35) w A0 l0.length l0) (hc0 : l0.length ≤ c0) (h : byteseq_Count.f l0 = some r) :
    Calls Tryd.prog 14 #[.slice A0 l0.length c0] w fun e w' => e = .returned (.int .i64 r) ∧ Below w.heap.size w w' := by
  unfold byteseq_Count.f at h
  split at h
  · rename_i e
    obtain rfl := okR_eq _ e
    obtain rfl := Option.some.inj h
    exact count_calls A0 c0 w hr0
  · cases h
end Go.Proofs.YtedoopnjhpbjfaaDoor.HandByCount
