/- byteseq.part: a range of code points of one length, parted into rows. Conditions: the fuel, few rows. -/
import Derived.Test.YtedoopnjhpbjfaaDoorHandRows
import Derived.Test.YtedoopnjhpbjfaaDoorPlB
import Derived.Test.YtedoopnjhpbjfaaDoorPBx0
import Derived.Test.YtedoopnjhpbjfaaDoorPBx4
import Derived.Test.YtedoopnjhpbjfaaDoorPBx5
set_option linter.unusedSimpArgs false
set_option linter.unusedVariables false
namespace Go.Proofs.YtedoopnjhpbjfaaDoor.HandPart
open Go.RowKit Go.Proofs.YtedoopnjhpbjfaaDoorW.PrintWords Go.Proofs.YtedoopnjhpbjfaaDoorW.PrintLast Go.Proofs.YtedoopnjhpbjfaaDoorW.PrintMore Go.Proofs.YtedoopnjhpbjfaaDoor.PB Go.Proofs.YtedoopnjhpbjfaaDoor.HandRows Go.Proofs.YtedoopnjhpbjfaaDoor.PlE Go.Proofs.YtedoopnjhpbjfaaDoor.PlB
theorem row_l0 (a b : ByteArray) (hab : a.size = b.size) (hl : a.size ≤ 4) : ∀ (d k j : Nat) (o : List S35), a.size = j + d → d < k → o.length = j → byteseq_row.l0 k a b o (a.size : Int) (j : Int) = some (o ++ List.zipWith (fun x y => (⟨x, y⟩ : S35)) ((L a).drop j) ((L b).drop j)) := by
  intro d
  induction d with
  | zero =>
    intro k j o h1 h2 h3
    obtain ⟨k, rfl⟩ : ∃ k', k = k' + 1 := ⟨k - 1, by omega⟩
    rw [byteseq_row.l0, if_neg (by omega), List.drop_of_length_le (by rw [L_len]; omega)]
    simp
  | succ d ih =>
    intro k j o h1 h2 h3
    obtain ⟨k, rfl⟩ : ∃ k', k = k' + 1 := ⟨k - 1, by omega⟩
    have ha := bt_byte a (j : Int)
    have hb := bt_byte b (j : Int)
    rw [byteseq_row.l0, if_pos (by omega), if_pos (by omega), if_pos (by omega), if_pos (by omega), if_pos (by omega), L_drop a j (by omega), L_drop b j (by omega), List.zipWith_cons_cons, w64 _ (by omega) (by omega), w64 _ (by omega) (by omega), show wrap64 ((j : Int) + 1) = ((j + 1 : Nat) : Int) by rw [w64 _ (by omega) (by omega)]; rfl]
    rw [ih k (j + 1) _ (by omega) (by omega) (by simp [h3])]
    simp
theorem row_f {n : Nat} {lo hi : Int} (h : Cls n lo hi) (k : Nat) (hk : 8 ≤ k) : byteseq_row.f k lo hi = some (rowOf lo hi) := by
  have e1 := (h.enc lo (Int.le_refl _) h.1).1
  have e2 := (h.enc hi h.1 (Int.le_refl _)).1
  have z1 := enc_size lo
  have z2 := enc_size hi
  have z3 := encU_len lo
  unfold byteseq_row.f
  rw [Put_k _ _ (by omega), Option.bind_some, Put_k _ _ (by omega), Option.bind_some]
  have := row_l0 (strOfNums (encU lo)) (strOfNums (encU hi)) (by omega) (by omega) (strOfNums (encU lo)).size k 0 [] (by omega) (by omega) rfl
  rw [L_enc, L_enc] at this
  exact this
theorem parts_split {k : Nat} {lo hi p : Int} {L : List S35} (h : parts (k + 1) lo hi = some L) (hc : cut lo hi = some p) : ∃ a b, parts k lo (p - 1) = some a ∧ parts k p hi = some b ∧ L = a ++ b := by
  rw [parts, hc] at h
  simp only at h
  cases ea : parts k lo (p - 1) with
  | none => rw [ea] at h; cases h
  | some a =>
    rw [ea] at h
    cases eb : parts k p hi with
    | none => rw [eb] at h; cases h
    | some b => rw [eb] at h; exact ⟨a, b, rfl, rfl, (Option.some.inj h).symm⟩
def MM (j : Nat) (m : Int) : Prop := (j = 4 ∧ m = 64) ∨ (j = 3 ∧ m = 4096) ∨ (j = 2 ∧ m = 262144) ∨ (j = 1 ∧ m = 16777216)
set_option maxRecDepth 100000 in
set_option maxHeartbeats 8000000 in
theorem part_calls (n : Nat) (w0 : World) (g : Nat) : ∀ (k : Nat) (lo hi : Int) (L : List S35) (v : Value) (rs : List (List S35)) (W : World), parts k lo hi = some L → Cls n lo hi → RAt w0 g v rs W → rs.length + L.length < 100000 →
    Calls Tryd.prog 17 #[.int .i64 lo, .int .i64 hi, .func (.func 18) #[] #[.pointer (some ⟨g, 0, none⟩)]] W fun e W' => e = .returned (.tuple #[]) ∧ RRes w0 g v (rs ++ L.map rowT) W W' := by
  intro k
  induction k with
  | zero => intro lo hi L v rs W h; cases h
  | succ k ih =>
    intro lo hi L v rs W hp hc hR hl
    have HLH : Aside0 (0 ≤ lo ∧ lo ≤ hi ∧ hi ≤ 1114111) := ⟨by unfold Cls at hc; omega⟩
    have HLEN : Aside0 (utf_Length.f 3 lo = some (n : Int)) := ⟨by rw [Length_k _ _ (by omega), (hc.enc lo (Int.le_refl _) hc.1).1]⟩
    have HROW : Aside0 (byteseq_row.f 20 lo hi = some (rowOf lo hi)) := ⟨row_f hc 20 (by omega)⟩
    have HP := Aside0.mk hp
    have HC := Aside0.mk hc
    have HR := Aside0.mk hR
    have HL := Aside0.mk hl
    have HB0 := Aside0.mk (Below.refl W.heap.size W)
    clear hp hc hR hl
    go_enter Tryd.func17, Tryd.ntmps17
    go_wp2_with fail
    go_loopg [6] 4 (fun kq v6 w' => ∃ (m : Int) (j : Nat), v6 = .int .i64 m ∧ Aside0 (cut lo hi = cutM j m lo hi) ∧ Aside0 (MM j m) ∧ Aside0 (kq = j) ∧ Aside0 (Below W.heap.size W w'))
    case atStart => exact ⟨64, 4, rfl, ⟨rfl⟩, ⟨by unfold MM; omega⟩, ⟨rfl⟩, HB0⟩
    case round =>
    obtain ⟨m, j, rfl, HCUT, HM, HJ, HB⟩ := hrel
    clear HB0
    have hm := HM.out
    unfold MM at hm
    rcases hm with ⟨rfl, rfl⟩ | ⟨rfl, rfl⟩ | ⟨rfl, rfl⟩ | ⟨rfl, rfl⟩
    · by_cases c1 : (64 : Int) ≤ hi
      · have c1' : decide ((64 : Int) ≤ hi) = true := decide_eq_true c1
        by_cases c2 : 128 ≤ lo
        · have hn : (n : Int) > 1 := by have h := HC.out; unfold Cls at h; omega
          have hn' : decide ((n : Int) > 1) = true := decide_eq_true hn
          obtain ⟨q1, hq1⟩ : ∃ q, lo / 64 = q := ⟨_, rfl⟩
          obtain ⟨q2, hq2⟩ : ∃ q, hi / 64 = q := ⟨_, rfl⟩
          have d1 : wrap64 (Int.tdiv lo 64) = q1 := by rw [Int.tdiv_eq_ediv_of_nonneg HLH.out.1]; have := HLH.out; unfold wrap64; omega
          have d2 : wrap64 (Int.tdiv hi 64) = q2 := by rw [Int.tdiv_eq_ediv_of_nonneg (Int.le_trans HLH.out.1 HLH.out.2.1)]; have := HLH.out; unfold wrap64; omega
          by_cases c3 : q1 = q2
          · have c3' : decide (q1 = q2) = true := decide_eq_true c3
            have hcn : cut lo hi = none := by rw [HCUT.out]; rw [cutM, if_pos ⟨c1, c2⟩, if_pos (by omega)]
            have hL : some [(⟨lo, hi⟩ : S35)] = some L := by have h := HP.out; rw [parts, hcn] at h; exact h
            obtain rfl := Option.some.inj hL
            clear hL
            clear hcn
            clear hq1 hq2
            subst c3
            go_wp2_with (go_at_call 28; (refine (utf_Length.calls 3 lo _ _ HLEN.out).mono ?_); rintro e w3 ⟨rfl, ⟨nd, rfl⟩⟩)
            refine start_ (n := 7) (S := fun w' => True) (ds := []) #[false, false, false, false, false, false, false] (by kernel_rfl) rfl rfl trivial (fun hHeld => ?_)
            refine pure_ (i := 0) (N := some 17) (v := ?_) (a' := ?_) #[true, false, false, false, false, false, false] rfl rfl (by kernel_rfl) (fun _ _ _ h => h) (Or.inl ⟨by rfl, ?_⟩) ?_ ?_
            rotate_left
            · intro w'
              go_simp
              with_reducible rfl
            rotate_left
            · simp only [Act.put, List.setIfInBounds_toArray, List.set_cons_zero, List.set_cons_succ, i64_w, i32_w]
              rfl
            refine pure_ (i := 1) (N := some 18) (v := ?_) (a' := ?_) #[true, true, false, false, false, false, false] rfl rfl (by kernel_rfl) (fun _ _ _ h => h) (Or.inl ⟨by rfl, ?_⟩) ?_ ?_
            rotate_left
            · intro w'
              go_simp
              with_reducible rfl
            rotate_left
            · simp only [Act.put, List.setIfInBounds_toArray, List.set_cons_zero, List.set_cons_succ, i64_w, i32_w]
              rfl
            refine pure_ (i := 2) (N := some 19) (v := ?_) (a' := ?_) #[true, true, true, false, false, false, false] rfl rfl (by kernel_rfl) (fun _ _ _ h => h) (Or.inl ⟨by rfl, ?_⟩) ?_ ?_
            rotate_left
            · intro w'
              go_simp
              with_reducible rfl
            rotate_left
            · simp only [Act.put, List.setIfInBounds_toArray, List.set_cons_zero, List.set_cons_succ, i64_w, i32_w]
              rfl
            refine pure_ (i := 3) (N := some 20) (v := ?_) (a' := ?_) #[true, true, true, true, false, false, false] rfl rfl (by kernel_rfl) (fun _ _ _ h => h) (Or.inl ⟨by rfl, ?_⟩) ?_ ?_
            rotate_left
            · intro w'
              go_simp
              with_reducible rfl
            rotate_left
            · simp only [Act.put, List.setIfInBounds_toArray, List.set_cons_zero, List.set_cons_succ, i64_w, i32_w]
              rfl
            refine pure_ (i := 4) (N := some 21) (v := ?_) (a' := ?_) #[true, true, true, true, true, false, false] rfl rfl (by kernel_rfl) (fun _ _ _ h => h) (Or.inl ⟨by rfl, ?_⟩) ?_ ?_
            rotate_left
            · intro w'
              go_simp
              with_reducible rfl
            rotate_left
            · simp only [Act.put, List.setIfInBounds_toArray, List.set_cons_zero, List.set_cons_succ, i64_w, i32_w]
              rfl
            refine pure_ (i := 5) (N := some 22) (v := ?_) (a' := ?_) #[true, true, true, true, true, true, false] rfl rfl (by kernel_rfl) (fun _ _ _ h => h) (Or.inl ⟨by rfl, ?_⟩) ?_ ?_
            rotate_left
            · intro w'
              go_simp
              with_reducible rfl
            rotate_left
            · simp only [Act.put, List.setIfInBounds_toArray, List.set_cons_zero, List.set_cons_succ, i64_w, i32_w]
              rfl
            refine pure_ (i := 6) (N := some 23) (v := ?_) (a' := ?_) #[true, true, true, true, true, true, true] rfl rfl (by kernel_rfl) (fun _ _ _ h => h) (Or.inl ⟨by rfl, ?_⟩) ?_ ?_
            rotate_left
            · intro w'
              go_simp
              with_reducible rfl
            rotate_left
            · simp only [Act.put, List.setIfInBounds_toArray, List.set_cons_zero, List.set_cons_succ, i64_w, i32_w]
              rfl
            refine done_ (by kernel_rfl) ?_
            go_wp2_with (first | (go_at_call 18; (refine (put_calls w0 g v rs A2 c2_ (rowOf lo hi) _ HR4.out HW4.out (by have := HL.out; omega)).mono ?_); rintro e w5 ⟨rfl, hres⟩; have HRES := Aside0.mk hres; clear hres) | (go_at_call 29; (refine (byteseq_row.calls 20 lo hi (rowOf lo hi) _ HROW.out).mono ?_); rintro e w4 ⟨v0, rfl, hr, hb⟩; obtain ⟨A2, c2_, rfl, _, _⟩ := Kd.R_reads hr; have HB4 := Aside0.mk (below_then (show Below W.heap.size W _ from (by first | exact HB.out | exact pw_below_drewN HB.out _ | exact below_drew1 (pw_below_drewN HB.out _) | exact below_drew1 HB.out)) (Below.size (show Below W.heap.size W _ from (by first | exact HB.out | exact pw_below_drewN HB.out _ | exact below_drew1 (pw_below_drewN HB.out _) | exact below_drew1 HB.out))) hb); have HR4 := Aside0.mk (HR.out.under HB4.out); have HW4 := Aside0.mk (Kd.R_lower hr (Nat.le_trans HR.out.below.size (Below.size (show Below W.heap.size W _ from (by first | exact HB.out | exact pw_below_drewN HB.out _ | exact below_drew1 (pw_below_drewN HB.out _) | exact below_drew1 HB.out))))); clear hr hb) | (go_at_call 28; (refine (utf_Length.calls 3 lo _ _ HLEN.out).mono ?_); rintro e w3 ⟨rfl, ⟨nd, rfl⟩⟩))
            go_end0
            exact ⟨rfl, RRes.since HB4.out HRES.out⟩
          · have c3' : decide (q1 = q2) = false := decide_eq_false c3
            obtain ⟨r1, hr1⟩ : ∃ r, lo % 64 = r := ⟨_, rfl⟩
            have e1 : Int.tmod lo 64 = r1 := by rw [Int.tmod_eq_emod_of_nonneg HLH.out.1]; exact hr1
            by_cases c4 : r1 = 0
            · subst c4
              obtain ⟨r2, hr2⟩ : ∃ r, hi % 64 = r := ⟨_, rfl⟩
              have e2 : Int.tmod hi 64 = r2 := by rw [Int.tmod_eq_emod_of_nonneg (Int.le_trans HLH.out.1 HLH.out.2.1)]; exact hr2
              by_cases c5 : r2 = 63
              · subst c5
                have HC2 : Aside0 (cut lo hi = cutM 3 4096 lo hi) := ⟨by rw [HCUT.out, cutM, if_pos ⟨c1, c2⟩, if_neg (by omega), if_neg (by omega), if_neg (by omega)]; rfl⟩
                clear hq1 hq2 hr1 hr2
                go_wp2_with (go_at_call 28; (refine (utf_Length.calls 3 lo _ _ HLEN.out).mono ?_); rintro e w3 ⟨rfl, ⟨nd, rfl⟩⟩)
                refine start_ (n := 7) (S := fun w' => True) (ds := []) #[false, false, false, false, false, false, false] (by kernel_rfl) rfl rfl trivial (fun hHeld => ?_)
                refine pure_ (i := 0) (N := some 17) (v := ?_) (a' := ?_) #[true, false, false, false, false, false, false] rfl rfl (by kernel_rfl) (fun _ _ _ h => h) (Or.inl ⟨by rfl, ?_⟩) ?_ ?_
                rotate_left
                · intro w'
                  go_simp
                  with_reducible rfl
                rotate_left
                · simp only [Act.put, List.setIfInBounds_toArray, List.set_cons_zero, List.set_cons_succ, i64_w, i32_w]
                  rfl
                refine pure_ (i := 1) (N := some 18) (v := ?_) (a' := ?_) #[true, true, false, false, false, false, false] rfl rfl (by kernel_rfl) (fun _ _ _ h => h) (Or.inl ⟨by rfl, ?_⟩) ?_ ?_
                rotate_left
                · intro w'
                  go_simp
                  with_reducible rfl
                rotate_left
                · simp only [Act.put, List.setIfInBounds_toArray, List.set_cons_zero, List.set_cons_succ, i64_w, i32_w]
                  rfl
                refine pure_ (i := 2) (N := some 19) (v := ?_) (a' := ?_) #[true, true, true, false, false, false, false] rfl rfl (by kernel_rfl) (fun _ _ _ h => h) (Or.inl ⟨by rfl, ?_⟩) ?_ ?_
                rotate_left
                · intro w'
                  go_simp
                  with_reducible rfl
                rotate_left
                · simp only [Act.put, List.setIfInBounds_toArray, List.set_cons_zero, List.set_cons_succ, i64_w, i32_w]
                  rfl
                refine pure_ (i := 3) (N := some 20) (v := ?_) (a' := ?_) #[true, true, true, true, false, false, false] rfl rfl (by kernel_rfl) (fun _ _ _ h => h) (Or.inl ⟨by rfl, ?_⟩) ?_ ?_
                rotate_left
                · intro w'
                  go_simp
                  with_reducible rfl
                rotate_left
                · simp only [Act.put, List.setIfInBounds_toArray, List.set_cons_zero, List.set_cons_succ, i64_w, i32_w]
                  rfl
                refine pure_ (i := 4) (N := some 21) (v := ?_) (a' := ?_) #[true, true, true, true, true, false, false] rfl rfl (by kernel_rfl) (fun _ _ _ h => h) (Or.inl ⟨by rfl, ?_⟩) ?_ ?_
                rotate_left
                · intro w'
                  go_simp
                  with_reducible rfl
                rotate_left
                · simp only [Act.put, List.setIfInBounds_toArray, List.set_cons_zero, List.set_cons_succ, i64_w, i32_w]
                  rfl
                refine pure_ (i := 5) (N := some 22) (v := ?_) (a' := ?_) #[true, true, true, true, true, true, false] rfl rfl (by kernel_rfl) (fun _ _ _ h => h) (Or.inl ⟨by rfl, ?_⟩) ?_ ?_
                rotate_left
                · intro w'
                  go_simp
                  with_reducible rfl
                rotate_left
                · simp only [Act.put, List.setIfInBounds_toArray, List.set_cons_zero, List.set_cons_succ, i64_w, i32_w]
                  rfl
                refine pure_ (i := 6) (N := some 23) (v := ?_) (a' := ?_) #[true, true, true, true, true, true, true] rfl rfl (by kernel_rfl) (fun _ _ _ h => h) (Or.inl ⟨by rfl, ?_⟩) ?_ ?_
                rotate_left
                · intro w'
                  go_simp
                  with_reducible rfl
                rotate_left
                · simp only [Act.put, List.setIfInBounds_toArray, List.set_cons_zero, List.set_cons_succ, i64_w, i32_w]
                  rfl
                refine done_ (by kernel_rfl) ?_
                go_wp2_with fail
                cases gk with
                | zero => have := HJ.out; omega
                | succ k1 =>
                  go_roundg k1
                  case measure => omega
                  case rel => exact ⟨_, 3, rfl, HC2, ⟨by unfold MM; omega⟩, ⟨by have := HJ.out; omega⟩, ⟨(by first | exact HB.out | exact pw_below_drewN HB.out _ | exact below_drew1 (pw_below_drewN HB.out _) | exact below_drew1 HB.out)⟩⟩
              · have c5' : decide (r2 = 63) = false := decide_eq_false c5
                have hcs : cut lo hi = some (hi - hi % 64) := by rw [HCUT.out]; rw [cutM, if_pos ⟨c1, c2⟩, if_neg (by omega), if_neg (by omega), if_pos (by omega)]
                obtain ⟨La, Lb, ha, hb, rfl⟩ : ∃ a b, parts k lo (hi - hi % 64 - 1) = some a ∧ parts k (hi - hi % 64) hi = some b ∧ L = a ++ b := parts_split HP.out hcs
                obtain ⟨i1, i2⟩ := cut_in HC.out hcs
                obtain ⟨p, hp⟩ : ∃ p, p = hi - hi % 64 := ⟨_, rfl⟩
                obtain ⟨p1, hp1⟩ : ∃ p1, p1 = hi - hi % 64 - 1 := ⟨_, rfl⟩
                have w1 : wrap64 (hi - r2) = p := by have := HLH.out; unfold wrap64; omega
                have w2 : wrap64 (p - 1) = p1 := by have := HLH.out; unfold wrap64; omega
                clear hr1 hr2
                have HPA : Aside0 (parts k lo p1 = some La) := ⟨by rw [hp1]; exact ha⟩
                have HPB : Aside0 (parts k p hi = some Lb) := ⟨by rw [hp]; exact hb⟩
                have HCA : Aside0 (Cls n lo p1) := ⟨HC.out.sub (Int.le_refl _) (by omega) (by omega)⟩
                have HCB : Aside0 (Cls n p hi) := ⟨HC.out.sub (by omega) (by omega) (Int.le_refl _)⟩
                have HLA : Aside0 (rs.length + La.length < 100000) := ⟨by have h := HL.out; rw [List.length_append] at h; omega⟩
                have HLB : Aside0 ((rs ++ La.map rowT).length + Lb.length < 100000) := ⟨by have h := HL.out; rw [List.length_append] at h ⊢; rw [List.length_map]; omega⟩
                clear ha hb hcs i1 i2 hp hp1 hq1 hq2
                go_wp2_with (go_at_call 28; (refine (utf_Length.calls 3 lo _ _ HLEN.out).mono ?_); rintro e w3 ⟨rfl, ⟨nd, rfl⟩⟩)
                refine start_ (n := 7) (S := fun w' => True) (ds := []) #[false, false, false, false, false, false, false] (by kernel_rfl) rfl rfl trivial (fun hHeld => ?_)
                refine pure_ (i := 0) (N := some 17) (v := ?_) (a' := ?_) #[true, false, false, false, false, false, false] rfl rfl (by kernel_rfl) (fun _ _ _ h => h) (Or.inl ⟨by rfl, ?_⟩) ?_ ?_
                rotate_left
                · intro w'
                  go_simp
                  with_reducible rfl
                rotate_left
                · simp only [Act.put, List.setIfInBounds_toArray, List.set_cons_zero, List.set_cons_succ, i64_w, i32_w]
                  rfl
                refine pure_ (i := 1) (N := some 18) (v := ?_) (a' := ?_) #[true, true, false, false, false, false, false] rfl rfl (by kernel_rfl) (fun _ _ _ h => h) (Or.inl ⟨by rfl, ?_⟩) ?_ ?_
                rotate_left
                · intro w'
                  go_simp
                  with_reducible rfl
                rotate_left
                · simp only [Act.put, List.setIfInBounds_toArray, List.set_cons_zero, List.set_cons_succ, i64_w, i32_w]
                  rfl
                refine pure_ (i := 2) (N := some 19) (v := ?_) (a' := ?_) #[true, true, true, false, false, false, false] rfl rfl (by kernel_rfl) (fun _ _ _ h => h) (Or.inl ⟨by rfl, ?_⟩) ?_ ?_
                rotate_left
                · intro w'
                  go_simp
                  with_reducible rfl
                rotate_left
                · simp only [Act.put, List.setIfInBounds_toArray, List.set_cons_zero, List.set_cons_succ, i64_w, i32_w]
                  rfl
                refine pure_ (i := 3) (N := some 20) (v := ?_) (a' := ?_) #[true, true, true, true, false, false, false] rfl rfl (by kernel_rfl) (fun _ _ _ h => h) (Or.inl ⟨by rfl, ?_⟩) ?_ ?_
                rotate_left
                · intro w'
                  go_simp
                  with_reducible rfl
                rotate_left
                · simp only [Act.put, List.setIfInBounds_toArray, List.set_cons_zero, List.set_cons_succ, i64_w, i32_w]
                  rfl
                refine pure_ (i := 4) (N := some 21) (v := ?_) (a' := ?_) #[true, true, true, true, true, false, false] rfl rfl (by kernel_rfl) (fun _ _ _ h => h) (Or.inl ⟨by rfl, ?_⟩) ?_ ?_
                rotate_left
                · intro w'
                  go_simp
                  with_reducible rfl
                rotate_left
                · simp only [Act.put, List.setIfInBounds_toArray, List.set_cons_zero, List.set_cons_succ, i64_w, i32_w]
                  rfl
                refine pure_ (i := 5) (N := some 22) (v := ?_) (a' := ?_) #[true, true, true, true, true, true, false] rfl rfl (by kernel_rfl) (fun _ _ _ h => h) (Or.inl ⟨by rfl, ?_⟩) ?_ ?_
                rotate_left
                · intro w'
                  go_simp
                  with_reducible rfl
                rotate_left
                · simp only [Act.put, List.setIfInBounds_toArray, List.set_cons_zero, List.set_cons_succ, i64_w, i32_w]
                  rfl
                refine pure_ (i := 6) (N := some 23) (v := ?_) (a' := ?_) #[true, true, true, true, true, true, true] rfl rfl (by kernel_rfl) (fun _ _ _ h => h) (Or.inl ⟨by rfl, ?_⟩) ?_ ?_
                rotate_left
                · intro w'
                  go_simp
                  with_reducible rfl
                rotate_left
                · simp only [Act.put, List.setIfInBounds_toArray, List.set_cons_zero, List.set_cons_succ, i64_w, i32_w]
                  rfl
                refine done_ (by kernel_rfl) ?_
                go_wp2_with (first | (go_at_call 17; (refine (ih p hi Lb v1 (rs ++ La.map rowT) _ HPB.out HCB.out H1.out HLB.out).mono ?_); rintro e w5 ⟨rfl, hres⟩; have HRES := Aside0.mk hres; clear hres) | (go_at_call 17; (refine (ih lo p1 La v rs _ HPA.out HCA.out (HR.out.under (by first | exact HB.out | exact pw_below_drewN HB.out _ | exact below_drew1 (pw_below_drewN HB.out _) | exact below_drew1 HB.out)) HLA.out).mono ?_); rintro e w4 ⟨rfl, v1, h1, k1, o1⟩; have H1 := Aside0.mk h1; have K1 := Aside0.mk (Kept.then_ (Kept.of_below (show Below W.heap.size W _ from (by first | exact HB.out | exact pw_below_drewN HB.out _ | exact below_drew1 (pw_below_drewN HB.out _) | exact below_drew1 HB.out)) (fun k => k = g ∨ some k = v.ownBlock)) k1 (fun k hk => .inl hk)); have O1 := Aside0.mk (fun k q => (o1 k q).imp id (fun z => Nat.le_trans (Below.size (show Below W.heap.size W _ from (by first | exact HB.out | exact pw_below_drewN HB.out _ | exact below_drew1 (pw_below_drewN HB.out _) | exact below_drew1 HB.out))) z)); clear h1 k1 o1))
                (try simp only [Exit.inBlock, Exit.then])
                refine bodyPost_ret (results_none rfl _ _ _) rfl ?_
                refine ⟨rfl, ?_⟩
                rw [List.map_append, ← List.append_assoc]
                exact RRes.of K1.out O1.out HRES.out
            · have c4' : decide (r1 = 0) = false := decide_eq_false c4
              have hcs : cut lo hi = some (lo - lo % 64 + 64) := by rw [HCUT.out]; rw [cutM, if_pos ⟨c1, c2⟩, if_neg (by omega), if_pos (by omega)]
              obtain ⟨La, Lb, ha, hb, rfl⟩ : ∃ a b, parts k lo (lo - lo % 64 + 64 - 1) = some a ∧ parts k (lo - lo % 64 + 64) hi = some b ∧ L = a ++ b := parts_split HP.out hcs
              obtain ⟨i1, i2⟩ := cut_in HC.out hcs
              obtain ⟨p, hp⟩ : ∃ p, p = lo - lo % 64 + 64 := ⟨_, rfl⟩
              obtain ⟨p1, hp1⟩ : ∃ p1, p1 = lo - lo % 64 + 64 - 1 := ⟨_, rfl⟩
              obtain ⟨s, hs⟩ : ∃ s, s = lo - r1 := ⟨_, rfl⟩
              have w1 : wrap64 (lo - r1) = s := by have := HLH.out; unfold wrap64; omega
              have w2 : wrap64 (s + 64) = p := by have := HLH.out; unfold wrap64; omega
              have w3 : wrap64 (p - 1) = p1 := by have := HLH.out; unfold wrap64; omega
              clear hr1 hs
              have HPA : Aside0 (parts k lo p1 = some La) := ⟨by rw [hp1]; exact ha⟩
              have HPB : Aside0 (parts k p hi = some Lb) := ⟨by rw [hp]; exact hb⟩
              have HCA : Aside0 (Cls n lo p1) := ⟨HC.out.sub (Int.le_refl _) (by omega) (by omega)⟩
              have HCB : Aside0 (Cls n p hi) := ⟨HC.out.sub (by omega) (by omega) (Int.le_refl _)⟩
              have HLA : Aside0 (rs.length + La.length < 100000) := ⟨by have h := HL.out; rw [List.length_append] at h; omega⟩
              have HLB : Aside0 ((rs ++ La.map rowT).length + Lb.length < 100000) := ⟨by have h := HL.out; rw [List.length_append] at h ⊢; rw [List.length_map]; omega⟩
              clear ha hb hcs i1 i2 hp hp1 hq1 hq2
              go_wp2_with (go_at_call 28; (refine (utf_Length.calls 3 lo _ _ HLEN.out).mono ?_); rintro e w3 ⟨rfl, ⟨nd, rfl⟩⟩)
              refine start_ (n := 7) (S := fun w' => True) (ds := []) #[false, false, false, false, false, false, false] (by kernel_rfl) rfl rfl trivial (fun hHeld => ?_)
              refine pure_ (i := 0) (N := some 17) (v := ?_) (a' := ?_) #[true, false, false, false, false, false, false] rfl rfl (by kernel_rfl) (fun _ _ _ h => h) (Or.inl ⟨by rfl, ?_⟩) ?_ ?_
              rotate_left
              · intro w'
                go_simp
                with_reducible rfl
              rotate_left
              · simp only [Act.put, List.setIfInBounds_toArray, List.set_cons_zero, List.set_cons_succ, i64_w, i32_w]
                rfl
              refine pure_ (i := 1) (N := some 18) (v := ?_) (a' := ?_) #[true, true, false, false, false, false, false] rfl rfl (by kernel_rfl) (fun _ _ _ h => h) (Or.inl ⟨by rfl, ?_⟩) ?_ ?_
              rotate_left
              · intro w'
                go_simp
                with_reducible rfl
              rotate_left
              · simp only [Act.put, List.setIfInBounds_toArray, List.set_cons_zero, List.set_cons_succ, i64_w, i32_w]
                rfl
              refine pure_ (i := 2) (N := some 19) (v := ?_) (a' := ?_) #[true, true, true, false, false, false, false] rfl rfl (by kernel_rfl) (fun _ _ _ h => h) (Or.inl ⟨by rfl, ?_⟩) ?_ ?_
              rotate_left
              · intro w'
                go_simp
                with_reducible rfl
              rotate_left
              · simp only [Act.put, List.setIfInBounds_toArray, List.set_cons_zero, List.set_cons_succ, i64_w, i32_w]
                rfl
              refine pure_ (i := 3) (N := some 20) (v := ?_) (a' := ?_) #[true, true, true, true, false, false, false] rfl rfl (by kernel_rfl) (fun _ _ _ h => h) (Or.inl ⟨by rfl, ?_⟩) ?_ ?_
              rotate_left
              · intro w'
                go_simp
                with_reducible rfl
              rotate_left
              · simp only [Act.put, List.setIfInBounds_toArray, List.set_cons_zero, List.set_cons_succ, i64_w, i32_w]
                rfl
              refine pure_ (i := 4) (N := some 21) (v := ?_) (a' := ?_) #[true, true, true, true, true, false, false] rfl rfl (by kernel_rfl) (fun _ _ _ h => h) (Or.inl ⟨by rfl, ?_⟩) ?_ ?_
              rotate_left
              · intro w'
                go_simp
                with_reducible rfl
              rotate_left
              · simp only [Act.put, List.setIfInBounds_toArray, List.set_cons_zero, List.set_cons_succ, i64_w, i32_w]
                rfl
              refine pure_ (i := 5) (N := some 22) (v := ?_) (a' := ?_) #[true, true, true, true, true, true, false] rfl rfl (by kernel_rfl) (fun _ _ _ h => h) (Or.inl ⟨by rfl, ?_⟩) ?_ ?_
              rotate_left
              · intro w'
                go_simp
                with_reducible rfl
              rotate_left
              · simp only [Act.put, List.setIfInBounds_toArray, List.set_cons_zero, List.set_cons_succ, i64_w, i32_w]
                rfl
              refine pure_ (i := 6) (N := some 23) (v := ?_) (a' := ?_) #[true, true, true, true, true, true, true] rfl rfl (by kernel_rfl) (fun _ _ _ h => h) (Or.inl ⟨by rfl, ?_⟩) ?_ ?_
              rotate_left
              · intro w'
                go_simp
                with_reducible rfl
              rotate_left
              · simp only [Act.put, List.setIfInBounds_toArray, List.set_cons_zero, List.set_cons_succ, i64_w, i32_w]
                rfl
              refine done_ (by kernel_rfl) ?_
              go_wp2_with (first | (go_at_call 17; (refine (ih p hi Lb v1 (rs ++ La.map rowT) _ HPB.out HCB.out H1.out HLB.out).mono ?_); rintro e w5 ⟨rfl, hres⟩; have HRES := Aside0.mk hres; clear hres) | (go_at_call 17; (refine (ih lo p1 La v rs _ HPA.out HCA.out (HR.out.under (by first | exact HB.out | exact pw_below_drewN HB.out _ | exact below_drew1 (pw_below_drewN HB.out _) | exact below_drew1 HB.out)) HLA.out).mono ?_); rintro e w4 ⟨rfl, v1, h1, k1, o1⟩; have H1 := Aside0.mk h1; have K1 := Aside0.mk (Kept.then_ (Kept.of_below (show Below W.heap.size W _ from (by first | exact HB.out | exact pw_below_drewN HB.out _ | exact below_drew1 (pw_below_drewN HB.out _) | exact below_drew1 HB.out)) (fun k => k = g ∨ some k = v.ownBlock)) k1 (fun k hk => .inl hk)); have O1 := Aside0.mk (fun k q => (o1 k q).imp id (fun z => Nat.le_trans (Below.size (show Below W.heap.size W _ from (by first | exact HB.out | exact pw_below_drewN HB.out _ | exact below_drew1 (pw_below_drewN HB.out _) | exact below_drew1 HB.out))) z)); clear h1 k1 o1))
              (try simp only [Exit.inBlock, Exit.then])
              refine bodyPost_ret (results_none rfl _ _ _) rfl ?_
              refine ⟨rfl, ?_⟩
              rw [List.map_append, ← List.append_assoc]
              exact RRes.of K1.out O1.out HRES.out
        · have hn : ¬ (n : Int) > 1 := by have h := HC.out; unfold Cls at h; omega
          have hn' : decide ((n : Int) > 1) = false := decide_eq_false hn
          have hcn : cut lo hi = none := by rw [HCUT.out]; rw [cutM, if_neg (fun h => c2 h.2)]
          have hL : some [(⟨lo, hi⟩ : S35)] = some L := by have h := HP.out; rw [parts, hcn] at h; exact h
          obtain rfl := Option.some.inj hL
          clear hL
          clear hcn
          go_wp2_with (first | (go_at_call 18; (refine (put_calls w0 g v rs A2 c2_ (rowOf lo hi) _ HR4.out HW4.out (by have := HL.out; omega)).mono ?_); rintro e w5 ⟨rfl, hres⟩; have HRES := Aside0.mk hres; clear hres) | (go_at_call 29; (refine (byteseq_row.calls 20 lo hi (rowOf lo hi) _ HROW.out).mono ?_); rintro e w4 ⟨v0, rfl, hr, hb⟩; obtain ⟨A2, c2_, rfl, _, _⟩ := Kd.R_reads hr; have HB4 := Aside0.mk (below_then (show Below W.heap.size W _ from (by first | exact HB.out | exact pw_below_drewN HB.out _ | exact below_drew1 (pw_below_drewN HB.out _) | exact below_drew1 HB.out)) (Below.size (show Below W.heap.size W _ from (by first | exact HB.out | exact pw_below_drewN HB.out _ | exact below_drew1 (pw_below_drewN HB.out _) | exact below_drew1 HB.out))) hb); have HR4 := Aside0.mk (HR.out.under HB4.out); have HW4 := Aside0.mk (Kd.R_lower hr (Nat.le_trans HR.out.below.size (Below.size (show Below W.heap.size W _ from (by first | exact HB.out | exact pw_below_drewN HB.out _ | exact below_drew1 (pw_below_drewN HB.out _) | exact below_drew1 HB.out))))); clear hr hb) | (go_at_call 28; (refine (utf_Length.calls 3 lo _ _ HLEN.out).mono ?_); rintro e w3 ⟨rfl, ⟨nd, rfl⟩⟩))
          go_end0
          exact ⟨rfl, RRes.since HB4.out HRES.out⟩
      · have c1' : decide ((64 : Int) ≤ hi) = false := decide_eq_false c1
        have hcn : cut lo hi = none := by rw [HCUT.out]; rw [cutM, if_neg (fun h => c1 h.1)]
        have hL : some [(⟨lo, hi⟩ : S35)] = some L := by have h := HP.out; rw [parts, hcn] at h; exact h
        obtain rfl := Option.some.inj hL
        clear hL
        clear hcn
        go_wp2_with (first | (go_at_call 18; (refine (put_calls w0 g v rs A2 c2_ (rowOf lo hi) _ HR4.out HW4.out (by have := HL.out; omega)).mono ?_); rintro e w5 ⟨rfl, hres⟩; have HRES := Aside0.mk hres; clear hres) | (go_at_call 29; (refine (byteseq_row.calls 20 lo hi (rowOf lo hi) _ HROW.out).mono ?_); rintro e w4 ⟨v0, rfl, hr, hb⟩; obtain ⟨A2, c2_, rfl, _, _⟩ := Kd.R_reads hr; have HB4 := Aside0.mk (below_then (show Below W.heap.size W _ from (by first | exact HB.out | exact pw_below_drewN HB.out _ | exact below_drew1 (pw_below_drewN HB.out _) | exact below_drew1 HB.out)) (Below.size (show Below W.heap.size W _ from (by first | exact HB.out | exact pw_below_drewN HB.out _ | exact below_drew1 (pw_below_drewN HB.out _) | exact below_drew1 HB.out))) hb); have HR4 := Aside0.mk (HR.out.under HB4.out); have HW4 := Aside0.mk (Kd.R_lower hr (Nat.le_trans HR.out.below.size (Below.size (show Below W.heap.size W _ from (by first | exact HB.out | exact pw_below_drewN HB.out _ | exact below_drew1 (pw_below_drewN HB.out _) | exact below_drew1 HB.out))))); clear hr hb) | (go_at_call 28; (refine (utf_Length.calls 3 lo _ _ HLEN.out).mono ?_); rintro e w3 ⟨rfl, ⟨nd, rfl⟩⟩))
        go_end0
        exact ⟨rfl, RRes.since HB4.out HRES.out⟩
    · by_cases c1 : (4096 : Int) ≤ hi
      · have c1' : decide ((4096 : Int) ≤ hi) = true := decide_eq_true c1
        by_cases c2 : 128 ≤ lo
        · have hn : (n : Int) > 1 := by have h := HC.out; unfold Cls at h; omega
          have hn' : decide ((n : Int) > 1) = true := decide_eq_true hn
          obtain ⟨q1, hq1⟩ : ∃ q, lo / 4096 = q := ⟨_, rfl⟩
          obtain ⟨q2, hq2⟩ : ∃ q, hi / 4096 = q := ⟨_, rfl⟩
          have d1 : wrap64 (Int.tdiv lo 4096) = q1 := by rw [Int.tdiv_eq_ediv_of_nonneg HLH.out.1]; have := HLH.out; unfold wrap64; omega
          have d2 : wrap64 (Int.tdiv hi 4096) = q2 := by rw [Int.tdiv_eq_ediv_of_nonneg (Int.le_trans HLH.out.1 HLH.out.2.1)]; have := HLH.out; unfold wrap64; omega
          by_cases c3 : q1 = q2
          · have c3' : decide (q1 = q2) = true := decide_eq_true c3
            have hcn : cut lo hi = none := by rw [HCUT.out]; rw [cutM, if_pos ⟨c1, c2⟩, if_pos (by omega)]
            have hL : some [(⟨lo, hi⟩ : S35)] = some L := by have h := HP.out; rw [parts, hcn] at h; exact h
            obtain rfl := Option.some.inj hL
            clear hL
            clear hcn
            clear hq1 hq2
            subst c3
            go_wp2_with (go_at_call 28; (refine (utf_Length.calls 3 lo _ _ HLEN.out).mono ?_); rintro e w3 ⟨rfl, ⟨nd, rfl⟩⟩)
            refine start_ (n := 7) (S := fun w' => True) (ds := []) #[false, false, false, false, false, false, false] (by kernel_rfl) rfl rfl trivial (fun hHeld => ?_)
            refine pure_ (i := 0) (N := some 17) (v := ?_) (a' := ?_) #[true, false, false, false, false, false, false] rfl rfl (by kernel_rfl) (fun _ _ _ h => h) (Or.inl ⟨by rfl, ?_⟩) ?_ ?_
            rotate_left
            · intro w'
              go_simp
              with_reducible rfl
            rotate_left
            · simp only [Act.put, List.setIfInBounds_toArray, List.set_cons_zero, List.set_cons_succ, i64_w, i32_w]
              rfl
            refine pure_ (i := 1) (N := some 18) (v := ?_) (a' := ?_) #[true, true, false, false, false, false, false] rfl rfl (by kernel_rfl) (fun _ _ _ h => h) (Or.inl ⟨by rfl, ?_⟩) ?_ ?_
            rotate_left
            · intro w'
              go_simp
              with_reducible rfl
            rotate_left
            · simp only [Act.put, List.setIfInBounds_toArray, List.set_cons_zero, List.set_cons_succ, i64_w, i32_w]
              rfl
            refine pure_ (i := 2) (N := some 19) (v := ?_) (a' := ?_) #[true, true, true, false, false, false, false] rfl rfl (by kernel_rfl) (fun _ _ _ h => h) (Or.inl ⟨by rfl, ?_⟩) ?_ ?_
            rotate_left
            · intro w'
              go_simp
              with_reducible rfl
            rotate_left
            · simp only [Act.put, List.setIfInBounds_toArray, List.set_cons_zero, List.set_cons_succ, i64_w, i32_w]
              rfl
            refine pure_ (i := 3) (N := some 20) (v := ?_) (a' := ?_) #[true, true, true, true, false, false, false] rfl rfl (by kernel_rfl) (fun _ _ _ h => h) (Or.inl ⟨by rfl, ?_⟩) ?_ ?_
            rotate_left
            · intro w'
              go_simp
              with_reducible rfl
            rotate_left
            · simp only [Act.put, List.setIfInBounds_toArray, List.set_cons_zero, List.set_cons_succ, i64_w, i32_w]
              rfl
            refine pure_ (i := 4) (N := some 21) (v := ?_) (a' := ?_) #[true, true, true, true, true, false, false] rfl rfl (by kernel_rfl) (fun _ _ _ h => h) (Or.inl ⟨by rfl, ?_⟩) ?_ ?_
            rotate_left
            · intro w'
              go_simp
              with_reducible rfl
            rotate_left
            · simp only [Act.put, List.setIfInBounds_toArray, List.set_cons_zero, List.set_cons_succ, i64_w, i32_w]
              rfl
            refine pure_ (i := 5) (N := some 22) (v := ?_) (a' := ?_) #[true, true, true, true, true, true, false] rfl rfl (by kernel_rfl) (fun _ _ _ h => h) (Or.inl ⟨by rfl, ?_⟩) ?_ ?_
            rotate_left
            · intro w'
              go_simp
              with_reducible rfl
            rotate_left
            · simp only [Act.put, List.setIfInBounds_toArray, List.set_cons_zero, List.set_cons_succ, i64_w, i32_w]
              rfl
            refine pure_ (i := 6) (N := some 23) (v := ?_) (a' := ?_) #[true, true, true, true, true, true, true] rfl rfl (by kernel_rfl) (fun _ _ _ h => h) (Or.inl ⟨by rfl, ?_⟩) ?_ ?_
            rotate_left
            · intro w'
              go_simp
              with_reducible rfl
            rotate_left
            · simp only [Act.put, List.setIfInBounds_toArray, List.set_cons_zero, List.set_cons_succ, i64_w, i32_w]
              rfl
            refine done_ (by kernel_rfl) ?_
            go_wp2_with (first | (go_at_call 18; (refine (put_calls w0 g v rs A2 c2_ (rowOf lo hi) _ HR4.out HW4.out (by have := HL.out; omega)).mono ?_); rintro e w5 ⟨rfl, hres⟩; have HRES := Aside0.mk hres; clear hres) | (go_at_call 29; (refine (byteseq_row.calls 20 lo hi (rowOf lo hi) _ HROW.out).mono ?_); rintro e w4 ⟨v0, rfl, hr, hb⟩; obtain ⟨A2, c2_, rfl, _, _⟩ := Kd.R_reads hr; have HB4 := Aside0.mk (below_then (show Below W.heap.size W _ from (by first | exact HB.out | exact pw_below_drewN HB.out _ | exact below_drew1 (pw_below_drewN HB.out _) | exact below_drew1 HB.out)) (Below.size (show Below W.heap.size W _ from (by first | exact HB.out | exact pw_below_drewN HB.out _ | exact below_drew1 (pw_below_drewN HB.out _) | exact below_drew1 HB.out))) hb); have HR4 := Aside0.mk (HR.out.under HB4.out); have HW4 := Aside0.mk (Kd.R_lower hr (Nat.le_trans HR.out.below.size (Below.size (show Below W.heap.size W _ from (by first | exact HB.out | exact pw_below_drewN HB.out _ | exact below_drew1 (pw_below_drewN HB.out _) | exact below_drew1 HB.out))))); clear hr hb) | (go_at_call 28; (refine (utf_Length.calls 3 lo _ _ HLEN.out).mono ?_); rintro e w3 ⟨rfl, ⟨nd, rfl⟩⟩))
            go_end0
            exact ⟨rfl, RRes.since HB4.out HRES.out⟩
          · have c3' : decide (q1 = q2) = false := decide_eq_false c3
            obtain ⟨r1, hr1⟩ : ∃ r, lo % 4096 = r := ⟨_, rfl⟩
            have e1 : Int.tmod lo 4096 = r1 := by rw [Int.tmod_eq_emod_of_nonneg HLH.out.1]; exact hr1
            by_cases c4 : r1 = 0
            · subst c4
              obtain ⟨r2, hr2⟩ : ∃ r, hi % 4096 = r := ⟨_, rfl⟩
              have e2 : Int.tmod hi 4096 = r2 := by rw [Int.tmod_eq_emod_of_nonneg (Int.le_trans HLH.out.1 HLH.out.2.1)]; exact hr2
              by_cases c5 : r2 = 4095
              · subst c5
                have HC2 : Aside0 (cut lo hi = cutM 2 262144 lo hi) := ⟨by rw [HCUT.out, cutM, if_pos ⟨c1, c2⟩, if_neg (by omega), if_neg (by omega), if_neg (by omega)]; rfl⟩
                clear hq1 hq2 hr1 hr2
                go_wp2_with (go_at_call 28; (refine (utf_Length.calls 3 lo _ _ HLEN.out).mono ?_); rintro e w3 ⟨rfl, ⟨nd, rfl⟩⟩)
                refine start_ (n := 7) (S := fun w' => True) (ds := []) #[false, false, false, false, false, false, false] (by kernel_rfl) rfl rfl trivial (fun hHeld => ?_)
                refine pure_ (i := 0) (N := some 17) (v := ?_) (a' := ?_) #[true, false, false, false, false, false, false] rfl rfl (by kernel_rfl) (fun _ _ _ h => h) (Or.inl ⟨by rfl, ?_⟩) ?_ ?_
                rotate_left
                · intro w'
                  go_simp
                  with_reducible rfl
                rotate_left
                · simp only [Act.put, List.setIfInBounds_toArray, List.set_cons_zero, List.set_cons_succ, i64_w, i32_w]
                  rfl
                refine pure_ (i := 1) (N := some 18) (v := ?_) (a' := ?_) #[true, true, false, false, false, false, false] rfl rfl (by kernel_rfl) (fun _ _ _ h => h) (Or.inl ⟨by rfl, ?_⟩) ?_ ?_
                rotate_left
                · intro w'
                  go_simp
                  with_reducible rfl
                rotate_left
                · simp only [Act.put, List.setIfInBounds_toArray, List.set_cons_zero, List.set_cons_succ, i64_w, i32_w]
                  rfl
                refine pure_ (i := 2) (N := some 19) (v := ?_) (a' := ?_) #[true, true, true, false, false, false, false] rfl rfl (by kernel_rfl) (fun _ _ _ h => h) (Or.inl ⟨by rfl, ?_⟩) ?_ ?_
                rotate_left
                · intro w'
                  go_simp
                  with_reducible rfl
                rotate_left
                · simp only [Act.put, List.setIfInBounds_toArray, List.set_cons_zero, List.set_cons_succ, i64_w, i32_w]
                  rfl
                refine pure_ (i := 3) (N := some 20) (v := ?_) (a' := ?_) #[true, true, true, true, false, false, false] rfl rfl (by kernel_rfl) (fun _ _ _ h => h) (Or.inl ⟨by rfl, ?_⟩) ?_ ?_
                rotate_left
                · intro w'
                  go_simp
                  with_reducible rfl
                rotate_left
                · simp only [Act.put, List.setIfInBounds_toArray, List.set_cons_zero, List.set_cons_succ, i64_w, i32_w]
                  rfl
                refine pure_ (i := 4) (N := some 21) (v := ?_) (a' := ?_) #[true, true, true, true, true, false, false] rfl rfl (by kernel_rfl) (fun _ _ _ h => h) (Or.inl ⟨by rfl, ?_⟩) ?_ ?_
                rotate_left
                · intro w'
                  go_simp
                  with_reducible rfl
                rotate_left
                · simp only [Act.put, List.setIfInBounds_toArray, List.set_cons_zero, List.set_cons_succ, i64_w, i32_w]
                  rfl
                refine pure_ (i := 5) (N := some 22) (v := ?_) (a' := ?_) #[true, true, true, true, true, true, false] rfl rfl (by kernel_rfl) (fun _ _ _ h => h) (Or.inl ⟨by rfl, ?_⟩) ?_ ?_
                rotate_left
                · intro w'
                  go_simp
                  with_reducible rfl
                rotate_left
                · simp only [Act.put, List.setIfInBounds_toArray, List.set_cons_zero, List.set_cons_succ, i64_w, i32_w]
                  rfl
                refine pure_ (i := 6) (N := some 23) (v := ?_) (a' := ?_) #[true, true, true, true, true, true, true] rfl rfl (by kernel_rfl) (fun _ _ _ h => h) (Or.inl ⟨by rfl, ?_⟩) ?_ ?_
                rotate_left
                · intro w'
                  go_simp
                  with_reducible rfl
                rotate_left
                · simp only [Act.put, List.setIfInBounds_toArray, List.set_cons_zero, List.set_cons_succ, i64_w, i32_w]
                  rfl
                refine done_ (by kernel_rfl) ?_
                go_wp2_with fail
                cases gk with
                | zero => have := HJ.out; omega
                | succ k1 =>
                  go_roundg k1
                  case measure => omega
                  case rel => exact ⟨_, 2, rfl, HC2, ⟨by unfold MM; omega⟩, ⟨by have := HJ.out; omega⟩, ⟨(by first | exact HB.out | exact pw_below_drewN HB.out _ | exact below_drew1 (pw_below_drewN HB.out _) | exact below_drew1 HB.out)⟩⟩
              · have c5' : decide (r2 = 4095) = false := decide_eq_false c5
                have hcs : cut lo hi = some (hi - hi % 4096) := by rw [HCUT.out]; rw [cutM, if_pos ⟨c1, c2⟩, if_neg (by omega), if_neg (by omega), if_pos (by omega)]
                obtain ⟨La, Lb, ha, hb, rfl⟩ : ∃ a b, parts k lo (hi - hi % 4096 - 1) = some a ∧ parts k (hi - hi % 4096) hi = some b ∧ L = a ++ b := parts_split HP.out hcs
                obtain ⟨i1, i2⟩ := cut_in HC.out hcs
                obtain ⟨p, hp⟩ : ∃ p, p = hi - hi % 4096 := ⟨_, rfl⟩
                obtain ⟨p1, hp1⟩ : ∃ p1, p1 = hi - hi % 4096 - 1 := ⟨_, rfl⟩
                have w1 : wrap64 (hi - r2) = p := by have := HLH.out; unfold wrap64; omega
                have w2 : wrap64 (p - 1) = p1 := by have := HLH.out; unfold wrap64; omega
                clear hr1 hr2
                have HPA : Aside0 (parts k lo p1 = some La) := ⟨by rw [hp1]; exact ha⟩
                have HPB : Aside0 (parts k p hi = some Lb) := ⟨by rw [hp]; exact hb⟩
                have HCA : Aside0 (Cls n lo p1) := ⟨HC.out.sub (Int.le_refl _) (by omega) (by omega)⟩
                have HCB : Aside0 (Cls n p hi) := ⟨HC.out.sub (by omega) (by omega) (Int.le_refl _)⟩
                have HLA : Aside0 (rs.length + La.length < 100000) := ⟨by have h := HL.out; rw [List.length_append] at h; omega⟩
                have HLB : Aside0 ((rs ++ La.map rowT).length + Lb.length < 100000) := ⟨by have h := HL.out; rw [List.length_append] at h ⊢; rw [List.length_map]; omega⟩
                clear ha hb hcs i1 i2 hp hp1 hq1 hq2
                go_wp2_with (go_at_call 28; (refine (utf_Length.calls 3 lo _ _ HLEN.out).mono ?_); rintro e w3 ⟨rfl, ⟨nd, rfl⟩⟩)
                refine start_ (n := 7) (S := fun w' => True) (ds := []) #[false, false, false, false, false, false, false] (by kernel_rfl) rfl rfl trivial (fun hHeld => ?_)
                refine pure_ (i := 0) (N := some 17) (v := ?_) (a' := ?_) #[true, false, false, false, false, false, false] rfl rfl (by kernel_rfl) (fun _ _ _ h => h) (Or.inl ⟨by rfl, ?_⟩) ?_ ?_
                rotate_left
                · intro w'
                  go_simp
                  with_reducible rfl
                rotate_left
                · simp only [Act.put, List.setIfInBounds_toArray, List.set_cons_zero, List.set_cons_succ, i64_w, i32_w]
                  rfl
                refine pure_ (i := 1) (N := some 18) (v := ?_) (a' := ?_) #[true, true, false, false, false, false, false] rfl rfl (by kernel_rfl) (fun _ _ _ h => h) (Or.inl ⟨by rfl, ?_⟩) ?_ ?_
                rotate_left
                · intro w'
                  go_simp
                  with_reducible rfl
                rotate_left
                · simp only [Act.put, List.setIfInBounds_toArray, List.set_cons_zero, List.set_cons_succ, i64_w, i32_w]
                  rfl
                refine pure_ (i := 2) (N := some 19) (v := ?_) (a' := ?_) #[true, true, true, false, false, false, false] rfl rfl (by kernel_rfl) (fun _ _ _ h => h) (Or.inl ⟨by rfl, ?_⟩) ?_ ?_
                rotate_left
                · intro w'
                  go_simp
                  with_reducible rfl
                rotate_left
                · simp only [Act.put, List.setIfInBounds_toArray, List.set_cons_zero, List.set_cons_succ, i64_w, i32_w]
                  rfl
                refine pure_ (i := 3) (N := some 20) (v := ?_) (a' := ?_) #[true, true, true, true, false, false, false] rfl rfl (by kernel_rfl) (fun _ _ _ h => h) (Or.inl ⟨by rfl, ?_⟩) ?_ ?_
                rotate_left
                · intro w'
                  go_simp
                  with_reducible rfl
                rotate_left
                · simp only [Act.put, List.setIfInBounds_toArray, List.set_cons_zero, List.set_cons_succ, i64_w, i32_w]
                  rfl
                refine pure_ (i := 4) (N := some 21) (v := ?_) (a' := ?_) #[true, true, true, true, true, false, false] rfl rfl (by kernel_rfl) (fun _ _ _ h => h) (Or.inl ⟨by rfl, ?_⟩) ?_ ?_
                rotate_left
                · intro w'
                  go_simp
                  with_reducible rfl
                rotate_left
                · simp only [Act.put, List.setIfInBounds_toArray, List.set_cons_zero, List.set_cons_succ, i64_w, i32_w]
                  rfl
                refine pure_ (i := 5) (N := some 22) (v := ?_) (a' := ?_) #[true, true, true, true, true, true, false] rfl rfl (by kernel_rfl) (fun _ _ _ h => h) (Or.inl ⟨by rfl, ?_⟩) ?_ ?_
                rotate_left
                · intro w'
                  go_simp
                  with_reducible rfl
                rotate_left
                · simp only [Act.put, List.setIfInBounds_toArray, List.set_cons_zero, List.set_cons_succ, i64_w, i32_w]
                  rfl
                refine pure_ (i := 6) (N := some 23) (v := ?_) (a' := ?_) #[true, true, true, true, true, true, true] rfl rfl (by kernel_rfl) (fun _ _ _ h => h) (Or.inl ⟨by rfl, ?_⟩) ?_ ?_
                rotate_left
                · intro w'
                  go_simp
                  with_reducible rfl
                rotate_left
                · simp only [Act.put, List.setIfInBounds_toArray, List.set_cons_zero, List.set_cons_succ, i64_w, i32_w]
                  rfl
                refine done_ (by kernel_rfl) ?_
                go_wp2_with (first | (go_at_call 17; (refine (ih p hi Lb v1 (rs ++ La.map rowT) _ HPB.out HCB.out H1.out HLB.out).mono ?_); rintro e w5 ⟨rfl, hres⟩; have HRES := Aside0.mk hres; clear hres) | (go_at_call 17; (refine (ih lo p1 La v rs _ HPA.out HCA.out (HR.out.under (by first | exact HB.out | exact pw_below_drewN HB.out _ | exact below_drew1 (pw_below_drewN HB.out _) | exact below_drew1 HB.out)) HLA.out).mono ?_); rintro e w4 ⟨rfl, v1, h1, k1, o1⟩; have H1 := Aside0.mk h1; have K1 := Aside0.mk (Kept.then_ (Kept.of_below (show Below W.heap.size W _ from (by first | exact HB.out | exact pw_below_drewN HB.out _ | exact below_drew1 (pw_below_drewN HB.out _) | exact below_drew1 HB.out)) (fun k => k = g ∨ some k = v.ownBlock)) k1 (fun k hk => .inl hk)); have O1 := Aside0.mk (fun k q => (o1 k q).imp id (fun z => Nat.le_trans (Below.size (show Below W.heap.size W _ from (by first | exact HB.out | exact pw_below_drewN HB.out _ | exact below_drew1 (pw_below_drewN HB.out _) | exact below_drew1 HB.out))) z)); clear h1 k1 o1))
                (try simp only [Exit.inBlock, Exit.then])
                refine bodyPost_ret (results_none rfl _ _ _) rfl ?_
                refine ⟨rfl, ?_⟩
                rw [List.map_append, ← List.append_assoc]
                exact RRes.of K1.out O1.out HRES.out
            · have c4' : decide (r1 = 0) = false := decide_eq_false c4
              have hcs : cut lo hi = some (lo - lo % 4096 + 4096) := by rw [HCUT.out]; rw [cutM, if_pos ⟨c1, c2⟩, if_neg (by omega), if_pos (by omega)]
              obtain ⟨La, Lb, ha, hb, rfl⟩ : ∃ a b, parts k lo (lo - lo % 4096 + 4096 - 1) = some a ∧ parts k (lo - lo % 4096 + 4096) hi = some b ∧ L = a ++ b := parts_split HP.out hcs
              obtain ⟨i1, i2⟩ := cut_in HC.out hcs
              obtain ⟨p, hp⟩ : ∃ p, p = lo - lo % 4096 + 4096 := ⟨_, rfl⟩
              obtain ⟨p1, hp1⟩ : ∃ p1, p1 = lo - lo % 4096 + 4096 - 1 := ⟨_, rfl⟩
              obtain ⟨s, hs⟩ : ∃ s, s = lo - r1 := ⟨_, rfl⟩
              have w1 : wrap64 (lo - r1) = s := by have := HLH.out; unfold wrap64; omega
              have w2 : wrap64 (s + 4096) = p := by have := HLH.out; unfold wrap64; omega
              have w3 : wrap64 (p - 1) = p1 := by have := HLH.out; unfold wrap64; omega
              clear hr1 hs
              have HPA : Aside0 (parts k lo p1 = some La) := ⟨by rw [hp1]; exact ha⟩
              have HPB : Aside0 (parts k p hi = some Lb) := ⟨by rw [hp]; exact hb⟩
              have HCA : Aside0 (Cls n lo p1) := ⟨HC.out.sub (Int.le_refl _) (by omega) (by omega)⟩
              have HCB : Aside0 (Cls n p hi) := ⟨HC.out.sub (by omega) (by omega) (Int.le_refl _)⟩
              have HLA : Aside0 (rs.length + La.length < 100000) := ⟨by have h := HL.out; rw [List.length_append] at h; omega⟩
              have HLB : Aside0 ((rs ++ La.map rowT).length + Lb.length < 100000) := ⟨by have h := HL.out; rw [List.length_append] at h ⊢; rw [List.length_map]; omega⟩
              clear ha hb hcs i1 i2 hp hp1 hq1 hq2
              go_wp2_with (go_at_call 28; (refine (utf_Length.calls 3 lo _ _ HLEN.out).mono ?_); rintro e w3 ⟨rfl, ⟨nd, rfl⟩⟩)
              refine start_ (n := 7) (S := fun w' => True) (ds := []) #[false, false, false, false, false, false, false] (by kernel_rfl) rfl rfl trivial (fun hHeld => ?_)
              refine pure_ (i := 0) (N := some 17) (v := ?_) (a' := ?_) #[true, false, false, false, false, false, false] rfl rfl (by kernel_rfl) (fun _ _ _ h => h) (Or.inl ⟨by rfl, ?_⟩) ?_ ?_
              rotate_left
              · intro w'
                go_simp
                with_reducible rfl
              rotate_left
              · simp only [Act.put, List.setIfInBounds_toArray, List.set_cons_zero, List.set_cons_succ, i64_w, i32_w]
                rfl
              refine pure_ (i := 1) (N := some 18) (v := ?_) (a' := ?_) #[true, true, false, false, false, false, false] rfl rfl (by kernel_rfl) (fun _ _ _ h => h) (Or.inl ⟨by rfl, ?_⟩) ?_ ?_
              rotate_left
              · intro w'
                go_simp
                with_reducible rfl
              rotate_left
              · simp only [Act.put, List.setIfInBounds_toArray, List.set_cons_zero, List.set_cons_succ, i64_w, i32_w]
                rfl
              refine pure_ (i := 2) (N := some 19) (v := ?_) (a' := ?_) #[true, true, true, false, false, false, false] rfl rfl (by kernel_rfl) (fun _ _ _ h => h) (Or.inl ⟨by rfl, ?_⟩) ?_ ?_
              rotate_left
              · intro w'
                go_simp
                with_reducible rfl
              rotate_left
              · simp only [Act.put, List.setIfInBounds_toArray, List.set_cons_zero, List.set_cons_succ, i64_w, i32_w]
                rfl
              refine pure_ (i := 3) (N := some 20) (v := ?_) (a' := ?_) #[true, true, true, true, false, false, false] rfl rfl (by kernel_rfl) (fun _ _ _ h => h) (Or.inl ⟨by rfl, ?_⟩) ?_ ?_
              rotate_left
              · intro w'
                go_simp
                with_reducible rfl
              rotate_left
              · simp only [Act.put, List.setIfInBounds_toArray, List.set_cons_zero, List.set_cons_succ, i64_w, i32_w]
                rfl
              refine pure_ (i := 4) (N := some 21) (v := ?_) (a' := ?_) #[true, true, true, true, true, false, false] rfl rfl (by kernel_rfl) (fun _ _ _ h => h) (Or.inl ⟨by rfl, ?_⟩) ?_ ?_
              rotate_left
              · intro w'
                go_simp
                with_reducible rfl
              rotate_left
              · simp only [Act.put, List.setIfInBounds_toArray, List.set_cons_zero, List.set_cons_succ, i64_w, i32_w]
                rfl
              refine pure_ (i := 5) (N := some 22) (v := ?_) (a' := ?_) #[true, true, true, true, true, true, false] rfl rfl (by kernel_rfl) (fun _ _ _ h => h) (Or.inl ⟨by rfl, ?_⟩) ?_ ?_
              rotate_left
              · intro w'
                go_simp
                with_reducible rfl
              rotate_left
              · simp only [Act.put, List.setIfInBounds_toArray, List.set_cons_zero, List.set_cons_succ, i64_w, i32_w]
                rfl
              refine pure_ (i := 6) (N := some 23) (v := ?_) (a' := ?_) #[true, true, true, true, true, true, true] rfl rfl (by kernel_rfl) (fun _ _ _ h => h) (Or.inl ⟨by rfl, ?_⟩) ?_ ?_
              rotate_left
              · intro w'
                go_simp
                with_reducible rfl
              rotate_left
              · simp only [Act.put, List.setIfInBounds_toArray, List.set_cons_zero, List.set_cons_succ, i64_w, i32_w]
                rfl
              refine done_ (by kernel_rfl) ?_
              go_wp2_with (first | (go_at_call 17; (refine (ih p hi Lb v1 (rs ++ La.map rowT) _ HPB.out HCB.out H1.out HLB.out).mono ?_); rintro e w5 ⟨rfl, hres⟩; have HRES := Aside0.mk hres; clear hres) | (go_at_call 17; (refine (ih lo p1 La v rs _ HPA.out HCA.out (HR.out.under (by first | exact HB.out | exact pw_below_drewN HB.out _ | exact below_drew1 (pw_below_drewN HB.out _) | exact below_drew1 HB.out)) HLA.out).mono ?_); rintro e w4 ⟨rfl, v1, h1, k1, o1⟩; have H1 := Aside0.mk h1; have K1 := Aside0.mk (Kept.then_ (Kept.of_below (show Below W.heap.size W _ from (by first | exact HB.out | exact pw_below_drewN HB.out _ | exact below_drew1 (pw_below_drewN HB.out _) | exact below_drew1 HB.out)) (fun k => k = g ∨ some k = v.ownBlock)) k1 (fun k hk => .inl hk)); have O1 := Aside0.mk (fun k q => (o1 k q).imp id (fun z => Nat.le_trans (Below.size (show Below W.heap.size W _ from (by first | exact HB.out | exact pw_below_drewN HB.out _ | exact below_drew1 (pw_below_drewN HB.out _) | exact below_drew1 HB.out))) z)); clear h1 k1 o1))
              (try simp only [Exit.inBlock, Exit.then])
              refine bodyPost_ret (results_none rfl _ _ _) rfl ?_
              refine ⟨rfl, ?_⟩
              rw [List.map_append, ← List.append_assoc]
              exact RRes.of K1.out O1.out HRES.out
        · have hn : ¬ (n : Int) > 1 := by have h := HC.out; unfold Cls at h; omega
          have hn' : decide ((n : Int) > 1) = false := decide_eq_false hn
          have hcn : cut lo hi = none := by rw [HCUT.out]; rw [cutM, if_neg (fun h => c2 h.2)]
          have hL : some [(⟨lo, hi⟩ : S35)] = some L := by have h := HP.out; rw [parts, hcn] at h; exact h
          obtain rfl := Option.some.inj hL
          clear hL
          clear hcn
          go_wp2_with (first | (go_at_call 18; (refine (put_calls w0 g v rs A2 c2_ (rowOf lo hi) _ HR4.out HW4.out (by have := HL.out; omega)).mono ?_); rintro e w5 ⟨rfl, hres⟩; have HRES := Aside0.mk hres; clear hres) | (go_at_call 29; (refine (byteseq_row.calls 20 lo hi (rowOf lo hi) _ HROW.out).mono ?_); rintro e w4 ⟨v0, rfl, hr, hb⟩; obtain ⟨A2, c2_, rfl, _, _⟩ := Kd.R_reads hr; have HB4 := Aside0.mk (below_then (show Below W.heap.size W _ from (by first | exact HB.out | exact pw_below_drewN HB.out _ | exact below_drew1 (pw_below_drewN HB.out _) | exact below_drew1 HB.out)) (Below.size (show Below W.heap.size W _ from (by first | exact HB.out | exact pw_below_drewN HB.out _ | exact below_drew1 (pw_below_drewN HB.out _) | exact below_drew1 HB.out))) hb); have HR4 := Aside0.mk (HR.out.under HB4.out); have HW4 := Aside0.mk (Kd.R_lower hr (Nat.le_trans HR.out.below.size (Below.size (show Below W.heap.size W _ from (by first | exact HB.out | exact pw_below_drewN HB.out _ | exact below_drew1 (pw_below_drewN HB.out _) | exact below_drew1 HB.out))))); clear hr hb) | (go_at_call 28; (refine (utf_Length.calls 3 lo _ _ HLEN.out).mono ?_); rintro e w3 ⟨rfl, ⟨nd, rfl⟩⟩))
          go_end0
          exact ⟨rfl, RRes.since HB4.out HRES.out⟩
      · have c1' : decide ((4096 : Int) ≤ hi) = false := decide_eq_false c1
        have hcn : cut lo hi = none := by rw [HCUT.out]; rw [cutM, if_neg (fun h => c1 h.1)]
        have hL : some [(⟨lo, hi⟩ : S35)] = some L := by have h := HP.out; rw [parts, hcn] at h; exact h
        obtain rfl := Option.some.inj hL
        clear hL
        clear hcn
        go_wp2_with (first | (go_at_call 18; (refine (put_calls w0 g v rs A2 c2_ (rowOf lo hi) _ HR4.out HW4.out (by have := HL.out; omega)).mono ?_); rintro e w5 ⟨rfl, hres⟩; have HRES := Aside0.mk hres; clear hres) | (go_at_call 29; (refine (byteseq_row.calls 20 lo hi (rowOf lo hi) _ HROW.out).mono ?_); rintro e w4 ⟨v0, rfl, hr, hb⟩; obtain ⟨A2, c2_, rfl, _, _⟩ := Kd.R_reads hr; have HB4 := Aside0.mk (below_then (show Below W.heap.size W _ from (by first | exact HB.out | exact pw_below_drewN HB.out _ | exact below_drew1 (pw_below_drewN HB.out _) | exact below_drew1 HB.out)) (Below.size (show Below W.heap.size W _ from (by first | exact HB.out | exact pw_below_drewN HB.out _ | exact below_drew1 (pw_below_drewN HB.out _) | exact below_drew1 HB.out))) hb); have HR4 := Aside0.mk (HR.out.under HB4.out); have HW4 := Aside0.mk (Kd.R_lower hr (Nat.le_trans HR.out.below.size (Below.size (show Below W.heap.size W _ from (by first | exact HB.out | exact pw_below_drewN HB.out _ | exact below_drew1 (pw_below_drewN HB.out _) | exact below_drew1 HB.out))))); clear hr hb) | (go_at_call 28; (refine (utf_Length.calls 3 lo _ _ HLEN.out).mono ?_); rintro e w3 ⟨rfl, ⟨nd, rfl⟩⟩))
        go_end0
        exact ⟨rfl, RRes.since HB4.out HRES.out⟩
    · by_cases c1 : (262144 : Int) ≤ hi
      · have c1' : decide ((262144 : Int) ≤ hi) = true := decide_eq_true c1
        by_cases c2 : 128 ≤ lo
        · have hn : (n : Int) > 1 := by have h := HC.out; unfold Cls at h; omega
          have hn' : decide ((n : Int) > 1) = true := decide_eq_true hn
          obtain ⟨q1, hq1⟩ : ∃ q, lo / 262144 = q := ⟨_, rfl⟩
          obtain ⟨q2, hq2⟩ : ∃ q, hi / 262144 = q := ⟨_, rfl⟩
          have d1 : wrap64 (Int.tdiv lo 262144) = q1 := by rw [Int.tdiv_eq_ediv_of_nonneg HLH.out.1]; have := HLH.out; unfold wrap64; omega
          have d2 : wrap64 (Int.tdiv hi 262144) = q2 := by rw [Int.tdiv_eq_ediv_of_nonneg (Int.le_trans HLH.out.1 HLH.out.2.1)]; have := HLH.out; unfold wrap64; omega
          by_cases c3 : q1 = q2
          · have c3' : decide (q1 = q2) = true := decide_eq_true c3
            have hcn : cut lo hi = none := by rw [HCUT.out]; rw [cutM, if_pos ⟨c1, c2⟩, if_pos (by omega)]
            have hL : some [(⟨lo, hi⟩ : S35)] = some L := by have h := HP.out; rw [parts, hcn] at h; exact h
            obtain rfl := Option.some.inj hL
            clear hL
            clear hcn
            clear hq1 hq2
            subst c3
            go_wp2_with (go_at_call 28; (refine (utf_Length.calls 3 lo _ _ HLEN.out).mono ?_); rintro e w3 ⟨rfl, ⟨nd, rfl⟩⟩)
            refine start_ (n := 7) (S := fun w' => True) (ds := []) #[false, false, false, false, false, false, false] (by kernel_rfl) rfl rfl trivial (fun hHeld => ?_)
            refine pure_ (i := 0) (N := some 17) (v := ?_) (a' := ?_) #[true, false, false, false, false, false, false] rfl rfl (by kernel_rfl) (fun _ _ _ h => h) (Or.inl ⟨by rfl, ?_⟩) ?_ ?_
            rotate_left
            · intro w'
              go_simp
              with_reducible rfl
            rotate_left
            · simp only [Act.put, List.setIfInBounds_toArray, List.set_cons_zero, List.set_cons_succ, i64_w, i32_w]
              rfl
            refine pure_ (i := 1) (N := some 18) (v := ?_) (a' := ?_) #[true, true, false, false, false, false, false] rfl rfl (by kernel_rfl) (fun _ _ _ h => h) (Or.inl ⟨by rfl, ?_⟩) ?_ ?_
            rotate_left
            · intro w'
              go_simp
              with_reducible rfl
            rotate_left
            · simp only [Act.put, List.setIfInBounds_toArray, List.set_cons_zero, List.set_cons_succ, i64_w, i32_w]
              rfl
            refine pure_ (i := 2) (N := some 19) (v := ?_) (a' := ?_) #[true, true, true, false, false, false, false] rfl rfl (by kernel_rfl) (fun _ _ _ h => h) (Or.inl ⟨by rfl, ?_⟩) ?_ ?_
            rotate_left
            · intro w'
              go_simp
              with_reducible rfl
            rotate_left
            · simp only [Act.put, List.setIfInBounds_toArray, List.set_cons_zero, List.set_cons_succ, i64_w, i32_w]
              rfl
            refine pure_ (i := 3) (N := some 20) (v := ?_) (a' := ?_) #[true, true, true, true, false, false, false] rfl rfl (by kernel_rfl) (fun _ _ _ h => h) (Or.inl ⟨by rfl, ?_⟩) ?_ ?_
            rotate_left
            · intro w'
              go_simp
              with_reducible rfl
            rotate_left
            · simp only [Act.put, List.setIfInBounds_toArray, List.set_cons_zero, List.set_cons_succ, i64_w, i32_w]
              rfl
            refine pure_ (i := 4) (N := some 21) (v := ?_) (a' := ?_) #[true, true, true, true, true, false, false] rfl rfl (by kernel_rfl) (fun _ _ _ h => h) (Or.inl ⟨by rfl, ?_⟩) ?_ ?_
            rotate_left
            · intro w'
              go_simp
              with_reducible rfl
            rotate_left
            · simp only [Act.put, List.setIfInBounds_toArray, List.set_cons_zero, List.set_cons_succ, i64_w, i32_w]
              rfl
            refine pure_ (i := 5) (N := some 22) (v := ?_) (a' := ?_) #[true, true, true, true, true, true, false] rfl rfl (by kernel_rfl) (fun _ _ _ h => h) (Or.inl ⟨by rfl, ?_⟩) ?_ ?_
            rotate_left
            · intro w'
              go_simp
              with_reducible rfl
            rotate_left
            · simp only [Act.put, List.setIfInBounds_toArray, List.set_cons_zero, List.set_cons_succ, i64_w, i32_w]
              rfl
            refine pure_ (i := 6) (N := some 23) (v := ?_) (a' := ?_) #[true, true, true, true, true, true, true] rfl rfl (by kernel_rfl) (fun _ _ _ h => h) (Or.inl ⟨by rfl, ?_⟩) ?_ ?_
            rotate_left
            · intro w'
              go_simp
              with_reducible rfl
            rotate_left
            · simp only [Act.put, List.setIfInBounds_toArray, List.set_cons_zero, List.set_cons_succ, i64_w, i32_w]
              rfl
            refine done_ (by kernel_rfl) ?_
            go_wp2_with (first | (go_at_call 18; (refine (put_calls w0 g v rs A2 c2_ (rowOf lo hi) _ HR4.out HW4.out (by have := HL.out; omega)).mono ?_); rintro e w5 ⟨rfl, hres⟩; have HRES := Aside0.mk hres; clear hres) | (go_at_call 29; (refine (byteseq_row.calls 20 lo hi (rowOf lo hi) _ HROW.out).mono ?_); rintro e w4 ⟨v0, rfl, hr, hb⟩; obtain ⟨A2, c2_, rfl, _, _⟩ := Kd.R_reads hr; have HB4 := Aside0.mk (below_then (show Below W.heap.size W _ from (by first | exact HB.out | exact pw_below_drewN HB.out _ | exact below_drew1 (pw_below_drewN HB.out _) | exact below_drew1 HB.out)) (Below.size (show Below W.heap.size W _ from (by first | exact HB.out | exact pw_below_drewN HB.out _ | exact below_drew1 (pw_below_drewN HB.out _) | exact below_drew1 HB.out))) hb); have HR4 := Aside0.mk (HR.out.under HB4.out); have HW4 := Aside0.mk (Kd.R_lower hr (Nat.le_trans HR.out.below.size (Below.size (show Below W.heap.size W _ from (by first | exact HB.out | exact pw_below_drewN HB.out _ | exact below_drew1 (pw_below_drewN HB.out _) | exact below_drew1 HB.out))))); clear hr hb) | (go_at_call 28; (refine (utf_Length.calls 3 lo _ _ HLEN.out).mono ?_); rintro e w3 ⟨rfl, ⟨nd, rfl⟩⟩))
            go_end0
            exact ⟨rfl, RRes.since HB4.out HRES.out⟩
          · have c3' : decide (q1 = q2) = false := decide_eq_false c3
            obtain ⟨r1, hr1⟩ : ∃ r, lo % 262144 = r := ⟨_, rfl⟩
            have e1 : Int.tmod lo 262144 = r1 := by rw [Int.tmod_eq_emod_of_nonneg HLH.out.1]; exact hr1
            by_cases c4 : r1 = 0
            · subst c4
              obtain ⟨r2, hr2⟩ : ∃ r, hi % 262144 = r := ⟨_, rfl⟩
              have e2 : Int.tmod hi 262144 = r2 := by rw [Int.tmod_eq_emod_of_nonneg (Int.le_trans HLH.out.1 HLH.out.2.1)]; exact hr2
              by_cases c5 : r2 = 262143
              · subst c5
                have HC2 : Aside0 (cut lo hi = cutM 1 16777216 lo hi) := ⟨by rw [HCUT.out, cutM, if_pos ⟨c1, c2⟩, if_neg (by omega), if_neg (by omega), if_neg (by omega)]; rfl⟩
                clear hq1 hq2 hr1 hr2
                go_wp2_with (go_at_call 28; (refine (utf_Length.calls 3 lo _ _ HLEN.out).mono ?_); rintro e w3 ⟨rfl, ⟨nd, rfl⟩⟩)
                refine start_ (n := 7) (S := fun w' => True) (ds := []) #[false, false, false, false, false, false, false] (by kernel_rfl) rfl rfl trivial (fun hHeld => ?_)
                refine pure_ (i := 0) (N := some 17) (v := ?_) (a' := ?_) #[true, false, false, false, false, false, false] rfl rfl (by kernel_rfl) (fun _ _ _ h => h) (Or.inl ⟨by rfl, ?_⟩) ?_ ?_
                rotate_left
                · intro w'
                  go_simp
                  with_reducible rfl
                rotate_left
                · simp only [Act.put, List.setIfInBounds_toArray, List.set_cons_zero, List.set_cons_succ, i64_w, i32_w]
                  rfl
                refine pure_ (i := 1) (N := some 18) (v := ?_) (a' := ?_) #[true, true, false, false, false, false, false] rfl rfl (by kernel_rfl) (fun _ _ _ h => h) (Or.inl ⟨by rfl, ?_⟩) ?_ ?_
                rotate_left
                · intro w'
                  go_simp
                  with_reducible rfl
                rotate_left
                · simp only [Act.put, List.setIfInBounds_toArray, List.set_cons_zero, List.set_cons_succ, i64_w, i32_w]
                  rfl
                refine pure_ (i := 2) (N := some 19) (v := ?_) (a' := ?_) #[true, true, true, false, false, false, false] rfl rfl (by kernel_rfl) (fun _ _ _ h => h) (Or.inl ⟨by rfl, ?_⟩) ?_ ?_
                rotate_left
                · intro w'
                  go_simp
                  with_reducible rfl
                rotate_left
                · simp only [Act.put, List.setIfInBounds_toArray, List.set_cons_zero, List.set_cons_succ, i64_w, i32_w]
                  rfl
                refine pure_ (i := 3) (N := some 20) (v := ?_) (a' := ?_) #[true, true, true, true, false, false, false] rfl rfl (by kernel_rfl) (fun _ _ _ h => h) (Or.inl ⟨by rfl, ?_⟩) ?_ ?_
                rotate_left
                · intro w'
                  go_simp
                  with_reducible rfl
                rotate_left
                · simp only [Act.put, List.setIfInBounds_toArray, List.set_cons_zero, List.set_cons_succ, i64_w, i32_w]
                  rfl
                refine pure_ (i := 4) (N := some 21) (v := ?_) (a' := ?_) #[true, true, true, true, true, false, false] rfl rfl (by kernel_rfl) (fun _ _ _ h => h) (Or.inl ⟨by rfl, ?_⟩) ?_ ?_
                rotate_left
                · intro w'
                  go_simp
                  with_reducible rfl
                rotate_left
                · simp only [Act.put, List.setIfInBounds_toArray, List.set_cons_zero, List.set_cons_succ, i64_w, i32_w]
                  rfl
                refine pure_ (i := 5) (N := some 22) (v := ?_) (a' := ?_) #[true, true, true, true, true, true, false] rfl rfl (by kernel_rfl) (fun _ _ _ h => h) (Or.inl ⟨by rfl, ?_⟩) ?_ ?_
                rotate_left
                · intro w'
                  go_simp
                  with_reducible rfl
                rotate_left
                · simp only [Act.put, List.setIfInBounds_toArray, List.set_cons_zero, List.set_cons_succ, i64_w, i32_w]
                  rfl
                refine pure_ (i := 6) (N := some 23) (v := ?_) (a' := ?_) #[true, true, true, true, true, true, true] rfl rfl (by kernel_rfl) (fun _ _ _ h => h) (Or.inl ⟨by rfl, ?_⟩) ?_ ?_
                rotate_left
                · intro w'
                  go_simp
                  with_reducible rfl
                rotate_left
                · simp only [Act.put, List.setIfInBounds_toArray, List.set_cons_zero, List.set_cons_succ, i64_w, i32_w]
                  rfl
                refine done_ (by kernel_rfl) ?_
                go_wp2_with fail
                cases gk with
                | zero => have := HJ.out; omega
                | succ k1 =>
                  go_roundg k1
                  case measure => omega
                  case rel => exact ⟨_, 1, rfl, HC2, ⟨by unfold MM; omega⟩, ⟨by have := HJ.out; omega⟩, ⟨(by first | exact HB.out | exact pw_below_drewN HB.out _ | exact below_drew1 (pw_below_drewN HB.out _) | exact below_drew1 HB.out)⟩⟩
              · have c5' : decide (r2 = 262143) = false := decide_eq_false c5
                have hcs : cut lo hi = some (hi - hi % 262144) := by rw [HCUT.out]; rw [cutM, if_pos ⟨c1, c2⟩, if_neg (by omega), if_neg (by omega), if_pos (by omega)]
                obtain ⟨La, Lb, ha, hb, rfl⟩ : ∃ a b, parts k lo (hi - hi % 262144 - 1) = some a ∧ parts k (hi - hi % 262144) hi = some b ∧ L = a ++ b := parts_split HP.out hcs
                obtain ⟨i1, i2⟩ := cut_in HC.out hcs
                obtain ⟨p, hp⟩ : ∃ p, p = hi - hi % 262144 := ⟨_, rfl⟩
                obtain ⟨p1, hp1⟩ : ∃ p1, p1 = hi - hi % 262144 - 1 := ⟨_, rfl⟩
                have w1 : wrap64 (hi - r2) = p := by have := HLH.out; unfold wrap64; omega
                have w2 : wrap64 (p - 1) = p1 := by have := HLH.out; unfold wrap64; omega
                clear hr1 hr2
                have HPA : Aside0 (parts k lo p1 = some La) := ⟨by rw [hp1]; exact ha⟩
                have HPB : Aside0 (parts k p hi = some Lb) := ⟨by rw [hp]; exact hb⟩
                have HCA : Aside0 (Cls n lo p1) := ⟨HC.out.sub (Int.le_refl _) (by omega) (by omega)⟩
                have HCB : Aside0 (Cls n p hi) := ⟨HC.out.sub (by omega) (by omega) (Int.le_refl _)⟩
                have HLA : Aside0 (rs.length + La.length < 100000) := ⟨by have h := HL.out; rw [List.length_append] at h; omega⟩
                have HLB : Aside0 ((rs ++ La.map rowT).length + Lb.length < 100000) := ⟨by have h := HL.out; rw [List.length_append] at h ⊢; rw [List.length_map]; omega⟩
                clear ha hb hcs i1 i2 hp hp1 hq1 hq2
                go_wp2_with (go_at_call 28; (refine (utf_Length.calls 3 lo _ _ HLEN.out).mono ?_); rintro e w3 ⟨rfl, ⟨nd, rfl⟩⟩)
                refine start_ (n := 7) (S := fun w' => True) (ds := []) #[false, false, false, false, false, false, false] (by kernel_rfl) rfl rfl trivial (fun hHeld => ?_)
                refine pure_ (i := 0) (N := some 17) (v := ?_) (a' := ?_) #[true, false, false, false, false, false, false] rfl rfl (by kernel_rfl) (fun _ _ _ h => h) (Or.inl ⟨by rfl, ?_⟩) ?_ ?_
                rotate_left
                · intro w'
                  go_simp
                  with_reducible rfl
                rotate_left
                · simp only [Act.put, List.setIfInBounds_toArray, List.set_cons_zero, List.set_cons_succ, i64_w, i32_w]
                  rfl
                refine pure_ (i := 1) (N := some 18) (v := ?_) (a' := ?_) #[true, true, false, false, false, false, false] rfl rfl (by kernel_rfl) (fun _ _ _ h => h) (Or.inl ⟨by rfl, ?_⟩) ?_ ?_
                rotate_left
                · intro w'
                  go_simp
                  with_reducible rfl
                rotate_left
                · simp only [Act.put, List.setIfInBounds_toArray, List.set_cons_zero, List.set_cons_succ, i64_w, i32_w]
                  rfl
                refine pure_ (i := 2) (N := some 19) (v := ?_) (a' := ?_) #[true, true, true, false, false, false, false] rfl rfl (by kernel_rfl) (fun _ _ _ h => h) (Or.inl ⟨by rfl, ?_⟩) ?_ ?_
                rotate_left
                · intro w'
                  go_simp
                  with_reducible rfl
                rotate_left
                · simp only [Act.put, List.setIfInBounds_toArray, List.set_cons_zero, List.set_cons_succ, i64_w, i32_w]
                  rfl
                refine pure_ (i := 3) (N := some 20) (v := ?_) (a' := ?_) #[true, true, true, true, false, false, false] rfl rfl (by kernel_rfl) (fun _ _ _ h => h) (Or.inl ⟨by rfl, ?_⟩) ?_ ?_
                rotate_left
                · intro w'
                  go_simp
                  with_reducible rfl
                rotate_left
                · simp only [Act.put, List.setIfInBounds_toArray, List.set_cons_zero, List.set_cons_succ, i64_w, i32_w]
                  rfl
                refine pure_ (i := 4) (N := some 21) (v := ?_) (a' := ?_) #[true, true, true, true, true, false, false] rfl rfl (by kernel_rfl) (fun _ _ _ h => h) (Or.inl ⟨by rfl, ?_⟩) ?_ ?_
                rotate_left
                · intro w'
                  go_simp
                  with_reducible rfl
                rotate_left
                · simp only [Act.put, List.setIfInBounds_toArray, List.set_cons_zero, List.set_cons_succ, i64_w, i32_w]
                  rfl
                refine pure_ (i := 5) (N := some 22) (v := ?_) (a' := ?_) #[true, true, true, true, true, true, false] rfl rfl (by kernel_rfl) (fun _ _ _ h => h) (Or.inl ⟨by rfl, ?_⟩) ?_ ?_
                rotate_left
                · intro w'
                  go_simp
                  with_reducible rfl
                rotate_left
                · simp only [Act.put, List.setIfInBounds_toArray, List.set_cons_zero, List.set_cons_succ, i64_w, i32_w]
                  rfl
                refine pure_ (i := 6) (N := some 23) (v := ?_) (a' := ?_) #[true, true, true, true, true, true, true] rfl rfl (by kernel_rfl) (fun _ _ _ h => h) (Or.inl ⟨by rfl, ?_⟩) ?_ ?_
                rotate_left
                · intro w'
                  go_simp
                  with_reducible rfl
                rotate_left
                · simp only [Act.put, List.setIfInBounds_toArray, List.set_cons_zero, List.set_cons_succ, i64_w, i32_w]
                  rfl
                refine done_ (by kernel_rfl) ?_
                go_wp2_with (first | (go_at_call 17; (refine (ih p hi Lb v1 (rs ++ La.map rowT) _ HPB.out HCB.out H1.out HLB.out).mono ?_); rintro e w5 ⟨rfl, hres⟩; have HRES := Aside0.mk hres; clear hres) | (go_at_call 17; (refine (ih lo p1 La v rs _ HPA.out HCA.out (HR.out.under (by first | exact HB.out | exact pw_below_drewN HB.out _ | exact below_drew1 (pw_below_drewN HB.out _) | exact below_drew1 HB.out)) HLA.out).mono ?_); rintro e w4 ⟨rfl, v1, h1, k1, o1⟩; have H1 := Aside0.mk h1; have K1 := Aside0.mk (Kept.then_ (Kept.of_below (show Below W.heap.size W _ from (by first | exact HB.out | exact pw_below_drewN HB.out _ | exact below_drew1 (pw_below_drewN HB.out _) | exact below_drew1 HB.out)) (fun k => k = g ∨ some k = v.ownBlock)) k1 (fun k hk => .inl hk)); have O1 := Aside0.mk (fun k q => (o1 k q).imp id (fun z => Nat.le_trans (Below.size (show Below W.heap.size W _ from (by first | exact HB.out | exact pw_below_drewN HB.out _ | exact below_drew1 (pw_below_drewN HB.out _) | exact below_drew1 HB.out))) z)); clear h1 k1 o1))
                (try simp only [Exit.inBlock, Exit.then])
                refine bodyPost_ret (results_none rfl _ _ _) rfl ?_
                refine ⟨rfl, ?_⟩
                rw [List.map_append, ← List.append_assoc]
                exact RRes.of K1.out O1.out HRES.out
            · have c4' : decide (r1 = 0) = false := decide_eq_false c4
              have hcs : cut lo hi = some (lo - lo % 262144 + 262144) := by rw [HCUT.out]; rw [cutM, if_pos ⟨c1, c2⟩, if_neg (by omega), if_pos (by omega)]
              obtain ⟨La, Lb, ha, hb, rfl⟩ : ∃ a b, parts k lo (lo - lo % 262144 + 262144 - 1) = some a ∧ parts k (lo - lo % 262144 + 262144) hi = some b ∧ L = a ++ b := parts_split HP.out hcs
              obtain ⟨i1, i2⟩ := cut_in HC.out hcs
              obtain ⟨p, hp⟩ : ∃ p, p = lo - lo % 262144 + 262144 := ⟨_, rfl⟩
              obtain ⟨p1, hp1⟩ : ∃ p1, p1 = lo - lo % 262144 + 262144 - 1 := ⟨_, rfl⟩
              obtain ⟨s, hs⟩ : ∃ s, s = lo - r1 := ⟨_, rfl⟩
              have w1 : wrap64 (lo - r1) = s := by have := HLH.out; unfold wrap64; omega
              have w2 : wrap64 (s + 262144) = p := by have := HLH.out; unfold wrap64; omega
              have w3 : wrap64 (p - 1) = p1 := by have := HLH.out; unfold wrap64; omega
              clear hr1 hs
              have HPA : Aside0 (parts k lo p1 = some La) := ⟨by rw [hp1]; exact ha⟩
              have HPB : Aside0 (parts k p hi = some Lb) := ⟨by rw [hp]; exact hb⟩
              have HCA : Aside0 (Cls n lo p1) := ⟨HC.out.sub (Int.le_refl _) (by omega) (by omega)⟩
              have HCB : Aside0 (Cls n p hi) := ⟨HC.out.sub (by omega) (by omega) (Int.le_refl _)⟩
              have HLA : Aside0 (rs.length + La.length < 100000) := ⟨by have h := HL.out; rw [List.length_append] at h; omega⟩
              have HLB : Aside0 ((rs ++ La.map rowT).length + Lb.length < 100000) := ⟨by have h := HL.out; rw [List.length_append] at h ⊢; rw [List.length_map]; omega⟩
              clear ha hb hcs i1 i2 hp hp1 hq1 hq2
              go_wp2_with (go_at_call 28; (refine (utf_Length.calls 3 lo _ _ HLEN.out).mono ?_); rintro e w3 ⟨rfl, ⟨nd, rfl⟩⟩)
              refine start_ (n := 7) (S := fun w' => True) (ds := []) #[false, false, false, false, false, false, false] (by kernel_rfl) rfl rfl trivial (fun hHeld => ?_)
              refine pure_ (i := 0) (N := some 17) (v := ?_) (a' := ?_) #[true, false, false, false, false, false, false] rfl rfl (by kernel_rfl) (fun _ _ _ h => h) (Or.inl ⟨by rfl, ?_⟩) ?_ ?_
              rotate_left
              · intro w'
                go_simp
                with_reducible rfl
              rotate_left
              · simp only [Act.put, List.setIfInBounds_toArray, List.set_cons_zero, List.set_cons_succ, i64_w, i32_w]
                rfl
              refine pure_ (i := 1) (N := some 18) (v := ?_) (a' := ?_) #[true, true, false, false, false, false, false] rfl rfl (by kernel_rfl) (fun _ _ _ h => h) (Or.inl ⟨by rfl, ?_⟩) ?_ ?_
              rotate_left
              · intro w'
                go_simp
                with_reducible rfl
              rotate_left
              · simp only [Act.put, List.setIfInBounds_toArray, List.set_cons_zero, List.set_cons_succ, i64_w, i32_w]
                rfl
              refine pure_ (i := 2) (N := some 19) (v := ?_) (a' := ?_) #[true, true, true, false, false, false, false] rfl rfl (by kernel_rfl) (fun _ _ _ h => h) (Or.inl ⟨by rfl, ?_⟩) ?_ ?_
              rotate_left
              · intro w'
                go_simp
                with_reducible rfl
              rotate_left
              · simp only [Act.put, List.setIfInBounds_toArray, List.set_cons_zero, List.set_cons_succ, i64_w, i32_w]
                rfl
              refine pure_ (i := 3) (N := some 20) (v := ?_) (a' := ?_) #[true, true, true, true, false, false, false] rfl rfl (by kernel_rfl) (fun _ _ _ h => h) (Or.inl ⟨by rfl, ?_⟩) ?_ ?_
              rotate_left
              · intro w'
                go_simp
                with_reducible rfl
              rotate_left
              · simp only [Act.put, List.setIfInBounds_toArray, List.set_cons_zero, List.set_cons_succ, i64_w, i32_w]
                rfl
              refine pure_ (i := 4) (N := some 21) (v := ?_) (a' := ?_) #[true, true, true, true, true, false, false] rfl rfl (by kernel_rfl) (fun _ _ _ h => h) (Or.inl ⟨by rfl, ?_⟩) ?_ ?_
              rotate_left
              · intro w'
                go_simp
                with_reducible rfl
              rotate_left
              · simp only [Act.put, List.setIfInBounds_toArray, List.set_cons_zero, List.set_cons_succ, i64_w, i32_w]
                rfl
              refine pure_ (i := 5) (N := some 22) (v := ?_) (a' := ?_) #[true, true, true, true, true, true, false] rfl rfl (by kernel_rfl) (fun _ _ _ h => h) (Or.inl ⟨by rfl, ?_⟩) ?_ ?_
              rotate_left
              · intro w'
                go_simp
                with_reducible rfl
              rotate_left
              · simp only [Act.put, List.setIfInBounds_toArray, List.set_cons_zero, List.set_cons_succ, i64_w, i32_w]
                rfl
              refine pure_ (i := 6) (N := some 23) (v := ?_) (a' := ?_) #[true, true, true, true, true, true, true] rfl rfl (by kernel_rfl) (fun _ _ _ h => h) (Or.inl ⟨by rfl, ?_⟩) ?_ ?_
              rotate_left
              · intro w'
                go_simp
                with_reducible rfl
              rotate_left
              · simp only [Act.put, List.setIfInBounds_toArray, List.set_cons_zero, List.set_cons_succ, i64_w, i32_w]
                rfl
              refine done_ (by kernel_rfl) ?_
              go_wp2_with (first | (go_at_call 17; (refine (ih p hi Lb v1 (rs ++ La.map rowT) _ HPB.out HCB.out H1.out HLB.out).mono ?_); rintro e w5 ⟨rfl, hres⟩; have HRES := Aside0.mk hres; clear hres) | (go_at_call 17; (refine (ih lo p1 La v rs _ HPA.out HCA.out (HR.out.under (by first | exact HB.out | exact pw_below_drewN HB.out _ | exact below_drew1 (pw_below_drewN HB.out _) | exact below_drew1 HB.out)) HLA.out).mono ?_); rintro e w4 ⟨rfl, v1, h1, k1, o1⟩; have H1 := Aside0.mk h1; have K1 := Aside0.mk (Kept.then_ (Kept.of_below (show Below W.heap.size W _ from (by first | exact HB.out | exact pw_below_drewN HB.out _ | exact below_drew1 (pw_below_drewN HB.out _) | exact below_drew1 HB.out)) (fun k => k = g ∨ some k = v.ownBlock)) k1 (fun k hk => .inl hk)); have O1 := Aside0.mk (fun k q => (o1 k q).imp id (fun z => Nat.le_trans (Below.size (show Below W.heap.size W _ from (by first | exact HB.out | exact pw_below_drewN HB.out _ | exact below_drew1 (pw_below_drewN HB.out _) | exact below_drew1 HB.out))) z)); clear h1 k1 o1))
              (try simp only [Exit.inBlock, Exit.then])
              refine bodyPost_ret (results_none rfl _ _ _) rfl ?_
              refine ⟨rfl, ?_⟩
              rw [List.map_append, ← List.append_assoc]
              exact RRes.of K1.out O1.out HRES.out
        · have hn : ¬ (n : Int) > 1 := by have h := HC.out; unfold Cls at h; omega
          have hn' : decide ((n : Int) > 1) = false := decide_eq_false hn
          have hcn : cut lo hi = none := by rw [HCUT.out]; rw [cutM, if_neg (fun h => c2 h.2)]
          have hL : some [(⟨lo, hi⟩ : S35)] = some L := by have h := HP.out; rw [parts, hcn] at h; exact h
          obtain rfl := Option.some.inj hL
          clear hL
          clear hcn
          go_wp2_with (first | (go_at_call 18; (refine (put_calls w0 g v rs A2 c2_ (rowOf lo hi) _ HR4.out HW4.out (by have := HL.out; omega)).mono ?_); rintro e w5 ⟨rfl, hres⟩; have HRES := Aside0.mk hres; clear hres) | (go_at_call 29; (refine (byteseq_row.calls 20 lo hi (rowOf lo hi) _ HROW.out).mono ?_); rintro e w4 ⟨v0, rfl, hr, hb⟩; obtain ⟨A2, c2_, rfl, _, _⟩ := Kd.R_reads hr; have HB4 := Aside0.mk (below_then (show Below W.heap.size W _ from (by first | exact HB.out | exact pw_below_drewN HB.out _ | exact below_drew1 (pw_below_drewN HB.out _) | exact below_drew1 HB.out)) (Below.size (show Below W.heap.size W _ from (by first | exact HB.out | exact pw_below_drewN HB.out _ | exact below_drew1 (pw_below_drewN HB.out _) | exact below_drew1 HB.out))) hb); have HR4 := Aside0.mk (HR.out.under HB4.out); have HW4 := Aside0.mk (Kd.R_lower hr (Nat.le_trans HR.out.below.size (Below.size (show Below W.heap.size W _ from (by first | exact HB.out | exact pw_below_drewN HB.out _ | exact below_drew1 (pw_below_drewN HB.out _) | exact below_drew1 HB.out))))); clear hr hb) | (go_at_call 28; (refine (utf_Length.calls 3 lo _ _ HLEN.out).mono ?_); rintro e w3 ⟨rfl, ⟨nd, rfl⟩⟩))
          go_end0
          exact ⟨rfl, RRes.since HB4.out HRES.out⟩
      · have c1' : decide ((262144 : Int) ≤ hi) = false := decide_eq_false c1
        have hcn : cut lo hi = none := by rw [HCUT.out]; rw [cutM, if_neg (fun h => c1 h.1)]
        have hL : some [(⟨lo, hi⟩ : S35)] = some L := by have h := HP.out; rw [parts, hcn] at h; exact h
        obtain rfl := Option.some.inj hL
        clear hL
        clear hcn
        go_wp2_with (first | (go_at_call 18; (refine (put_calls w0 g v rs A2 c2_ (rowOf lo hi) _ HR4.out HW4.out (by have := HL.out; omega)).mono ?_); rintro e w5 ⟨rfl, hres⟩; have HRES := Aside0.mk hres; clear hres) | (go_at_call 29; (refine (byteseq_row.calls 20 lo hi (rowOf lo hi) _ HROW.out).mono ?_); rintro e w4 ⟨v0, rfl, hr, hb⟩; obtain ⟨A2, c2_, rfl, _, _⟩ := Kd.R_reads hr; have HB4 := Aside0.mk (below_then (show Below W.heap.size W _ from (by first | exact HB.out | exact pw_below_drewN HB.out _ | exact below_drew1 (pw_below_drewN HB.out _) | exact below_drew1 HB.out)) (Below.size (show Below W.heap.size W _ from (by first | exact HB.out | exact pw_below_drewN HB.out _ | exact below_drew1 (pw_below_drewN HB.out _) | exact below_drew1 HB.out))) hb); have HR4 := Aside0.mk (HR.out.under HB4.out); have HW4 := Aside0.mk (Kd.R_lower hr (Nat.le_trans HR.out.below.size (Below.size (show Below W.heap.size W _ from (by first | exact HB.out | exact pw_below_drewN HB.out _ | exact below_drew1 (pw_below_drewN HB.out _) | exact below_drew1 HB.out))))); clear hr hb) | (go_at_call 28; (refine (utf_Length.calls 3 lo _ _ HLEN.out).mono ?_); rintro e w3 ⟨rfl, ⟨nd, rfl⟩⟩))
        go_end0
        exact ⟨rfl, RRes.since HB4.out HRES.out⟩
    · have c1 : ¬ (16777216 : Int) ≤ hi := by have := HLH.out; omega
      have c1' : decide ((16777216 : Int) ≤ hi) = false := decide_eq_false c1
      have hcn : cut lo hi = none := by rw [HCUT.out]; rw [cutM, if_neg (fun h => c1 h.1)]
      have hL : some [(⟨lo, hi⟩ : S35)] = some L := by have h := HP.out; rw [parts, hcn] at h; exact h
      obtain rfl := Option.some.inj hL
      clear hL
      clear hcn
      go_wp2_with (first | (go_at_call 18; (refine (put_calls w0 g v rs A2 c2_ (rowOf lo hi) _ HR4.out HW4.out (by have := HL.out; omega)).mono ?_); rintro e w5 ⟨rfl, hres⟩; have HRES := Aside0.mk hres; clear hres) | (go_at_call 29; (refine (byteseq_row.calls 20 lo hi (rowOf lo hi) _ HROW.out).mono ?_); rintro e w4 ⟨v0, rfl, hr, hb⟩; obtain ⟨A2, c2_, rfl, _, _⟩ := Kd.R_reads hr; have HB4 := Aside0.mk (below_then (show Below W.heap.size W _ from (by first | exact HB.out | exact pw_below_drewN HB.out _ | exact below_drew1 (pw_below_drewN HB.out _) | exact below_drew1 HB.out)) (Below.size (show Below W.heap.size W _ from (by first | exact HB.out | exact pw_below_drewN HB.out _ | exact below_drew1 (pw_below_drewN HB.out _) | exact below_drew1 HB.out))) hb); have HR4 := Aside0.mk (HR.out.under HB4.out); have HW4 := Aside0.mk (Kd.R_lower hr (Nat.le_trans HR.out.below.size (Below.size (show Below W.heap.size W _ from (by first | exact HB.out | exact pw_below_drewN HB.out _ | exact below_drew1 (pw_below_drewN HB.out _) | exact below_drew1 HB.out))))); clear hr hb) | (go_at_call 28; (refine (utf_Length.calls 3 lo _ _ HLEN.out).mono ?_); rintro e w3 ⟨rfl, ⟨nd, rfl⟩⟩))
      go_end0
      exact ⟨rfl, RRes.since HB4.out HRES.out⟩
end Go.Proofs.YtedoopnjhpbjfaaDoor.HandPart
