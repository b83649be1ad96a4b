/- An expression is printed: regprint.Print. Conditions: the tree lies there; the walk is within the rounds. -/
import Derived.Test.YtlihkebmonfefaaDoorPGx0
import Derived.Test.YtlihkebmonfefaaDoorPGx3
import Derived.Test.YtlihkebmonfefaaDoorPGx4
import Derived.Test.YtlihkebmonfefaaDoorPGx5
import Derived.Test.YtlihkebmonfefaaDoorPGx7
import Derived.Test.YtlihkebmonfefaaDoorPGx15
import Derived.Test.YtlihkebmonfefaaDoorHandNode
import Derived.Laws.EntriesVeiled
set_option linter.unusedSimpArgs false
set_option linter.unusedVariables false
namespace Go.Proofs.YtlihkebmonfefaaDoor.HandPrint
open Go.RowKit Go.Proofs.YtlihkebmonfefaaDoorW.PrintWords Go.Proofs.YtlihkebmonfefaaDoorW.PrintLast Go.Proofs.YtlihkebmonfefaaDoorW.PrintMore Go.Proofs.YtlihkebmonfefaaDoor.PG Go.Proofs.YtlihkebmonfefaaDoor.HandRight Go.Proofs.YtlihkebmonfefaaDoor.HandGo Go.Proofs.YtlihkebmonfefaaDoor.HandPut Go.Proofs.YtlihkebmonfefaaDoor.HandSet Go.Proofs.YtlihkebmonfefaaDoor.HandWithin Go.Proofs.YtlihkebmonfefaaDoor.HandNode
def setF (k : Nat) (l : List S60) : Option ByteArray := (escape_One.f k l).bind fun x => if x.2 = true ∧ x.1 < 128 then (if 0 ≤ x.1 then (escape_Plain.f x.1).bind fun p => if p = true then some (strOfNums [x.1]) else bracket_Text.f k l else none) else bracket_Text.f k l
theorem setF_T {k : Nat} {l : List S60} {t : ByteArray} (h : setF k l = some t) : SetT k l t := by
 unfold setF at h
 obtain ⟨⟨x, is⟩, h1, h⟩ := Option.bind_eq_some_iff.mp h
 refine ⟨x, is, h1, ?_⟩
 by_cases c : is = true ∧ x < 128
 ·rw [if_pos c] at h
  by_cases c0 : 0 ≤ x
  ·rw [if_pos c0] at h
   obtain ⟨p, hp, h⟩ := Option.bind_eq_some_iff.mp h
   cases p with
   | true => rw [if_pos rfl] at h; exact .inl ⟨c.1, c0, c.2, hp, (Option.some.inj h).symm⟩
   | false => rw [if_neg (by decide)] at h; exact .inr ⟨.inr (.inr ⟨c0, c.2, hp⟩), h⟩
  ·rw [if_neg c0] at h; cases h
 ·rw [if_neg c] at h
  refine .inr ⟨?_, h⟩
  cases is with
  | false => exact .inl rfl
  | true => exact .inr (.inl (by have : ¬ x < 128 := fun h => c ⟨rfl, h⟩; omega))
theorem setF.mono (k : Nat) (l : List S60) : LeO (setF k l) (setF (k + 1) l) := by
 unfold setF
 refine LeO.bind (escape_One.mono _ _) fun x => LeO.ite (LeO.ite (LeO.bind (LeO.refl _) fun p => LeO.ite (LeO.refl _) (bracket_Text.mono _ _)) (LeO.none _)) (bracket_Text.mono _ _)
def txN (k : Nat) (l : List S48) (s : List (List S60)) : Nat → Int → Option (List Int)
 | 0, _ => none
 | d + 1, i => let n := rd_T48 l i
  if n.f0 = 2 then (setF k (rd_L4 s n.f5)).bind fun t => if t.size ≤ 140737488351232 then some (bytesOf t) else none
  else if n.f0 = 3 then (txN k l s d n.f1).bind fun a => (txN k l s d n.f2).bind fun b => some (par ([4].any (fun k => (rd_T48 l n.f1).f0 == k)) a ++ par ([4, 3].any (fun k => (rd_T48 l n.f2).f0 == k)) b)
  else if n.f0 = 4 then (txN k l s d n.f1).bind fun a => (txN k l s d n.f2).bind fun b => some (a ++ ([124] ++ par ([4].any (fun k => (rd_T48 l n.f2).f0 == k)) b))
  else if n.f0 = 5 then (txN k l s d n.f1).bind fun a => (regprint_often.f k n.f3 n.f4).bind fun o => if o.size ≤ 140737488351232 then some (par ([4, 3, 5].any (fun k => (rd_T48 l n.f1).f0 == k)) a ++ bytesOf o) else none
  else some [40, 41]
theorem txN_mono (l : List S48) (s : List (List S60)) (k : Nat) : ∀ d i, LeO (txN k l s d i) (txN (k + 1) l s d i) := by
 intro d
 induction d with
 | zero => intro i; exact LeO.none _
 | succ d ih =>
  intro i
  unfold txN
  exact LeO.ite (LeO.bind (setF.mono _ _) fun t => LeO.refl _) (LeO.ite (LeO.bind (ih _) fun a => LeO.bind (ih _) fun b => LeO.refl _) (LeO.ite (LeO.bind (ih _) fun a => LeO.bind (ih _) fun b => LeO.refl _) (LeO.ite (LeO.bind (ih _) fun a => LeO.bind (regprint_often.mono _ _ _) fun b => LeO.refl _) (LeO.refl _))))
theorem txN_deep (l : List S48) (s : List (List S60)) (k : Nat) : ∀ d i, LeO (txN k l s d i) (txN k l s (d + 1) i) := by
 intro d
 induction d with
 | zero => intro i; exact LeO.none _
 | succ d ih =>
  intro i
  rw [txN, txN]
  exact LeO.ite (LeO.refl _) (LeO.ite (LeO.bind (ih _) fun a => LeO.bind (ih _) fun b => LeO.refl _) (LeO.ite (LeO.bind (ih _) fun a => LeO.bind (ih _) fun b => LeO.refl _) (LeO.ite (LeO.bind (ih _) fun a => LeO.refl _) (LeO.refl _))))
def okT (k : Nat) (l : List S48) (s : List (List S60)) : Bool := (List.range l.length).all fun i => rightN (rd_T48 l (i : Int)) (i : Int) (s.length : Int) && (txN k l s l.length (i : Int)).isSome
theorem okT_at {k : Nat} {l : List S48} {s : List (List S60)} (h : okT k l s = true) (i : Int) (h0 : 0 ≤ i) (h1 : i < (l.length : Int)) : rightN (rd_T48 l i) i (s.length : Int) = true ∧ ∃ t, txN k l s l.length i = some t := by
 unfold okT at h
 rw [List.all_eq_true] at h
 have e := h i.toNat (List.mem_range.2 (by omega))
 rw [show ((i.toNat : Nat) : Int) = i by omega, Bool.and_eq_true] at e
 exact ⟨e.1, Option.isSome_iff_exists.1 e.2⟩
theorem okT_mono {k : Nat} {l : List S48} {s : List (List S60)} (h : okT k l s = true) : okT (k + 1) l s = true := by
 unfold okT at h ⊢
 rw [List.all_eq_true] at h ⊢
 intro i hi
 have e := h i hi
 rw [Bool.and_eq_true] at e ⊢
 obtain ⟨t, ht⟩ := Option.isSome_iff_exists.1 e.2
 exact ⟨e.1, by rw [txN_mono l s k _ _ _ ht]; rfl⟩
def T (k : Nat) (l : List S48) (s : List (List S60)) (i : Int) : List Int := (txN k l s l.length i).getD []
theorem T_mono {k : Nat} {l : List S48} {s : List (List S60)} (h : okT k l s = true) (i : Int) (h0 : 0 ≤ i) (h1 : i < (l.length : Int)) : T (k + 1) l s i = T k l s i := by
 obtain ⟨_, t, ht⟩ := okT_at h i h0 h1
 unfold T
 rw [txN_mono l s k _ _ _ ht, ht]
theorem T_ok (V : Pv) (k : Nat) (h : okT k V.la V.sa = true) : TxOk V (T k V.la V.sa) := by
 have sub : ∀ d i a, txN k V.la V.sa d i = some a → d + 1 = V.la.length → T k V.la V.sa i = a := by
  intro d i a ha hd
  unfold T
  rw [← hd, txN_deep _ _ _ d i a ha]; rfl
 have key : ∀ i : Int, 0 ≤ i → i < (V.la.length : Int) → ∃ d t, d + 1 = V.la.length ∧ txN k V.la V.sa (d + 1) i = some t ∧ T k V.la V.sa i = t := by
  intro i h0 h1
  obtain ⟨_, t, ht⟩ := okT_at h i h0 h1
  refine ⟨V.la.length - 1, t, by omega, by rw [show V.la.length - 1 + 1 = V.la.length by omega]; exact ht, by unfold T; rw [ht]; rfl⟩
 refine ⟨?_, ?_, ?_, ?_, ?_⟩
 ·intro i h0 h1 c
  obtain ⟨d, t, hd, ht, e⟩ := key i h0 h1
  rw [txN] at ht
  rw [if_neg (by omega), if_neg (by omega), if_neg (by omega), if_neg (by omega)] at ht
  rw [e, ← Option.some.inj ht]
 ·intro i h0 h1 c
  obtain ⟨d, t, hd, ht, e⟩ := key i h0 h1
  rw [txN] at ht
  rw [if_pos c] at ht
  obtain ⟨b, hb, ht⟩ := Option.bind_eq_some_iff.mp ht
  by_cases hs : b.size ≤ 140737488351232
  ·rw [if_pos hs] at ht
   exact ⟨k, b, setF_T hb, hs, by rw [e, ← Option.some.inj ht]⟩
  ·rw [if_neg hs] at ht; cases ht
 ·intro i h0 h1 c
  obtain ⟨d, t, hd, ht, e⟩ := key i h0 h1
  rw [txN] at ht
  rw [if_neg (by omega), if_pos c] at ht
  obtain ⟨a, ha, ht⟩ := Option.bind_eq_some_iff.mp ht
  obtain ⟨b, hb, ht⟩ := Option.bind_eq_some_iff.mp ht
  rw [e, ← Option.some.inj ht, sub d _ a ha hd, sub d _ b hb hd]
 ·intro i h0 h1 c
  obtain ⟨d, t, hd, ht, e⟩ := key i h0 h1
  rw [txN] at ht
  rw [if_neg (by omega), if_neg (by omega), if_pos c] at ht
  obtain ⟨a, ha, ht⟩ := Option.bind_eq_some_iff.mp ht
  obtain ⟨b, hb, ht⟩ := Option.bind_eq_some_iff.mp ht
  rw [e, ← Option.some.inj ht, sub d _ a ha hd, sub d _ b hb hd]
 ·intro i h0 h1 c
  obtain ⟨d, t, hd, ht, e⟩ := key i h0 h1
  rw [txN] at ht
  rw [if_neg (by omega), if_neg (by omega), if_neg (by omega), if_pos c] at ht
  obtain ⟨a, ha, ht⟩ := Option.bind_eq_some_iff.mp ht
  obtain ⟨o, ho, ht⟩ := Option.bind_eq_some_iff.mp ht
  by_cases hs : o.size ≤ 140737488351232
  ·rw [if_pos hs] at ht
   exact ⟨k, o, ho, hs, by rw [e, ← Option.some.inj ht, sub d _ a ha hd]⟩
  ·rw [if_neg hs] at ht; cases ht
def regprint_Print.f (k : Nat) (l : List S48) (s : List (List S60)) (r : Int) : Option (ByteArray × Int) :=
 (arena_Check.f k l s r).bind fun e => if e = 0 then (if okT k l s = true ∧ 0 ≤ r ∧ r < (l.length : Int) then (if (T k l s r).length ≤ 4096 then some (strOfNums (T k l s r), 0) else some (⟨#[]⟩, 6)) else none) else some (⟨#[]⟩, e)
theorem regprint_Print.mono : ∀ a0 a1 a2 k, LeO (regprint_Print.f k a0 a1 a2) (regprint_Print.f (k + 1) a0 a1 a2) := by
 intro l s r k
 unfold regprint_Print.f
 refine LeO.bind (arena_Check.mono _ _ _ _) fun e => LeO.ite ?_ (LeO.refl _)
 intro x hx
 by_cases c : okT k l s = true ∧ 0 ≤ r ∧ r < (l.length : Int)
 ·rw [if_pos c] at hx
  rw [if_pos ⟨okT_mono c.1, c.2⟩, T_mono c.1 r c.2.1 c.2.2]
  exact hx
 ·rw [if_neg c] at hx; cases hx
set_option maxRecDepth 100000 in
set_option maxHeartbeats 2000000 in
theorem regprint_Print.calls (k : Nat) (A0_0 : Option Addr) (c0_0 : Nat) (l0_0 : List (S48)) (A0_1 : Option Addr) (c0_1 : Nat) (l0_1 : List (List (S60))) (a0_2 : Int) (r1 : ByteArray) (r2 : Int) (w : World) (hr0_0 : Kd.C k48 w A0_0 l0_0.length l0_0) (hc0_0 : l0_0.length ≤ c0_0) (hr0_1 : Kd.C (Kd.slice 60 k60) w A0_1 l0_1.length l0_1) (hc0_1 : l0_1.length ≤ c0_1) (hrG0 : Kd.C (Kd.int .u8) w (some ⟨0, 0, none⟩) tab_digit_signs.length tab_digit_signs) (h : regprint_Print.f k l0_0 l0_1 a0_2 = some (r1, r2)) :
  Calls Tryd.prog 6 #[.agg #[.slice A0_0 l0_0.length c0_0, .slice A0_1 l0_1.length c0_1, .int .i64 a0_2]] w fun e w' => e = .returned (.tuple #[.string r1, .int .i64 r2]) ∧ Below w.heap.size w w' := by
 unfold regprint_Print.f at h
 obtain ⟨x, hx, h⟩ := Option.bind_eq_some_iff.mp h
 have hu25 := Tryd.underlying25
 have hbx := blk_new w (.cells #[.slice A0_0 l0_0.length c0_0, .slice A0_1 l0_1.length c0_1, .int .i64 a0_2] 25 (0, 0))
 have hB1 : Below w.heap.size w (w.alloc (.cells #[.slice A0_0 l0_0.length c0_0, .slice A0_1 l0_1.length c0_1, .int .i64 a0_2] 25 (0, 0))) := below_alloc (Below.refl _ w) _
 have b0 : (w.alloc (.cells #[.slice A0_0 l0_0.length c0_0, .slice A0_1 l0_1.length c0_1, .int .i64 a0_2] 25 (0, 0))).cell? ⟨w.heap.size, 0, none⟩ = some (.slice A0_0 l0_0.length c0_0) := (blk_cell hbx 0).trans rfl
 have b1 : (w.alloc (.cells #[.slice A0_0 l0_0.length c0_0, .slice A0_1 l0_1.length c0_1, .int .i64 a0_2] 25 (0, 0))).cell? ⟨w.heap.size, 1, none⟩ = some (.slice A0_1 l0_1.length c0_1) := (blk_cell hbx 1).trans rfl
 have b2 : (w.alloc (.cells #[.slice A0_0 l0_0.length c0_0, .slice A0_1 l0_1.length c0_1, .int .i64 a0_2] 25 (0, 0))).cell? ⟨w.heap.size, 2, none⟩ = some (.int .i64 a0_2) := (blk_cell hbx 2).trans rfl
 have HBX := Aside0.mk hbx
 have HB1 := Aside0.mk hB1
 have HX := Aside0.mk hx
 have HR0 := Aside0.mk hr0_0
 have HC0 := Aside0.mk hc0_0
 have HR1 := Aside0.mk hr0_1
 have HC1 := Aside0.mk hc0_1
 have HG := Aside0.mk hrG0
 clear hbx hB1 hx hr0_0 hc0_0 hr0_1 hc0_1 hrG0
 by_cases c0 : x = 0
 ·subst c0
  rw [if_pos rfl] at h
  by_cases c1 : okT k l0_0 l0_1 = true ∧ 0 ≤ a0_2 ∧ a0_2 < (l0_0.length : Int)
  ·rw [if_pos c1] at h
   have H := Aside0.mk h
   have HK := Aside0.mk c1
   clear h c1
   go_enter Tryd.func6, Tryd.ntmps6
   go_wp2_with (go_at_call 14; (with_reducible refine (arena_Check.calls k A0_0 c0_0 l0_0 A0_1 c0_1 l0_1 a0_2 0 _ ?s1 HC0.out ?s2 HC1.out HX.out).mono ?_); (case s1 => exact Kd.C_below HR0.out HB1.out); (case s2 => exact Kd.C_below HR1.out HB1.out); rintro e w1 ⟨rfl, hb⟩; have hbx1 := blk_below HBX.out hb; have d0 : w1.cell? ⟨w.heap.size, 0, none⟩ = some (.slice A0_0 l0_0.length c0_0) := (blk_cell hbx1 0).trans rfl; have d1 : w1.cell? ⟨w.heap.size, 1, none⟩ = some (.slice A0_1 l0_1.length c0_1) := (blk_cell hbx1 1).trans rfl; have d2 : w1.cell? ⟨w.heap.size, 2, none⟩ = some (.int .i64 a0_2) := (blk_cell hbx1 2).trans rfl; have d2' := cell_al d2 (.cells #[.slice A0_0 l0_0.length c0_0, .slice A0_1 l0_1.length c0_1, .int .i64 a0_2, .slice none 0 0, .bool false, .func (.func 15) #[.pointer (some ⟨w1.heap.size, 0, none⟩)] #[]] 41 (0, 0)); have HBX1 := Aside0.mk hbx1; have HB2 := Aside0.mk (below_then HB1.out HB1.out.size hb); clear hb hbx1 HBX HB1)
   obtain ⟨V, hVe⟩ : ∃ V : Pv, V = ⟨w, w1.heap.size, A0_0, c0_0, l0_0, A0_1, c0_1, l0_1, a0_2⟩ := ⟨_, rfl⟩
   have hbo := blk_new w1 (.cells #[.slice A0_0 l0_0.length c0_0, .slice A0_1 l0_1.length c0_1, .int .i64 a0_2, .slice none 0 0, .bool false, .func (.func 15) #[.pointer (some ⟨w1.heap.size, 0, none⟩)] #[]] 41 (0, 0))
   have hB4 : Below w.heap.size w (w1.alloc (.cells #[.slice A0_0 l0_0.length c0_0, .slice A0_1 l0_1.length c0_1, .int .i64 a0_2, .slice none 0 0, .bool false, .func (.func 15) #[.pointer (some ⟨w1.heap.size, 0, none⟩)] #[]] 41 (0, 0))) := below_then HB2.out HB2.out.size (below_alloc (Below.refl _ w1) _)
   have hP : Pst V (w1.alloc (.cells #[.slice A0_0 l0_0.length c0_0, .slice A0_1 l0_1.length c0_1, .int .i64 a0_2, .slice none 0 0, .bool false, .func (.func 15) #[.pointer (some ⟨w1.heap.size, 0, none⟩)] #[]] 41 (0, 0))) (.slice none 0 0) [] false := by
    subst hVe
    exact ⟨HB2.out.size, hbo, own_nil _ _ _ _, hB4, by decide⟩
   have hOk : Pv.Ok V := by
    subst hVe
    exact ⟨HR0.out, HR1.out, HG.out, fun i i0 i1 => (okT_at HK.out.1 i i0 i1).1⟩
   have hN : NodeC V a0_2 (T k l0_0 l0_1 a0_2) := by
    have hTk : TxOk V (T k l0_0 l0_1) := by subst hVe; exact T_ok _ k HK.out.1
    have hl : a0_2 < (V.la.length : Int) := by subst hVe; exact HK.out.2.2
    exact node_all V hOk _ hTk l0_0.length a0_2 HK.out.2.1 hl HK.out.2.2
   have hN' := hN _ _ _ _ hP
   have hVg : V.g = w1.heap.size := by rw [hVe]
   have hVw : V.w0 = w := by rw [hVe]
   rw [hVg] at hN'
   have HN := Aside0.mk hN'
   have HVG := Aside0.mk hVg
   have HVW := Aside0.mk hVw
   clear hbo hB4 hP hOk hN hN' hVe hVg hVw
   refine HN.out.mono ?_
   rintro e w2 ⟨rfl, v2, o2, f2, ha, hp, hk⟩
   obtain ⟨A2, c2, rfl⟩ := own_slice hp.own
   have hb2 : w2.heap[w1.heap.size]? = some (V.obj (.slice A2 o2.length c2) f2) := by rw [← HVG.out]; exact hp.box
   have e3 : w2.cell? ⟨w1.heap.size, 3, none⟩ = some (.slice A2 o2.length c2) := (blk_cell hb2 3).trans rfl
   have e4 : w2.cell? ⟨w1.heap.size, 4, none⟩ = some (.bool f2) := (blk_cell hb2 4).trans rfl
   have hcv := own_string (P := Tryd.prog) Tryd.underlying38 Tryd.underlying5 Tryd.underlying9 hp.own
   have HF : Aside0 (Below w.heap.size w w2) := ⟨by rw [← HVW.out]; exact hp.below⟩
   have HA := Aside0.mk ha
   clear hp ha hk hb2 HN HVG HVW
   have hout : (if f2 = true then (⟨#[]⟩, 6) else (strOfNums o2, (0 : Int))) = (r1, r2) := by
    have h1 := H.out
    rcases HA.out with ⟨_, a1, rfl, rfl⟩ | ⟨a1, rfl⟩
    ·rw [if_pos (by simpa using a1)] at h1
     rw [if_neg (by decide)]
     simpa using h1
    ·have : ¬ (T k l0_0 l0_1 a0_2).length ≤ 4096 := by
      rcases a1 with a1 | a1
      ·cases a1
      ·simp at a1; omega
     rw [if_neg this] at h1
     rw [if_pos rfl]
     exact Option.some.inj h1
   have HO := Aside0.mk hout
   clear hout HA
   cases f2 with
   | true =>
    have h6 := HO.out
    rw [if_pos rfl] at h6
    obtain ⟨rfl, rfl⟩ := Prod.mk.inj h6
    clear h6 HO H
    go_wp2_with fail
    go_ret2
    exact ⟨rfl, HF.out⟩
   | false =>
    have h6 := HO.out
    rw [if_neg (by decide)] at h6
    obtain ⟨rfl, rfl⟩ := Prod.mk.inj h6
    clear h6 HO H
    go_wp2_with fail
    go_ret2
    exact ⟨rfl, HF.out⟩
  ·rw [if_neg c1] at h; cases h
 ·rw [if_neg c0] at h
  obtain ⟨rfl, rfl⟩ := Prod.mk.inj (Option.some.inj h)
  have hne : (x != 0) = true := by simp [c0]
  have hne' : decide (x = 0) = false := by simp [c0]
  have HNE := Aside0.mk c0
  clear c0 h
  go_enter Tryd.func6, Tryd.ntmps6
  go_wp2_with (go_at_call 14; (with_reducible refine (arena_Check.calls k A0_0 c0_0 l0_0 A0_1 c0_1 l0_1 a0_2 x _ ?s1 HC0.out ?s2 HC1.out HX.out).mono ?_); (case s1 => exact Kd.C_below HR0.out HB1.out); (case s2 => exact Kd.C_below HR1.out HB1.out); rintro e w1 ⟨rfl, hb⟩; have HB2 := Aside0.mk (below_then HB1.out HB1.out.size hb); clear hb)
  go_ret2
  exact ⟨rfl, HB2.out⟩
end Go.Proofs.YtlihkebmonfefaaDoor.HandPrint
