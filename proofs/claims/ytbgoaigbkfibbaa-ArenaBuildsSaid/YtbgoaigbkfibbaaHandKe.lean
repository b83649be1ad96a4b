/- ArenaBuilds: kinds of acts. No condition beyond the state. -/
import Derived.Test.YtbgoaigbkfibbaaHandSt
import Derived.Test.YtbgoaigbkfibbaaHandAlive
import Derived.Test.YtbgoaigbkfibbaaPfG
import Derived.Test.YtbgoaigbkfibbaaHandLi
import Derived.Test.YtbgoaigbkfibbaaPAx12
import Derived.Test.YtbgoaigbkfibbaaPAx13
import Derived.Test.YtbgoaigbkfibbaaPAx15
import Derived.Test.YtbgoaigbkfibbaaPAx0
import Derived.Test.YtbgoaigbkfibbaaPAx3
set_option linter.unusedSimpArgs false
set_option linter.unusedVariables false
namespace Go.Proofs.Ytbgoaigbkfibbaa.HandKe
open Go.RowKit Go.Proofs.YtbgoaigbkfibbaaW.PrintWords Go.Proofs.YtbgoaigbkfibbaaW.PrintLast Go.Proofs.YtbgoaigbkfibbaaW.PrintMore Go.Proofs.Ytbgoaigbkfibbaa.PA Go.Proofs.Ytbgoaigbkfibbaa.HandRight Go.Proofs.Ytbgoaigbkfibbaa.HandBl Go.Proofs.Ytbgoaigbkfibbaa.HandBm Go.Proofs.Ytbgoaigbkfibbaa.HandBo Go.Proofs.Ytbgoaigbkfibbaa.HandGraft Go.Proofs.Ytbgoaigbkfibbaa.HandGraftN Go.Proofs.Ytbgoaigbkfibbaa.HandWant Go.Proofs.Ytbgoaigbkfibbaa.HandSt Go.Proofs.Ytbgoaigbkfibbaa.HandAlive Go.Proofs.Ytbgoaigbkfibbaa.PfT Go.Proofs.Ytbgoaigbkfibbaa.PfF Go.Proofs.Ytbgoaigbkfibbaa.PfC Go.Proofs.Ytbgoaigbkfibbaa.PfG Go.Proofs.Ytbgoaigbkfibbaa.Sets Go.Proofs.Ytbgoaigbkfibbaa.HandEnd Go.Proofs.Ytbgoaigbkfibbaa.HandTree
open Go.Proofs.Ytbgoaigbkfibbaa.HandSame (cells25 two_boxes arena_Same.f arena_Same.calls)
open Go.Proofs.Ytbgoaigbkfibbaa.HandAt (N41 Z41 n_cells new_cells new_frozen)
open Go.Proofs.Ytbgoaigbkfibbaa.HandLi
attribute [local go_sem high] eqA41
set_option maxRecDepth 100000 in
set_option maxHeartbeats 8000000 in
theorem kind_5 (W : World) (l : List S39) (c : Nat) (ad : Addr) (root : Int) (j : Nat) (x : Int) (ns : List S41) (ss : List (List S55)) (u v wn ws : Value) (r : Int) (WA : Option Addr) (wc b8 : Nat) (w5 : World) (a0 a1 a2 a3 : Int) (A4 : Option Addr) (c4 : Nat) (L : List S55) (A5 : Option Addr) (c5 : Nat) (la : List S41) (A6 : Option Addr) (c6 : Nat) (sa : List (List S55)) (ra : Int) (bx by_ : Bool) (x2 x3 x4 x7 x12 x13 x14 x15 x16 x17 x18 x19 x20 x21 x22 x23 x24 x25 x26 x27 x28 x29 x30 x31 x32 x33 x34 x35 x36 x37 x38 x39 x40 x41 x42 x43 x44 x45 x46 x47 x48 x49 x50 x51 x52 x53 x54 x55 x56 x57 x58 x59 x60 x61 x62 x63 x64 x65 x66 x67 x68 x69 x70 x71 x72 x73 x74 x75 x76 x77 x78 x79 x80 x81 x82 x83 x84 x85 x86 x87 x88 x89 x90 x91 x92 x93 x94 x95 x96 x97 x98 x99 x100 x101 x102 x103 x104 x105 x106 x107 x108 x109 x110 x111 x112 x113 x114 x115 x116 x117 x118 x119 x120 x121 x122 x123 x124 x125 x126 x127 x128 x129 x130 x131 x132 x133 x134 x135 x136 x137 x138 x139 x140 x141 x142 x143 x144 x145 x146 x147 x148 x149 x150 x151 x152 x153 x154 x155 x156 x157 x158 x159 x160 x161 x162 x163 x164 x165 x166 x167 x168 x169 x170 x171 x172 x173 x174 x175 x176 x177 x178 x179 x180 x181 x182 x183 x184 x185 x186 x187 x188 x189 x190 x191 x192 x193 x194 x195 x196 x197 x198 x199 x200 x201 x202 x203 x204 x205 x206 x207 x208 x209 x210 x211 x212 x213 x214 x215 x216 x217 x218 x219 x220 x221 x222 x223 x224 x225 x226 x227 x228 x229 x230 x231 x232 x233 x234 x235 x236 x237 x238 x239 x240 x241 x242 x243 x244 x245 x246 x247 x248 x249 x250 x251 x252 x253 x254 x255 x256 x257 x258 x259 x260 x261 x262 x263 x264 x265 x266 x267 x268 x269 x270 x271 x272 x273 x274 x275 x276 x277 x278 x279 x280 x281 x282 x283 x284 x285 x286 x287 x288 x289 x290 x291 x292 x293 x294 x295 x296 x297 x298 x299 x300 x301 x302 x303 x304 x305 x306 : Value) (C : Code) (K1 K2 K3 : Act → World → Prop) (hC : Try.f4.body.bind (pick 12) = some C) (HQ : Aside0 (∀ (y12 y13 y14 y15 y16 y63 y64 y65 y66 y67 y68 y69 y70 y71 y72 y73 y74 y75 y76 y77 y78 y79 y80 y81 y82 y83 y84 y85 y86 y87 y88 y89 y90 y91 y92 y93 y94 y95 y96 y97 y98 y99 y100 y101 y102 y103 y104 y105 y106 y107 y108 y109 y110 y111 y112 y113 y114 y115 y116 y117 y118 y119 y120 y121 y122 y123 y124 y125 y126 y127 y128 y129 y130 y131 y132 y133 y134 y135 y136 y137 y138 y139 y140 y141 y142 y143 y144 y145 y146 y147 y148 y149 y150 y151 y152 y153 y154 y155 y156 y157 y158 y159 y160 y161 y162 y163 y164 y165 y166 y167 y168 y169 y170 y171 y172 y173 y174 y175 y176 y177 y178 y179 y180 y181 y182 y183 y184 y185 y186 y187 y188 y189 y190 y191 y192 y193 y194 y195 y196 y197 y198 y199 y200 y201 y202 y203 y204 : Value) (w' : World), LI W W.heap.size (W.heap.size + 1) (j + 1) w' → K1 ⟨#[.slice (some ad) l.length c, .int .i64 root, x2, x3, x4, .pointer (some ⟨W.heap.size, 0, none⟩), .pointer (some ⟨W.heap.size + 1, 0, none⟩), x7, .pointer (some ⟨b8, 0, none⟩), .int .i64 (ns.length : Int), .bool bx, .bool by_, y12, y13, y14, y15, y16, x17, x18, x19, x20, x21, x22, x23, x24, x25, x26, x27, x28, x29, x30, x31, x32, x33, x34, x35, x36, x37, x38, x39, x40, x41, x42, x43, x44, x45, x46, x47, x48, x49, x50, x51, x52, x53, x54, x55, x56, x57, x58, x59, x60, x61, x62, y63, y64, y65, y66, y67, y68, y69, y70, y71, y72, y73, y74, y75, y76, y77, y78, y79, y80, y81, y82, y83, y84, y85, y86, y87, y88, y89, y90, y91, y92, y93, y94, y95, y96, y97, y98, y99, y100, y101, y102, y103, y104, y105, y106, y107, y108, y109, y110, y111, y112, y113, y114, y115, y116, y117, y118, y119, y120, y121, y122, y123, y124, y125, y126, y127, y128, y129, y130, y131, y132, y133, y134, y135, y136, y137, y138, y139, y140, y141, y142, y143, y144, y145, y146, y147, y148, y149, y150, y151, y152, y153, y154, y155, y156, y157, y158, y159, y160, y161, y162, y163, y164, y165, y166, y167, y168, y169, y170, y171, y172, y173, y174, y175, y176, y177, y178, y179, y180, y181, y182, y183, y184, y185, y186, y187, y188, y189, y190, y191, y192, y193, y194, y195, y196, y197, y198, y199, y200, y201, y202, y203, y204, x205, x206, x207, x208, x209, x210, x211, x212, x213, x214, x215, x216, x217, x218, x219, x220, x221, x222, x223, x224, x225, x226, x227, x228, x229, x230, x231, x232, x233, x234, x235, x236, x237, x238, x239, x240, x241, x242, x243, x244, x245, x246, x247, x248, x249, x250, x251, x252, x253, x254, x255, x256, x257, x258, x259, x260, x261, x262, x263, x264, x265, x266, x267, x268, x269, x270, x271, x272, x273, x274, x275, x276, x277, x278, x279, x280, x281, x282, x283, x284, x285, x286, x287, x288, x289, x290, x291, x292, x293, x294, x295, x296, x297, x298, x299, x300, x301, x302, x303, x304, x305, x306], []⟩ w')) (HL : Aside0 (l.length ≤ 30)) (HXJ : Aside0 (x = (j : Int) ∧ j < l.length)) (HF : Aside0 (Fine ns ss)) (HNS : Aside0 (ns.length ≤ 60 * j ∧ ss.length ≤ 60 * j)) (HLT : Aside0 (ns.length < 4096)) (HEW : Aside0 (wn = .slice WA ns.length wc)) (HAW5 : Aside0 (WAt W.heap.size (W.heap.size + 1) u v wn ws r ns ss w5)) (HB35 : Aside0 (Below W.heap.size W w5)) (HG4 : Aside0 (L.length ≤ c4 ∧ Kd.C k55 W A4 L.length L)) (HG5 : Aside0 (la.length ≤ c5 ∧ Kd.C k41 W A5 la.length la)) (HG6 : Aside0 (sa.length ≤ c6 ∧ Kd.C (Kd.slice 55 k55) W A6 sa.length sa)) (HL20 : Aside0 (L.length ≤ 20)) (HNEAR : Aside0 (Near la sa)) (HST : Aside0 (ST W W.heap.size (W.heap.size + 1) w5.heap.size u v wn ws r ns ss ns ss (.cells #[.int .i64 0, .int .i64 0, .int .i64 0, .int .i64 0, .int .i64 0, .int .i64 0] 41 (0, 0)) (w5.alloc (.cells #[.int .i64 0, .int .i64 0, .int .i64 0, .int .i64 0, .int .i64 0, .int .i64 0] 41 (0, 0))))) (HB86 : Aside0 ((w5.alloc (.cells #[.int .i64 0, .int .i64 0, .int .i64 0, .int .i64 0, .int .i64 0, .int .i64 0] 41 (0, 0))).heap[b8]? = some (.cells #[.int .i64 a0, .int .i64 a1, .int .i64 a2, .int .i64 a3, .slice A4 L.length c4, .slice A5 la.length c5, .slice A6 sa.length c6, .int .i64 ra] 39 (0, 0)))) (hbx : bx = decide (0 ≤ a1 ∧ a1 < (ns.length : Int))) (hby : by_ = decide (0 ≤ a2 ∧ a2 < (ns.length : Int))) (k0 : ¬ a0 = 0) (k1 : ¬ a0 = 1) (k2 : ¬ a0 = 2) (k3 : ¬ a0 = 3) (k4 : ¬ a0 = 4) :
  Code.wp Try.prog C (Exit.inBlock 1 (Exit.then K1 (Exit.then K2 (Exit.inBlock 0 (Exit.then K3 (bodyPost Try.prog Try.f4 fun e W' => e = .returned (.bool true) ∧ Below W.heap.size W W')))))) ⟨#[.slice (some ad) l.length c, .int .i64 root, x2, x3, x4, .pointer (some ⟨W.heap.size, 0, none⟩), .pointer (some ⟨W.heap.size + 1, 0, none⟩), x7, .pointer (some ⟨b8, 0, none⟩), .int .i64 (ns.length : Int), .bool bx, .bool by_, x12, x13, x14, x15, x16, x17, x18, x19, x20, x21, x22, x23, x24, x25, x26, x27, x28, x29, x30, x31, x32, x33, x34, x35, x36, x37, x38, x39, x40, x41, x42, x43, x44, x45, x46, x47, x48, x49, x50, x51, x52, x53, x54, x55, x56, x57, x58, x59, x60, x61, x62, x63, x64, x65, x66, x67, x68, x69, x70, x71, x72, x73, x74, x75, x76, x77, x78, x79, x80, x81, x82, x83, x84, x85, x86, x87, x88, x89, x90, x91, x92, x93, x94, x95, x96, x97, x98, x99, x100, x101, x102, x103, x104, x105, x106, x107, x108, x109, x110, x111, x112, x113, x114, x115, x116, x117, x118, x119, x120, x121, x122, x123, x124, x125, x126, x127, x128, x129, x130, x131, x132, x133, x134, x135, x136, x137, x138, x139, x140, x141, x142, x143, x144, x145, x146, x147, x148, x149, x150, x151, x152, x153, x154, x155, x156, x157, x158, x159, x160, x161, x162, x163, x164, x165, x166, x167, x168, x169, x170, x171, x172, x173, x174, x175, x176, x177, x178, x179, x180, x181, x182, x183, x184, x185, x186, x187, x188, x189, x190, x191, x192, x193, x194, x195, x196, x197, x198, x199, x200, x201, x202, x203, x204, x205, x206, x207, x208, x209, x210, x211, x212, x213, x214, x215, x216, x217, x218, x219, x220, x221, x222, x223, x224, x225, x226, x227, x228, x229, x230, x231, x232, x233, x234, x235, x236, x237, x238, x239, x240, x241, x242, x243, x244, x245, x246, x247, x248, x249, x250, x251, x252, x253, x254, x255, x256, x257, x258, x259, x260, x261, x262, x263, x264, x265, x266, x267, x268, x269, x270, x271, x272, x273, x274, x275, x276, x277, x278, x279, x280, x281, x282, x283, x284, x285, x286, x287, x288, x289, x290, x291, x292, x293, x294, x295, x296, x297, x298, x299, x300, x301, x302, x303, x304, x305, x306], []⟩ w5 := by
 have hC2 := hC.symm
 conv at hC2 => rhs; whnf
 injection hC2 with hC2
 subst hC2
 clear hC
 obtain ⟨q0, q1, q2, q3, q4, q5, q6, q7⟩ := cells39 HB86.out
 have HSTD := Aside0.mk (HST.out.under (below_drew1 (Below.refl _ _)))
 have HB8D : Aside0 ((w5.alloc (.cells #[.int .i64 0, .int .i64 0, .int .i64 0, .int .i64 0, .int .i64 0, .int .i64 0] 41 (0, 0))).drew.heap[b8]? = some (.cells #[.int .i64 a0, .int .i64 a1, .int .i64 a2, .int .i64 a3, .slice A4 L.length c4, .slice A5 la.length c5, .slice A6 sa.length c6, .int .i64 ra] 39 (0, 0))) := ⟨blk_drew HB86.out⟩
 clear hbx hby
 by_cases hgd : good la sa ra
 ·have HGD := Aside0.mk hgd
  have HCK : Aside0 (spoolref10_Check.f 800 la sa ra = some 0) := ⟨by obtain ⟨e, h1, h2, _⟩ := check_tells (root := ra) HNEAR.out; rw [h1, h2 hgd]⟩
  clear hgd
  go_wp2_with fail
  refine start_ (n := 10) (S := fun w' => w'.cell? ⟨b8, 5, none⟩ = some (.slice A5 la.length c5) ∧ w'.cell? ⟨b8, 6, none⟩ = some (.slice A6 sa.length c6) ∧ w'.cell? ⟨b8, 7, none⟩ = some (.int .i64 ra)) (ds := []) #[false, false, false, false, false, false, false, false, false, false] (by kernel_rfl) rfl rfl ⟨q5, q6, q7⟩ (fun hHeld => ?_)
  refine pq_ (i := 0) (n := 66) (bA 10 1) (by kernel_rfl) ?_
  refine pq_ (i := 1) (n := 67) (bA 10 3) (by kernel_rfl) ?_
  refine pq_ (i := 4) (n := 70) (bA 10 19) (by kernel_rfl) ?_
  refine take_ (i := 2) (N := some 68) (v := ?_) (a' := ?_) (bA 10 23) rfl rfl (by kernel_rfl) (fun _ _ _ h => h) (Or.inl ⟨by rfl, ?_⟩) hHeld ?_ ?_
  rotate_left
  ·rintro w' ⟨s0, s1, s2⟩
   go_simp
   with_reducible rfl
  rotate_left
  ·exact nrm_
  refine take_ (i := 5) (N := some 71) (v := ?_) (a' := ?_) (bA 10 55) rfl rfl (by kernel_rfl) (fun _ _ _ h => h) (Or.inl ⟨by rfl, ?_⟩) hHeld ?_ ?_
  rotate_left
  ·rintro w' ⟨s0, s1, s2⟩
   go_simp
   with_reducible rfl
  rotate_left
  ·exact nrm_
  refine one_ (i := 3) (N := some 69) (bA 10 63) rfl rfl (by kernel_rfl) (by decide) (fun K hK => ?_)
  refine goes_ Try.func24 (by kernel_rfl) rfl #[.pointer (some ⟨W.heap.size, 0, none⟩), .agg #[.slice A5 la.length c5, .slice A6 sa.length c6, .int .i64 ra]] (by rfl) rfl rfl (by simp only [List.map_toArray, List.map_cons, List.map_nil]; rfl) ?_
  with_reducible refine (graft_good W W.heap.size u v ns ss A5 c5 la A6 c6 sa ra _ HSTD.out.hB HG5.out.2 HG5.out.1 HG6.out.2 HG6.out.1 HF.out HNEAR.out HGD.out (by have h1 := HNS.out; have h2 := HXJ.out; have h3 := HL.out; omega) (by have h1 := HNS.out; have h2 := HXJ.out; have h3 := HL.out; omega)).mono ?_
  rintro e w6 ⟨rfl, n1, s1, hp, hf⟩
  refine ⟨_, rfl, ?_⟩
  have HPN := Aside0.mk hp; clear hp; obtain ⟨u6, v6, h6, k6⟩ := HSTD.out.call hf
  have H6 := Aside0.mk h6
  have HB88 := Aside0.mk (k6 _ _ _ HB8D.out (by decide) (by decide) (by decide))
  clear h6 k6 hf
  obtain ⟨_, _, _, _, _, p5, p6, p7⟩ := cells39 HB88.out
  refine hK.out _ _ ⟨p5, p6, p7⟩ (fun hHeld => ?_)
  clear hK K
  refine norm_ (a' := ?_) ?_ ?_
  rotate_left
  ·show Act.put _ (some 69) _ = _
   exact nrm_
  refine one_ (i := 6) (N := some 72) (bA 10 127) rfl rfl (by kernel_rfl) (by decide) (fun K hK => ?_)
  refine goes_ Try.func8 (by kernel_rfl) rfl #[.agg #[.slice A5 la.length c5, .slice A6 sa.length c6, .int .i64 ra]] (by rfl) rfl rfl (by simp only [List.map_toArray, List.map_cons, List.map_nil]; rfl) ?_
  with_reducible refine (spoolref10_Check.calls 800 A5 c5 la A6 c6 sa ra 0 _ (Kd.C_below HG5.out.2 H6.out.hB.below) HG5.out.1 (Kd.C_below HG6.out.2 H6.out.hB.below) HG6.out.1 HCK.out).mono ?_
  rintro e w7 ⟨rfl, hb⟩
  refine ⟨_, rfl, ?_⟩
  have H7 := Aside0.mk (H6.out.under hb)
  have HB87 := Aside0.mk (blk_below HB88.out hb)
  clear hb p5 p6 p7 q0 q1 q2 q3 q4 q5 q6 q7
  obtain ⟨q0, q1, q2, q3, q4, q5, q6, q7⟩ := cells39 HB87.out
  refine hK.out _ _ ⟨q5, q6, q7⟩ (fun hHeld => ?_)
  clear hK K
  refine norm_ (a' := ?_) ?_ ?_
  rotate_left
  ·show Act.put _ (some 72) _ = _
   exact nrm_
  refine pq_ (i := 7) (n := 73) (bA 10 255) (by kernel_rfl) ?_
  refine pq_ (i := 8) (n := 12) (bA 10 511) (by kernel_rfl) ?_
  refine pq_ (i := 9) (n := 13) (bA 10 1023) (by kernel_rfl) ?_
  refine done_ (by kernel_rfl) ?_
  go_upto_region 17 with (first | (go_at_call 25; (refine (tree_calls W W.heap.size _ _ n1 s1 ((ns.length : Int) + ra) _ H7.out.hB (by have := HGD.out.1.1; omega) (by have h1 := HGD.out.1.2; have h2 := HPN.out.1; omega) HPN.out.2.2.1.n (by have := HPN.out.2.2.1.m; omega) (fun x hx => by have := HPN.out.2.2.1.short x hx; omega)).mono ?_); rintro e w8 ⟨v0, v1, rfl, hr0, hr1, hb⟩; obtain ⟨A7, c7, rfl, _, _⟩ := Kd.R_reads hr0; obtain ⟨A8, c8, rfl, _, _⟩ := Kd.R_reads hr1; have hz := below_alloc (Below.refl w8.heap.size w8) (.cells #[.slice A7 n1.length c7, .slice A8 s1.length c8, .int .i64 ((ns.length : Int) + ra)] 25 (0, 0)); have hz15 := blk_new w8 (.cells #[.slice A7 n1.length c7, .slice A8 s1.length c8, .int .i64 ((ns.length : Int) + ra)] 25 (0, 0)); have HZ := Aside0.mk (below_then hb hb.size hz); have HR0 := Aside0.mk (Kd.R_below hr0 hz); have HR1 := Aside0.mk (Kd.R_below hr1 hz); have HZ15 := Aside0.mk hz15; clear hb hr0 hr1 hz hz15))
  generalize hw9 : (w8.alloc (.cells #[.slice A7 n1.length c7, .slice A8 s1.length c8, .int .i64 ((ns.length : Int) + ra)] 25 (0, 0))) = w9 at HZ HR0 HR1 HZ15 ⊢
  clear hw9 q0 q1 q2 q3 q4 q5 q6 q7
  obtain ⟨b15, hb15⟩ : ∃ b, w8.heap.size = b := ⟨_, rfl⟩
  rw [hb15] at HZ15 ⊢
  clear hb15
  have HB89 := Aside0.mk (blk_below HB87.out HZ.out)
  obtain ⟨q0, q1, q2, q3, q4, q5, q6, q7⟩ := cells39 HB89.out
  obtain ⟨t0, t1, t2⟩ := cells25 HZ15.out
  have H9 := Aside0.mk (H7.out.under HZ.out)
  have hw1 : wrap64 ((ns.length : Int) + (la.length : Int)) = (n1.length : Int) := by have h1 := HPN.out.1; have h2 := HPN.out.2.2.1.n; unfold wrap64; omega
  go_wp2_with (first | (go_at_call 12; (refine (arena_Same.calls 9000 A7 c7 n1 A8 c8 s1 ((ns.length : Int) + ra) A5 c5 la A6 c6 sa ra true _ (Kd.R_reads' HR0.out).2.2 (Kd.R_reads' HR0.out).2.1 (Kd.R_reads' HR1.out).2.2 (Kd.R_reads' HR1.out).2.1 (Kd.C_below HG5.out.2 H9.out.hB.below) HG5.out.1 (Kd.C_below HG6.out.2 H9.out.hB.below) HG6.out.1 HPN.out.2.2.2).mono ?_); rintro e w10 ⟨rfl, hb⟩; have hZ := below_then HZ.out HZ.out.size hb; have hsw := WAt.swap (r' := (ns.length : Int) + ra) H7.out.hB H7.out.hA hZ (Kd.R_below HR0.out hb) (Kd.R_below HR1.out hb); unfold ch3 at hsw; have HP := Aside0.mk hsw; obtain ⟨t0', t1', t2'⟩ := cells25 (blk_below HZ15.out hb); obtain ⟨z60, z61, z62, f60, f61, f62⟩ := new_cells25 (H9.out.hA.under hb).box; clear hb hZ hsw t0 t1 t2))
  apply HQ.out
  exact LI.next HP.out.1 HP.out.2 (HPN.out.2.2.1) (by have h1 := HNS.out; have h2 := HPN.out.1; have h3 := HNEAR.out.n; omega) (by have h1 := HNS.out; have h2 := HPN.out.2.1; have h3 := HNEAR.out.m; omega)
 ·have HGD := Aside0.mk hgd
  have HCK : Aside0 (spoolref10_Check.f 800 la sa ra = some 3) := ⟨by obtain ⟨e, h1, _, h2⟩ := check_tells (root := ra) HNEAR.out; rw [h1, h2 hgd]⟩
  clear hgd
  go_wp2_with fail
  refine start_ (n := 10) (S := fun w' => w'.cell? ⟨b8, 5, none⟩ = some (.slice A5 la.length c5) ∧ w'.cell? ⟨b8, 6, none⟩ = some (.slice A6 sa.length c6) ∧ w'.cell? ⟨b8, 7, none⟩ = some (.int .i64 ra)) (ds := []) #[false, false, false, false, false, false, false, false, false, false] (by kernel_rfl) rfl rfl ⟨q5, q6, q7⟩ (fun hHeld => ?_)
  refine pq_ (i := 0) (n := 66) (bA 10 1) (by kernel_rfl) ?_
  refine pq_ (i := 1) (n := 67) (bA 10 3) (by kernel_rfl) ?_
  refine pq_ (i := 4) (n := 70) (bA 10 19) (by kernel_rfl) ?_
  refine take_ (i := 2) (N := some 68) (v := ?_) (a' := ?_) (bA 10 23) rfl rfl (by kernel_rfl) (fun _ _ _ h => h) (Or.inl ⟨by rfl, ?_⟩) hHeld ?_ ?_
  rotate_left
  ·rintro w' ⟨s0, s1, s2⟩
   go_simp
   with_reducible rfl
  rotate_left
  ·exact nrm_
  refine take_ (i := 5) (N := some 71) (v := ?_) (a' := ?_) (bA 10 55) rfl rfl (by kernel_rfl) (fun _ _ _ h => h) (Or.inl ⟨by rfl, ?_⟩) hHeld ?_ ?_
  rotate_left
  ·rintro w' ⟨s0, s1, s2⟩
   go_simp
   with_reducible rfl
  rotate_left
  ·exact nrm_
  refine one_ (i := 3) (N := some 69) (bA 10 63) rfl rfl (by kernel_rfl) (by decide) (fun K hK => ?_)
  refine goes_ Try.func24 (by kernel_rfl) rfl #[.pointer (some ⟨W.heap.size, 0, none⟩), .agg #[.slice A5 la.length c5, .slice A6 sa.length c6, .int .i64 ra]] (by rfl) rfl rfl (by simp only [List.map_toArray, List.map_cons, List.map_nil]; rfl) ?_
  with_reducible refine (graft_bad W W.heap.size u v ns ss A5 c5 la A6 c6 sa ra _ HSTD.out.hB HG5.out.2 HG5.out.1 HG6.out.2 HG6.out.1 HNEAR.out HGD.out).mono ?_
  rintro e w6 ⟨rfl, hf⟩
  refine ⟨_, rfl, ?_⟩
  obtain ⟨u6, v6, h6, k6⟩ := HSTD.out.call hf
  have H6 := Aside0.mk h6
  have HB88 := Aside0.mk (k6 _ _ _ HB8D.out (by decide) (by decide) (by decide))
  clear h6 k6 hf
  obtain ⟨_, _, _, _, _, p5, p6, p7⟩ := cells39 HB88.out
  refine hK.out _ _ ⟨p5, p6, p7⟩ (fun hHeld => ?_)
  clear hK K
  refine norm_ (a' := ?_) ?_ ?_
  rotate_left
  ·show Act.put _ (some 69) _ = _
   exact nrm_
  refine one_ (i := 6) (N := some 72) (bA 10 127) rfl rfl (by kernel_rfl) (by decide) (fun K hK => ?_)
  refine goes_ Try.func8 (by kernel_rfl) rfl #[.agg #[.slice A5 la.length c5, .slice A6 sa.length c6, .int .i64 ra]] (by rfl) rfl rfl (by simp only [List.map_toArray, List.map_cons, List.map_nil]; rfl) ?_
  with_reducible refine (spoolref10_Check.calls 800 A5 c5 la A6 c6 sa ra 3 _ (Kd.C_below HG5.out.2 H6.out.hB.below) HG5.out.1 (Kd.C_below HG6.out.2 H6.out.hB.below) HG6.out.1 HCK.out).mono ?_
  rintro e w7 ⟨rfl, hb⟩
  refine ⟨_, rfl, ?_⟩
  have H7 := Aside0.mk (H6.out.under hb)
  have HB87 := Aside0.mk (blk_below HB88.out hb)
  clear hb p5 p6 p7 q0 q1 q2 q3 q4 q5 q6 q7
  obtain ⟨q0, q1, q2, q3, q4, q5, q6, q7⟩ := cells39 HB87.out
  refine hK.out _ _ ⟨q5, q6, q7⟩ (fun hHeld => ?_)
  clear hK K
  refine norm_ (a' := ?_) ?_ ?_
  rotate_left
  ·show Act.put _ (some 72) _ = _
   exact nrm_
  refine pq_ (i := 7) (n := 73) (bA 10 255) (by kernel_rfl) ?_
  refine pq_ (i := 8) (n := 12) (bA 10 511) (by kernel_rfl) ?_
  refine pq_ (i := 9) (n := 13) (bA 10 1023) (by kernel_rfl) ?_
  refine done_ (by kernel_rfl) ?_
  go_wp2_with (go_at_call 26; (refine (len_calls W W.heap.size _ _ ns ss _ H7.out.hB).mono ?_); rintro e w8 ⟨rfl, rfl⟩)
  apply HQ.out
  exact LI.next H7.out.hB H7.out.hA HF.out (by have := HNS.out; omega) (by have := HNS.out; omega)
end Go.Proofs.Ytbgoaigbkfibbaa.HandKe
