import Derived.Test.YtbgoaigbkfibbaaHandSt
import Derived.Test.YtbgoaigbkfibbaaHandAlive
import Derived.Test.YtbgoaigbkfibbaaPfG
import Derived.Test.YtbgoaigbkfibbaaHandLi
import Derived.Test.YtbgoaigbkfibbaaPAx12
import Derived.Test.YtbgoaigbkfibbaaPAx13
import Derived.Test.YtbgoaigbkfibbaaPAx15
import Derived.Test.YtbgoaigbkfibbaaPAx0
import Derived.Test.YtbgoaigbkfibbaaPAx3
/- ArenaBuilds: kinds of acts. No condition beyond the state. -/
set_option linter.unusedSimpArgs false
set_option linter.unusedVariables false
namespace Go.Proofs.Ytbgoaigbkfibbaa.HandKa
open Go.RowKit Go.Proofs.YtbgoaigbkfibbaaW.PrintWords Go.Proofs.YtbgoaigbkfibbaaW.PrintLast Go.Proofs.YtbgoaigbkfibbaaW.PrintMore Go.Proofs.Ytbgoaigbkfibbaa.PA Go.Proofs.Ytbgoaigbkfibbaa.HandRight Go.Proofs.Ytbgoaigbkfibbaa.HandBl Go.Proofs.Ytbgoaigbkfibbaa.HandBm Go.Proofs.Ytbgoaigbkfibbaa.HandBo Go.Proofs.Ytbgoaigbkfibbaa.HandGraft Go.Proofs.Ytbgoaigbkfibbaa.HandGraftN Go.Proofs.Ytbgoaigbkfibbaa.HandWant Go.Proofs.Ytbgoaigbkfibbaa.HandSt Go.Proofs.Ytbgoaigbkfibbaa.HandAlive Go.Proofs.Ytbgoaigbkfibbaa.PfT Go.Proofs.Ytbgoaigbkfibbaa.PfF Go.Proofs.Ytbgoaigbkfibbaa.PfC Go.Proofs.Ytbgoaigbkfibbaa.PfG Go.Proofs.Ytbgoaigbkfibbaa.Sets Go.Proofs.Ytbgoaigbkfibbaa.HandEnd Go.Proofs.Ytbgoaigbkfibbaa.HandTree
open Go.Proofs.Ytbgoaigbkfibbaa.HandSame (cells25 two_boxes arena_Same.f arena_Same.calls)
open Go.Proofs.Ytbgoaigbkfibbaa.HandAt (N41 Z41 n_cells new_cells new_frozen)
open Go.Proofs.Ytbgoaigbkfibbaa.HandLi
attribute [local go_sem high] eqA41
set_option maxRecDepth 100000 in
set_option maxHeartbeats 8000000 in
theorem kind_0 (W : World) (l : List S39) (c : Nat) (ad : Addr) (root : Int) (j : Nat) (x : Int) (ns : List S41) (ss : List (List S55)) (u v wn ws : Value) (r : Int) (WA : Option Addr) (wc b8 : Nat) (w5 : World) (a0 a1 a2 a3 : Int) (A4 : Option Addr) (c4 : Nat) (L : List S55) (A5 : Option Addr) (c5 : Nat) (la : List S41) (A6 : Option Addr) (c6 : Nat) (sa : List (List S55)) (ra : Int) (bx by_ : Bool) (x2 x3 x4 x7 x12 x13 x14 x15 x16 x17 x18 x19 x20 x21 x22 x23 x24 x25 x26 x27 x28 x29 x30 x31 x32 x33 x34 x35 x36 x37 x38 x39 x40 x41 x42 x43 x44 x45 x46 x47 x48 x49 x50 x51 x52 x53 x54 x55 x56 x57 x58 x59 x60 x61 x62 x63 x64 x65 x66 x67 x68 x69 x70 x71 x72 x73 x74 x75 x76 x77 x78 x79 x80 x81 x82 x83 x84 x85 x86 x87 x88 x89 x90 x91 x92 x93 x94 x95 x96 x97 x98 x99 x100 x101 x102 x103 x104 x105 x106 x107 x108 x109 x110 x111 x112 x113 x114 x115 x116 x117 x118 x119 x120 x121 x122 x123 x124 x125 x126 x127 x128 x129 x130 x131 x132 x133 x134 x135 x136 x137 x138 x139 x140 x141 x142 x143 x144 x145 x146 x147 x148 x149 x150 x151 x152 x153 x154 x155 x156 x157 x158 x159 x160 x161 x162 x163 x164 x165 x166 x167 x168 x169 x170 x171 x172 x173 x174 x175 x176 x177 x178 x179 x180 x181 x182 x183 x184 x185 x186 x187 x188 x189 x190 x191 x192 x193 x194 x195 x196 x197 x198 x199 x200 x201 x202 x203 x204 x205 x206 x207 x208 x209 x210 x211 x212 x213 x214 x215 x216 x217 x218 x219 x220 x221 x222 x223 x224 x225 x226 x227 x228 x229 x230 x231 x232 x233 x234 x235 x236 x237 x238 x239 x240 x241 x242 x243 x244 x245 x246 x247 x248 x249 x250 x251 x252 x253 x254 x255 x256 x257 x258 x259 x260 x261 x262 x263 x264 x265 x266 x267 x268 x269 x270 x271 x272 x273 x274 x275 x276 x277 x278 x279 x280 x281 x282 x283 x284 x285 x286 x287 x288 x289 x290 x291 x292 x293 x294 x295 x296 x297 x298 x299 x300 x301 x302 x303 x304 x305 x306 : Value) (C : Code) (K1 K2 K3 : Act → World → Prop) (hC : Try.f4.body.bind (pick 12) = some C) (HQ : Aside0 (∀ (y12 y13 y14 y15 y16 y63 y64 y65 y66 y67 y68 y69 y70 y71 y72 y73 y74 y75 y76 y77 y78 y79 y80 y81 y82 y83 y84 y85 y86 y87 y88 y89 y90 y91 y92 y93 y94 y95 y96 y97 y98 y99 y100 y101 y102 y103 y104 y105 y106 y107 y108 y109 y110 y111 y112 y113 y114 y115 y116 y117 y118 y119 y120 y121 y122 y123 y124 y125 y126 y127 y128 y129 y130 y131 y132 y133 y134 y135 y136 y137 y138 y139 y140 y141 y142 y143 y144 y145 y146 y147 y148 y149 y150 y151 y152 y153 y154 y155 y156 y157 y158 y159 y160 y161 y162 y163 y164 y165 y166 y167 y168 y169 y170 y171 y172 y173 y174 y175 y176 y177 y178 y179 y180 y181 y182 y183 y184 y185 y186 y187 y188 y189 y190 y191 y192 y193 y194 y195 y196 y197 y198 y199 y200 y201 y202 y203 y204 : Value) (w' : World), LI W W.heap.size (W.heap.size + 1) (j + 1) w' → K1 ⟨#[.slice (some ad) l.length c, .int .i64 root, x2, x3, x4, .pointer (some ⟨W.heap.size, 0, none⟩), .pointer (some ⟨W.heap.size + 1, 0, none⟩), x7, .pointer (some ⟨b8, 0, none⟩), .int .i64 (ns.length : Int), .bool bx, .bool by_, y12, y13, y14, y15, y16, x17, x18, x19, x20, x21, x22, x23, x24, x25, x26, x27, x28, x29, x30, x31, x32, x33, x34, x35, x36, x37, x38, x39, x40, x41, x42, x43, x44, x45, x46, x47, x48, x49, x50, x51, x52, x53, x54, x55, x56, x57, x58, x59, x60, x61, x62, y63, y64, y65, y66, y67, y68, y69, y70, y71, y72, y73, y74, y75, y76, y77, y78, y79, y80, y81, y82, y83, y84, y85, y86, y87, y88, y89, y90, y91, y92, y93, y94, y95, y96, y97, y98, y99, y100, y101, y102, y103, y104, y105, y106, y107, y108, y109, y110, y111, y112, y113, y114, y115, y116, y117, y118, y119, y120, y121, y122, y123, y124, y125, y126, y127, y128, y129, y130, y131, y132, y133, y134, y135, y136, y137, y138, y139, y140, y141, y142, y143, y144, y145, y146, y147, y148, y149, y150, y151, y152, y153, y154, y155, y156, y157, y158, y159, y160, y161, y162, y163, y164, y165, y166, y167, y168, y169, y170, y171, y172, y173, y174, y175, y176, y177, y178, y179, y180, y181, y182, y183, y184, y185, y186, y187, y188, y189, y190, y191, y192, y193, y194, y195, y196, y197, y198, y199, y200, y201, y202, y203, y204, x205, x206, x207, x208, x209, x210, x211, x212, x213, x214, x215, x216, x217, x218, x219, x220, x221, x222, x223, x224, x225, x226, x227, x228, x229, x230, x231, x232, x233, x234, x235, x236, x237, x238, x239, x240, x241, x242, x243, x244, x245, x246, x247, x248, x249, x250, x251, x252, x253, x254, x255, x256, x257, x258, x259, x260, x261, x262, x263, x264, x265, x266, x267, x268, x269, x270, x271, x272, x273, x274, x275, x276, x277, x278, x279, x280, x281, x282, x283, x284, x285, x286, x287, x288, x289, x290, x291, x292, x293, x294, x295, x296, x297, x298, x299, x300, x301, x302, x303, x304, x305, x306], []⟩ w')) (HL : Aside0 (l.length ≤ 30)) (HXJ : Aside0 (x = (j : Int) ∧ j < l.length)) (HF : Aside0 (Fine ns ss)) (HNS : Aside0 (ns.length ≤ 60 * j ∧ ss.length ≤ 60 * j)) (HLT : Aside0 (ns.length < 4096)) (HEW : Aside0 (wn = .slice WA ns.length wc)) (HAW5 : Aside0 (WAt W.heap.size (W.heap.size + 1) u v wn ws r ns ss w5)) (HB35 : Aside0 (Below W.heap.size W w5)) (HG4 : Aside0 (L.length ≤ c4 ∧ Kd.C k55 W A4 L.length L)) (HG5 : Aside0 (la.length ≤ c5 ∧ Kd.C k41 W A5 la.length la)) (HG6 : Aside0 (sa.length ≤ c6 ∧ Kd.C (Kd.slice 55 k55) W A6 sa.length sa)) (HL20 : Aside0 (L.length ≤ 20)) (HNEAR : Aside0 (Near la sa)) (HST : Aside0 (ST W W.heap.size (W.heap.size + 1) w5.heap.size u v wn ws r ns ss ns ss (.cells #[.int .i64 0, .int .i64 0, .int .i64 0, .int .i64 0, .int .i64 0, .int .i64 0] 41 (0, 0)) (w5.alloc (.cells #[.int .i64 0, .int .i64 0, .int .i64 0, .int .i64 0, .int .i64 0, .int .i64 0] 41 (0, 0))))) (HB86 : Aside0 ((w5.alloc (.cells #[.int .i64 0, .int .i64 0, .int .i64 0, .int .i64 0, .int .i64 0, .int .i64 0] 41 (0, 0))).heap[b8]? = some (.cells #[.int .i64 a0, .int .i64 a1, .int .i64 a2, .int .i64 a3, .slice A4 L.length c4, .slice A5 la.length c5, .slice A6 sa.length c6, .int .i64 ra] 39 (0, 0)))) (hbx : bx = decide (0 ≤ a1 ∧ a1 < (ns.length : Int))) (hby : by_ = decide (0 ≤ a2 ∧ a2 < (ns.length : Int))) (k0 : a0 = 0) :
  Code.wp Try.prog C (Exit.inBlock 1 (Exit.then K1 (Exit.then K2 (Exit.inBlock 0 (Exit.then K3 (bodyPost Try.prog Try.f4 fun e W' => e = .returned (.bool true) ∧ Below W.heap.size W W')))))) ⟨#[.slice (some ad) l.length c, .int .i64 root, x2, x3, x4, .pointer (some ⟨W.heap.size, 0, none⟩), .pointer (some ⟨W.heap.size + 1, 0, none⟩), x7, .pointer (some ⟨b8, 0, none⟩), .int .i64 (ns.length : Int), .bool bx, .bool by_, x12, x13, x14, x15, x16, x17, x18, x19, x20, x21, x22, x23, x24, x25, x26, x27, x28, x29, x30, x31, x32, x33, x34, x35, x36, x37, x38, x39, x40, x41, x42, x43, x44, x45, x46, x47, x48, x49, x50, x51, x52, x53, x54, x55, x56, x57, x58, x59, x60, x61, x62, x63, x64, x65, x66, x67, x68, x69, x70, x71, x72, x73, x74, x75, x76, x77, x78, x79, x80, x81, x82, x83, x84, x85, x86, x87, x88, x89, x90, x91, x92, x93, x94, x95, x96, x97, x98, x99, x100, x101, x102, x103, x104, x105, x106, x107, x108, x109, x110, x111, x112, x113, x114, x115, x116, x117, x118, x119, x120, x121, x122, x123, x124, x125, x126, x127, x128, x129, x130, x131, x132, x133, x134, x135, x136, x137, x138, x139, x140, x141, x142, x143, x144, x145, x146, x147, x148, x149, x150, x151, x152, x153, x154, x155, x156, x157, x158, x159, x160, x161, x162, x163, x164, x165, x166, x167, x168, x169, x170, x171, x172, x173, x174, x175, x176, x177, x178, x179, x180, x181, x182, x183, x184, x185, x186, x187, x188, x189, x190, x191, x192, x193, x194, x195, x196, x197, x198, x199, x200, x201, x202, x203, x204, x205, x206, x207, x208, x209, x210, x211, x212, x213, x214, x215, x216, x217, x218, x219, x220, x221, x222, x223, x224, x225, x226, x227, x228, x229, x230, x231, x232, x233, x234, x235, x236, x237, x238, x239, x240, x241, x242, x243, x244, x245, x246, x247, x248, x249, x250, x251, x252, x253, x254, x255, x256, x257, x258, x259, x260, x261, x262, x263, x264, x265, x266, x267, x268, x269, x270, x271, x272, x273, x274, x275, x276, x277, x278, x279, x280, x281, x282, x283, x284, x285, x286, x287, x288, x289, x290, x291, x292, x293, x294, x295, x296, x297, x298, x299, x300, x301, x302, x303, x304, x305, x306], []⟩ w5 := by
 subst k0
 clear hbx hby
 have hC2 := hC.symm
 conv at hC2 => rhs; whnf
 injection hC2 with hC2
 subst hC2
 clear hC
 obtain ⟨q0, q1, q2, q3, q4, q5, q6, q7⟩ := cells39 HB86.out
 go_upto_region 31 with (first | (go_at_call 17; (refine (empty_calls W W.heap.size u v ns ss _ HST.out.hB HLT.out).mono ?_); rintro e w6 ⟨rfl, hf⟩; obtain ⟨u6, v6, h6, k6⟩ := HST.out.call hf; clear hf; have HB6 := Aside0.mk (below_then HB35.out HB35.out.size (Below.refl _ _)); have H6 := Aside0.mk h6; have HB88 := Aside0.mk (k6 _ _ _ HB86.out (by decide) (by decide) (by decide)); obtain ⟨y0, y1, y2, y3, y4, y5⟩ := new_cells H6.out.h14; obtain ⟨f0, f1, f2, f3, f4, f5⟩ := new_frozen H6.out.h14; have h7 := H6.out.store (1) (0) (0) (0) (0) (0); unfold ch6 at h7; have H7 := Aside0.mk h7; have z7 := H7.out.hA.box; rw [HEW.out] at z7; obtain ⟨zz0, zz1, zz2⟩ := cells25 z7; obtain ⟨m0, m1, m2, m3, m4, m5⟩ := n_cells H7.out.h14; have x0 := fun o => HandBm.cell_al m0 o; clear h6 k6 h7 z7 x0; clear q0 q1 q2 q3 q4 q5 q6 q7; obtain ⟨q0, q1, q2, q3, q4, q5, q6, q7⟩ := cells39 HB88.out))
 generalize hw7 : ((((((w6.setCell ⟨w5.heap.size, 0, none⟩ (.int .i64 1)).setCell ⟨w5.heap.size, 1, none⟩ (.int .i64 0)).setCell ⟨w5.heap.size, 2, none⟩ (.int .i64 0)).setCell ⟨w5.heap.size, 3, none⟩ (.int .i64 0)).setCell ⟨w5.heap.size, 4, none⟩ (.int .i64 0)).setCell ⟨w5.heap.size, 5, none⟩ (.int .i64 0)) = w7 at H7 zz0 zz1 zz2 m0 m1 m2 m3 m4 m5 ⊢
 clear hw7 y0 y1 y2 y3 y4 y5 f0 f1 f2 f3 f4 f5 q0 q1 q2 q3 q4 q5 q6 q7
 go_wp2_with (at_builtin; refine Kd.R_append k41 (w0 := W) W.heap.size rfl (.tmp 200) (.tmp 202) 22 41 (.agg #[(.int .i64 0), (.int .i64 0), (.int .i64 0), (.int .i64 0), (.int .i64 0), (.int .i64 0)]) 48 rfl Try.underlying22 HandBl.info41 rfl (by decide) (by omega) (.slice WA ns.length wc) ns ⟨1, 0, 0, 0, 0, 0⟩ [.int .i64 1, .int .i64 0, .int .i64 0, .int .i64 0, .int .i64 0, .int .i64 0] (fun _ => True) (fun _ => False) rfl rfl (k41_mkM _ _ _ ⟨1, 0, 0, 0, 0, 0⟩) (fun _ hk => hk.elim) (fun _ _ => trivial) (by have h := H7.out.hA.n; rw [HEW.out] at h; exact h) H7.out.hB.below H7.out.hB.below.size (by have := HLT.out; omega) ?_; intro z1 w9 ho hb hg hat; obtain ⟨AZ, cz, ez, _, _⟩ := Kd.R_reads ho; rw [show (ns ++ [(⟨1, 0, 0, 0, 0, 0⟩ : S41)]).length = ns.length + 1 by simp] at ez; subst ez; have hpush := WAt.pushed H7.out.hB H7.out.hA ho hb (by rw [HEW.out]; exact hg) (by rw [HEW.out]; exact hat); have b9 := blk_grown H7.out.hA.box (by rw [HEW.out]; exact hg) (Kd.R_ne H7.out.hA.n H7.out.hA.box (by decide)); have c9 : w9.cell? ⟨W.heap.size + 1, 0, none⟩ = some wn := (blk_cell b9 0).trans rfl; have f9 := blk_frozen b9 0; have HP := Aside0.mk hpush; clear ho hb hg hat hpush b9)
 apply HQ.out
 exact LI.next HP.out.1 HP.out.2 (HF.out.push (⟨1, 0, 0, 0, 0, 0⟩ : S41) HLT.out (by simp [rightN])) (by have := HNS.out; simp; omega) (by have := HNS.out; omega)
set_option maxRecDepth 100000 in
set_option maxHeartbeats 8000000 in
theorem kind_1 (W : World) (l : List S39) (c : Nat) (ad : Addr) (root : Int) (j : Nat) (x : Int) (ns : List S41) (ss : List (List S55)) (u v wn ws : Value) (r : Int) (WA : Option Addr) (wc b8 : Nat) (w5 : World) (a0 a1 a2 a3 : Int) (A4 : Option Addr) (c4 : Nat) (L : List S55) (A5 : Option Addr) (c5 : Nat) (la : List S41) (A6 : Option Addr) (c6 : Nat) (sa : List (List S55)) (ra : Int) (bx by_ : Bool) (x2 x3 x4 x7 x12 x13 x14 x15 x16 x17 x18 x19 x20 x21 x22 x23 x24 x25 x26 x27 x28 x29 x30 x31 x32 x33 x34 x35 x36 x37 x38 x39 x40 x41 x42 x43 x44 x45 x46 x47 x48 x49 x50 x51 x52 x53 x54 x55 x56 x57 x58 x59 x60 x61 x62 x63 x64 x65 x66 x67 x68 x69 x70 x71 x72 x73 x74 x75 x76 x77 x78 x79 x80 x81 x82 x83 x84 x85 x86 x87 x88 x89 x90 x91 x92 x93 x94 x95 x96 x97 x98 x99 x100 x101 x102 x103 x104 x105 x106 x107 x108 x109 x110 x111 x112 x113 x114 x115 x116 x117 x118 x119 x120 x121 x122 x123 x124 x125 x126 x127 x128 x129 x130 x131 x132 x133 x134 x135 x136 x137 x138 x139 x140 x141 x142 x143 x144 x145 x146 x147 x148 x149 x150 x151 x152 x153 x154 x155 x156 x157 x158 x159 x160 x161 x162 x163 x164 x165 x166 x167 x168 x169 x170 x171 x172 x173 x174 x175 x176 x177 x178 x179 x180 x181 x182 x183 x184 x185 x186 x187 x188 x189 x190 x191 x192 x193 x194 x195 x196 x197 x198 x199 x200 x201 x202 x203 x204 x205 x206 x207 x208 x209 x210 x211 x212 x213 x214 x215 x216 x217 x218 x219 x220 x221 x222 x223 x224 x225 x226 x227 x228 x229 x230 x231 x232 x233 x234 x235 x236 x237 x238 x239 x240 x241 x242 x243 x244 x245 x246 x247 x248 x249 x250 x251 x252 x253 x254 x255 x256 x257 x258 x259 x260 x261 x262 x263 x264 x265 x266 x267 x268 x269 x270 x271 x272 x273 x274 x275 x276 x277 x278 x279 x280 x281 x282 x283 x284 x285 x286 x287 x288 x289 x290 x291 x292 x293 x294 x295 x296 x297 x298 x299 x300 x301 x302 x303 x304 x305 x306 : Value) (C : Code) (K1 K2 K3 : Act → World → Prop) (hC : Try.f4.body.bind (pick 12) = some C) (HQ : Aside0 (∀ (y12 y13 y14 y15 y16 y63 y64 y65 y66 y67 y68 y69 y70 y71 y72 y73 y74 y75 y76 y77 y78 y79 y80 y81 y82 y83 y84 y85 y86 y87 y88 y89 y90 y91 y92 y93 y94 y95 y96 y97 y98 y99 y100 y101 y102 y103 y104 y105 y106 y107 y108 y109 y110 y111 y112 y113 y114 y115 y116 y117 y118 y119 y120 y121 y122 y123 y124 y125 y126 y127 y128 y129 y130 y131 y132 y133 y134 y135 y136 y137 y138 y139 y140 y141 y142 y143 y144 y145 y146 y147 y148 y149 y150 y151 y152 y153 y154 y155 y156 y157 y158 y159 y160 y161 y162 y163 y164 y165 y166 y167 y168 y169 y170 y171 y172 y173 y174 y175 y176 y177 y178 y179 y180 y181 y182 y183 y184 y185 y186 y187 y188 y189 y190 y191 y192 y193 y194 y195 y196 y197 y198 y199 y200 y201 y202 y203 y204 : Value) (w' : World), LI W W.heap.size (W.heap.size + 1) (j + 1) w' → K1 ⟨#[.slice (some ad) l.length c, .int .i64 root, x2, x3, x4, .pointer (some ⟨W.heap.size, 0, none⟩), .pointer (some ⟨W.heap.size + 1, 0, none⟩), x7, .pointer (some ⟨b8, 0, none⟩), .int .i64 (ns.length : Int), .bool bx, .bool by_, y12, y13, y14, y15, y16, x17, x18, x19, x20, x21, x22, x23, x24, x25, x26, x27, x28, x29, x30, x31, x32, x33, x34, x35, x36, x37, x38, x39, x40, x41, x42, x43, x44, x45, x46, x47, x48, x49, x50, x51, x52, x53, x54, x55, x56, x57, x58, x59, x60, x61, x62, y63, y64, y65, y66, y67, y68, y69, y70, y71, y72, y73, y74, y75, y76, y77, y78, y79, y80, y81, y82, y83, y84, y85, y86, y87, y88, y89, y90, y91, y92, y93, y94, y95, y96, y97, y98, y99, y100, y101, y102, y103, y104, y105, y106, y107, y108, y109, y110, y111, y112, y113, y114, y115, y116, y117, y118, y119, y120, y121, y122, y123, y124, y125, y126, y127, y128, y129, y130, y131, y132, y133, y134, y135, y136, y137, y138, y139, y140, y141, y142, y143, y144, y145, y146, y147, y148, y149, y150, y151, y152, y153, y154, y155, y156, y157, y158, y159, y160, y161, y162, y163, y164, y165, y166, y167, y168, y169, y170, y171, y172, y173, y174, y175, y176, y177, y178, y179, y180, y181, y182, y183, y184, y185, y186, y187, y188, y189, y190, y191, y192, y193, y194, y195, y196, y197, y198, y199, y200, y201, y202, y203, y204, x205, x206, x207, x208, x209, x210, x211, x212, x213, x214, x215, x216, x217, x218, x219, x220, x221, x222, x223, x224, x225, x226, x227, x228, x229, x230, x231, x232, x233, x234, x235, x236, x237, x238, x239, x240, x241, x242, x243, x244, x245, x246, x247, x248, x249, x250, x251, x252, x253, x254, x255, x256, x257, x258, x259, x260, x261, x262, x263, x264, x265, x266, x267, x268, x269, x270, x271, x272, x273, x274, x275, x276, x277, x278, x279, x280, x281, x282, x283, x284, x285, x286, x287, x288, x289, x290, x291, x292, x293, x294, x295, x296, x297, x298, x299, x300, x301, x302, x303, x304, x305, x306], []⟩ w')) (HL : Aside0 (l.length ≤ 30)) (HXJ : Aside0 (x = (j : Int) ∧ j < l.length)) (HF : Aside0 (Fine ns ss)) (HNS : Aside0 (ns.length ≤ 60 * j ∧ ss.length ≤ 60 * j)) (HLT : Aside0 (ns.length < 4096)) (HEW : Aside0 (wn = .slice WA ns.length wc)) (HAW5 : Aside0 (WAt W.heap.size (W.heap.size + 1) u v wn ws r ns ss w5)) (HB35 : Aside0 (Below W.heap.size W w5)) (HG4 : Aside0 (L.length ≤ c4 ∧ Kd.C k55 W A4 L.length L)) (HG5 : Aside0 (la.length ≤ c5 ∧ Kd.C k41 W A5 la.length la)) (HG6 : Aside0 (sa.length ≤ c6 ∧ Kd.C (Kd.slice 55 k55) W A6 sa.length sa)) (HL20 : Aside0 (L.length ≤ 20)) (HNEAR : Aside0 (Near la sa)) (HST : Aside0 (ST W W.heap.size (W.heap.size + 1) w5.heap.size u v wn ws r ns ss ns ss (.cells #[.int .i64 0, .int .i64 0, .int .i64 0, .int .i64 0, .int .i64 0, .int .i64 0] 41 (0, 0)) (w5.alloc (.cells #[.int .i64 0, .int .i64 0, .int .i64 0, .int .i64 0, .int .i64 0, .int .i64 0] 41 (0, 0))))) (HB86 : Aside0 ((w5.alloc (.cells #[.int .i64 0, .int .i64 0, .int .i64 0, .int .i64 0, .int .i64 0, .int .i64 0] 41 (0, 0))).heap[b8]? = some (.cells #[.int .i64 a0, .int .i64 a1, .int .i64 a2, .int .i64 a3, .slice A4 L.length c4, .slice A5 la.length c5, .slice A6 sa.length c6, .int .i64 ra] 39 (0, 0)))) (hbx : bx = decide (0 ≤ a1 ∧ a1 < (ns.length : Int))) (hby : by_ = decide (0 ≤ a2 ∧ a2 < (ns.length : Int))) (k1 : a0 = 1) :
  Code.wp Try.prog C (Exit.inBlock 1 (Exit.then K1 (Exit.then K2 (Exit.inBlock 0 (Exit.then K3 (bodyPost Try.prog Try.f4 fun e W' => e = .returned (.bool true) ∧ Below W.heap.size W W')))))) ⟨#[.slice (some ad) l.length c, .int .i64 root, x2, x3, x4, .pointer (some ⟨W.heap.size, 0, none⟩), .pointer (some ⟨W.heap.size + 1, 0, none⟩), x7, .pointer (some ⟨b8, 0, none⟩), .int .i64 (ns.length : Int), .bool bx, .bool by_, x12, x13, x14, x15, x16, x17, x18, x19, x20, x21, x22, x23, x24, x25, x26, x27, x28, x29, x30, x31, x32, x33, x34, x35, x36, x37, x38, x39, x40, x41, x42, x43, x44, x45, x46, x47, x48, x49, x50, x51, x52, x53, x54, x55, x56, x57, x58, x59, x60, x61, x62, x63, x64, x65, x66, x67, x68, x69, x70, x71, x72, x73, x74, x75, x76, x77, x78, x79, x80, x81, x82, x83, x84, x85, x86, x87, x88, x89, x90, x91, x92, x93, x94, x95, x96, x97, x98, x99, x100, x101, x102, x103, x104, x105, x106, x107, x108, x109, x110, x111, x112, x113, x114, x115, x116, x117, x118, x119, x120, x121, x122, x123, x124, x125, x126, x127, x128, x129, x130, x131, x132, x133, x134, x135, x136, x137, x138, x139, x140, x141, x142, x143, x144, x145, x146, x147, x148, x149, x150, x151, x152, x153, x154, x155, x156, x157, x158, x159, x160, x161, x162, x163, x164, x165, x166, x167, x168, x169, x170, x171, x172, x173, x174, x175, x176, x177, x178, x179, x180, x181, x182, x183, x184, x185, x186, x187, x188, x189, x190, x191, x192, x193, x194, x195, x196, x197, x198, x199, x200, x201, x202, x203, x204, x205, x206, x207, x208, x209, x210, x211, x212, x213, x214, x215, x216, x217, x218, x219, x220, x221, x222, x223, x224, x225, x226, x227, x228, x229, x230, x231, x232, x233, x234, x235, x236, x237, x238, x239, x240, x241, x242, x243, x244, x245, x246, x247, x248, x249, x250, x251, x252, x253, x254, x255, x256, x257, x258, x259, x260, x261, x262, x263, x264, x265, x266, x267, x268, x269, x270, x271, x272, x273, x274, x275, x276, x277, x278, x279, x280, x281, x282, x283, x284, x285, x286, x287, x288, x289, x290, x291, x292, x293, x294, x295, x296, x297, x298, x299, x300, x301, x302, x303, x304, x305, x306], []⟩ w5 := by
 have hC2 := hC.symm
 conv at hC2 => rhs; whnf
 injection hC2 with hC2
 subst hC2
 clear hC
 obtain ⟨q0, q1, q2, q3, q4, q5, q6, q7⟩ := cells39 HB86.out
 have HSTD := Aside0.mk (HST.out.under (below_drew1 (Below.refl _ _)))
 have HB8D : Aside0 ((w5.alloc (.cells #[.int .i64 0, .int .i64 0, .int .i64 0, .int .i64 0, .int .i64 0, .int .i64 0] 41 (0, 0))).drew.heap[b8]? = some (.cells #[.int .i64 a0, .int .i64 a1, .int .i64 a2, .int .i64 a3, .slice A4 L.length c4, .slice A5 la.length c5, .slice A6 sa.length c6, .int .i64 ra] 39 (0, 0))) := ⟨blk_drew HB86.out⟩
 subst k1
 clear hbx hby
 obtain ⟨WS, wsc, ews, _, _⟩ := Kd.R_reads HAW5.out.s
 obtain ⟨_, zs1, _⟩ := cells25 HSTD.out.hA.box
 rw [ews] at zs1
 have HES := Aside0.mk ews
 have HSL : Aside0 (ss.length < 2 ^ 31) := ⟨by have h1 := HNS.out; have h2 := HXJ.out; have h3 := HL.out; omega⟩
 have HLL : Aside0 (L.length < 2 ^ 31) := ⟨by have := HL20.out; omega⟩
 have HAS := Aside0.mk (act_sets HSTD.out.hB HG4.out.2)
 have HOF : Aside0 (spoolref05_Set.f 1000 0 L [] = some (ofL L)) := ⟨PfR.Set0_f L (by have := HL20.out; omega) 1000 (by have := HL20.out; omega)⟩
 clear ews
 go_wp2_with fail
 refine start_ (n := 10) (S := fun w' => w'.cell? ⟨b8, 4, none⟩ = some (.slice A4 L.length c4) ∧ w'.cell? ⟨W.heap.size + 1, 1, none⟩ = some (.slice WS ss.length wsc)) (ds := [9]) #[false, false, false, false, false, false, false, false, false, false] (by kernel_rfl) rfl rfl ⟨q4, zs1⟩ (fun hHeld => ?_)
 refine pq_ (i := 0) (n := 111) (bA 10 1) (by kernel_rfl) ?_
 refine pq_ (i := 1) (n := 112) (bA 10 3) (by kernel_rfl) ?_
 refine pq_ (i := 4) (n := 115) (bA 10 19) (by kernel_rfl) ?_
 refine take_ (i := 2) (N := some 113) (v := ?_) (a' := ?_) (bA 10 23) rfl rfl (by kernel_rfl) (fun _ _ _ h => h) (Or.inl ⟨by rfl, ?_⟩) hHeld ?_ ?_
 rotate_left
 ·rintro w' ⟨s0, s1⟩
  go_simp
  with_reducible rfl
 rotate_left
 ·exact nrm_
 refine take_ (i := 5) (N := some 116) (v := ?_) (a' := ?_) (bA 10 55) rfl rfl (by kernel_rfl) (fun _ _ _ h => h) (Or.inl ⟨by rfl, ?_⟩) hHeld ?_ ?_
 rotate_left
 ·rintro w' ⟨s0, s1⟩
  go_simp
  with_reducible rfl
 rotate_left
 ·exact nrm_
 refine pq_ (i := 6) (n := 117) (bA 10 119) (by kernel_rfl) ?_
 refine pq_ (i := 7) (n := 118) (bA 10 247) (by kernel_rfl) ?_
 refine one_ (i := 3) (N := some 114) (bA 10 255) rfl rfl (by kernel_rfl) (by decide) (fun K hK => ?_)
 refine goes_ Try.func18 (by kernel_rfl) rfl #[.pointer (some ⟨W.heap.size, 0, none⟩), .slice A4 L.length c4] (by rfl) rfl rfl (by simp only [List.map_toArray, List.map_cons, List.map_nil]; rfl) ?_
 with_reducible refine (set_calls W W.heap.size u v ns ss A4 c4 L _ HSTD.out.hB HAS.out HG4.out.1 HLL.out HLT.out HSL.out).mono ?_
 rintro e w6 ⟨rfl, hf0⟩
 refine ⟨_, rfl, ?_⟩
 have hf : BRes W W.heap.size u v _ _ _ w6 := hf0
 obtain ⟨u6, v6, h6, k6⟩ := HSTD.out.call hf
 clear hf hf0
 have HB6 := Aside0.mk (below_then HB35.out HB35.out.size (Below.refl _ _))
 have H6 := Aside0.mk h6
 have HB88 := Aside0.mk (k6 _ _ _ HB8D.out (by decide) (by decide) (by decide))
 obtain ⟨y0, y1, y2, y3, y4, y5⟩ := new_cells H6.out.h14
 obtain ⟨f0, f1, f2, f3, f4, f5⟩ := new_frozen H6.out.h14
 have h7 := H6.out.store (2) (0) (0) (0) (0) ((ss.length : Int))
 unfold ch6 at h7
 have H7 := Aside0.mk h7
 have z7 := H7.out.hA.box
 rw [HEW.out] at z7
 obtain ⟨zz0, zz1, zz2⟩ := cells25 z7
 obtain ⟨m0, m1, m2, m3, m4, m5⟩ := n_cells H7.out.h14
 have x0 := fun o => HandBm.cell_al m0 o
 clear h6 k6 h7 z7 x0
 clear q0 q1 q2 q3 q4 q5 q6 q7
 obtain ⟨q0, q1, q2, q3, q4, q5, q6, q7⟩ := cells39 HB88.out
 obtain ⟨_, zs2, _⟩ := cells25 H6.out.hA.box
 rw [HES.out] at zs2
 refine hK.out _ _ ⟨q4, zs2⟩ (fun hHeld => ?_)
 clear hK K
 refine norm_ (a' := ?_) ?_ ?_
 rotate_left
 ·show Act.put _ (some 114) _ = _
  exact nrm_
 refine pq_ (i := 8) (n := 12) (bA 10 511) (by kernel_rfl) ?_
 refine last_ (i := 9) (N := none) #[true, true, true, true, true, true, true, true, true, true] rfl rfl (by kernel_rfl) (by decide) (fun K hK => ?_)
 refine skip_ (w1 := ?_) (by rfl) rfl ?_ ?_
 rotate_left
 ·go_simp
  rfl
 refine hK.out _ _ ?_
 clear hK K
 refine done_ (by kernel_rfl) ?_
 have hk7 := ch6_kept w6 w5.heap.size 2 0 0 0 0 (ss.length : Int)
 unfold ch6 at hk7
 have HB87 := Aside0.mk (blk_kept HB88.out hk7 (fun q => blk_ne HB88.out H6.out.h14 (by decide) q))
 clear hk7
 generalize hw7 : ((((((w6.setCell ⟨w5.heap.size, 0, none⟩ (.int .i64 2)).setCell ⟨w5.heap.size, 1, none⟩ (.int .i64 0)).setCell ⟨w5.heap.size, 2, none⟩ (.int .i64 0)).setCell ⟨w5.heap.size, 3, none⟩ (.int .i64 0)).setCell ⟨w5.heap.size, 4, none⟩ (.int .i64 0)).setCell ⟨w5.heap.size, 5, none⟩ (.int .i64 (ss.length : Int))) = w7 at HB87 H7 zz0 zz1 zz2 m0 m1 m2 m3 m4 m5 ⊢
 clear hw7 y0 y1 y2 y3 y4 y5 f0 f1 f2 f3 f4 f5 q0 q1 q2 q3 q4 q5 q6 q7
 obtain ⟨_, _, _, _, qq4, _, _, _⟩ := cells39 HB87.out
 have zt1 := zz1
 rw [HES.out] at zt1
 go_wp2_with fail
 refine start_ (n := 9) (S := fun w' => w'.cell? ⟨W.heap.size + 1, 1, none⟩ = some (.slice WS ss.length wsc) ∧ w'.cell? ⟨b8, 4, none⟩ = some (.slice A4 L.length c4)) (ds := [6, 8]) #[false, false, false, false, false, false, false, false, false] (by kernel_rfl) rfl rfl ⟨zt1, qq4⟩ (fun hHeld => ?_)
 refine pq_ (i := 0) (n := 119) (bA 9 1) (by kernel_rfl) ?_
 refine pq_ (i := 2) (n := 121) (bA 9 5) (by kernel_rfl) ?_
 refine take_ (i := 1) (N := some 120) (v := ?_) (a' := ?_) (bA 9 7) rfl rfl (by kernel_rfl) (fun _ _ _ h => h) (Or.inl ⟨by rfl, ?_⟩) hHeld ?_ ?_
 rotate_left
 ·rintro w' ⟨s0, s1⟩
  go_simp
  with_reducible rfl
 rotate_left
 ·exact nrm_
 refine take_ (i := 3) (N := some 122) (v := ?_) (a' := ?_) (bA 9 15) rfl rfl (by kernel_rfl) (fun _ _ _ h => h) (Or.inl ⟨by rfl, ?_⟩) hHeld ?_ ?_
 rotate_left
 ·rintro w' ⟨s0, s1⟩
  go_simp
  with_reducible rfl
 rotate_left
 ·exact nrm_
 refine one_ (i := 4) (N := some 123) (bA 9 31) rfl rfl (by kernel_rfl) (by decide) (fun K hK => ?_)
 refine goes_ Try.func19 (by kernel_rfl) rfl #[.int .i64 0, .slice A4 L.length c4, .slice none ([] : List S55).length 0] (by rfl) rfl rfl (by simp only [List.map_toArray, List.map_cons, List.map_nil]; rfl) ?_
 with_reducible refine (spoolref05_Set.calls 1000 0 A4 c4 L none 0 [] (ofL L) _ (Kd.C_drew (Kd.C_below HG4.out.2 H7.out.hB.below)) HG4.out.1 (Kd.C_nil _ _) (Nat.le_refl _) HOF.out).mono ?_
 rintro e w8 ⟨v0, rfl, hr, hb⟩
 refine ⟨_, rfl, ?_⟩
 obtain ⟨A2, c2, rfl, _, _⟩ := Kd.R_reads hr
 have HN4 := Aside0.mk hr
 have H8 := Aside0.mk (H7.out.under (below_then (below_drew1 (Below.refl w7.heap.size w7)) (by simp) hb))
 have HB8X := Aside0.mk (blk_below (blk_drew HB87.out) hb)
 have hz8 := H8.out.hA.box
 rw [HEW.out, HES.out] at hz8
 obtain ⟨_, zs3, _⟩ := cells25 hz8
 obtain ⟨_, _, _, _, q4', _, _, _⟩ := cells39 HB8X.out
 have hm8 := n_cells H8.out.h14
 clear hr hb hz8
 refine hK.out _ _ ⟨zs3, q4'⟩ (fun hHeld => ?_)
 clear hK K
 refine norm_ (a' := ?_) ?_ ?_
 rotate_left
 ·show Act.put _ (some 123) _ = _
  exact nrm_
 refine one_ (i := 5) (N := some 124) (bA 9 63) rfl rfl (by kernel_rfl) (by decide) (fun K hK => ?_)
 refine value_ (w1 := ?_) (v := ?_) (by rfl) rfl ?_ ?_
 rotate_left 2
 ·go_simp
  constructor
  ·rfl
  ·rfl
 refine hK.out _ _ ⟨(HandBm.cell_al (W := w8) zs3 _), (HandBm.cell_al (W := w8) q4' _)⟩ (fun hHeld => ?_)
 clear hK K
 refine norm_ (a' := ?_) ?_ ?_
 rotate_left
 ·show Act.put _ (some 124) _ = _
  exact nrm_
 refine last_ (i := 6) (N := some 125) #[true, true, true, true, true, true, true, false, false] rfl rfl (by kernel_rfl) (by decide) (fun K hK => ?_)
 refine Kd.R_append_step (Kd.slice 55 k55) (w0 := W) W.heap.size (by rfl) (.tmp 120) (.tmp 124) 23 37 (.slice none 0 0) 24 rfl Try.underlying23 HandBl.info37 rfl (by decide) (by omega) (.slice WS ss.length wsc) ss (ofL L) [.slice A2 (ofL L).length c2] (fun _ => True) (fun k => True ∧ some k ≠ (Value.slice WS ss.length wsc).ownBlock) rfl rfl (Kd.M_row (Kd.R_apartR (Kd.R_lower HN4.out (by have := H7.out.hB.below.size; show _ ≤ w7.drew.heap.size; simpa using this)) (by have h := H8.out.hA.s; rw [HES.out] at h; exact h) (by decide))) (fun _ hk => hk) (fun _ _ => trivial) (by have h := H8.out.hA.s; rw [HES.out] at h; exact h) H8.out.hB.below H8.out.hB.below.size (by have := HSL.out; omega) ?_
 intro z1 w9 ho hb hg hat
 obtain ⟨AZ, cz, ez, _, _⟩ := Kd.R_reads ho
 rw [show (ss ++ [ofL L]).length = ss.length + 1 by simp] at ez
 subst ez
 have b9 := blk_grown H8.out.hA.box (by rw [HES.out]; exact hg) (Kd.R_ne H8.out.hA.s H8.out.hA.box (by decide))
 have c9 : w9.cell? ⟨W.heap.size + 1, 1, none⟩ = some ws := (blk_cell b9 1).trans rfl
 have f9 := blk_frozen b9 1
 have HP0 := Aside0.mk (ST.pushedSet H8.out ho hb (by rw [HES.out]; exact hg) (by rw [HES.out]; exact hat))
 clear ho hb hg hat b9
 refine hK.out _ _ ?_
 clear hK K
 refine norm_ (a' := ?_) ?_ ?_
 rotate_left
 ·show Act.put _ (some 125) _ = _
  exact nrm_
 refine pq_ (i := 7) (n := 126) (bA 9 255) (by kernel_rfl) ?_
 refine last_ (i := 8) (N := none) #[true, true, true, true, true, true, true, true, true] rfl rfl (by kernel_rfl) (by decide) (fun K hK => ?_)
 refine skip_ (w1 := ?_) (by rfl) rfl ?_ ?_
 rotate_left
 ·go_simp
  rfl
 refine hK.out _ _ ?_
 clear hK K
 refine done_ (by kernel_rfl) ?_
 have HQ := HP0.out
 generalize hw10 : (w9.setCell ⟨W.heap.size + 1, 1, none⟩ (.slice AZ (ss.length + 1) cz)) = w10 at HQ ⊢
 clear hw10 HP0 H7 zz0 zz1 zz2 zt1 zs3 m0 m1 m2 m3 m4 m5 hm8 H8 c9 f9
 have H7 := Aside0.mk HQ
 have z7 := HQ.hA.box
 rw [HEW.out] at z7
 obtain ⟨zz0, zz1, zz2⟩ := cells25 z7
 obtain ⟨m0, m1, m2, m3, m4, m5⟩ := n_cells HQ.h14
 clear HQ z7
 go_wp2_with (at_builtin; refine Kd.R_append k41 (w0 := W) W.heap.size rfl (.tmp 200) (.tmp 202) 22 41 (.agg #[(.int .i64 0), (.int .i64 0), (.int .i64 0), (.int .i64 0), (.int .i64 0), (.int .i64 0)]) 48 rfl Try.underlying22 HandBl.info41 rfl (by decide) (by omega) (.slice WA ns.length wc) ns ⟨2, 0, 0, 0, 0, (ss.length : Int)⟩ [.int .i64 2, .int .i64 0, .int .i64 0, .int .i64 0, .int .i64 0, .int .i64 (ss.length : Int)] (fun _ => True) (fun _ => False) rfl rfl (k41_mkM _ _ _ ⟨2, 0, 0, 0, 0, (ss.length : Int)⟩) (fun _ hk => hk.elim) (fun _ _ => trivial) (by have h := H7.out.hA.n; rw [HEW.out] at h; exact h) H7.out.hB.below H7.out.hB.below.size (by have := HLT.out; omega) ?_; intro z1 w11 ho hb hg hat; obtain ⟨AZ, cz, ez, _, _⟩ := Kd.R_reads ho; rw [show (ns ++ [(⟨2, 0, 0, 0, 0, (ss.length : Int)⟩ : S41)]).length = ns.length + 1 by simp] at ez; subst ez; have hpush := WAt.pushed H7.out.hB H7.out.hA ho hb (by rw [HEW.out]; exact hg) (by rw [HEW.out]; exact hat); have b9 := blk_grown H7.out.hA.box (by rw [HEW.out]; exact hg) (Kd.R_ne H7.out.hA.n H7.out.hA.box (by decide)); have c9 : w11.cell? ⟨W.heap.size + 1, 0, none⟩ = some wn := (blk_cell b9 0).trans rfl; have f9 := blk_frozen b9 0; have HP := Aside0.mk hpush; clear ho hb hg hat hpush b9)
 apply HQ.out
 exact LI.next HP.out.1 HP.out.2 (HF.out.pushSet (ofL L) HLT.out (by have h1 := HNS.out; have h2 := HXJ.out; have h3 := HL.out; omega) ((rightL_iff _ 0 (Int.le_refl _)).2 (ofL_St L)) (by have h1 := PfR.ofL_len L; have h2 := HL20.out; omega)) (by have := HNS.out; simp; omega) (by have := HNS.out; simp; omega)
end Go.Proofs.Ytbgoaigbkfibbaa.HandKa

/- ArenaBuilds: kinds of acts. No condition beyond the state. -/
set_option linter.unusedSimpArgs false
set_option linter.unusedVariables false
namespace Go.Proofs.Ytbgoaigbkfibbaa.HandKb
open Go.RowKit Go.Proofs.YtbgoaigbkfibbaaW.PrintWords Go.Proofs.YtbgoaigbkfibbaaW.PrintLast Go.Proofs.YtbgoaigbkfibbaaW.PrintMore Go.Proofs.Ytbgoaigbkfibbaa.PA Go.Proofs.Ytbgoaigbkfibbaa.HandRight Go.Proofs.Ytbgoaigbkfibbaa.HandBl Go.Proofs.Ytbgoaigbkfibbaa.HandBm Go.Proofs.Ytbgoaigbkfibbaa.HandBo Go.Proofs.Ytbgoaigbkfibbaa.HandGraft Go.Proofs.Ytbgoaigbkfibbaa.HandGraftN Go.Proofs.Ytbgoaigbkfibbaa.HandWant Go.Proofs.Ytbgoaigbkfibbaa.HandSt Go.Proofs.Ytbgoaigbkfibbaa.HandAlive Go.Proofs.Ytbgoaigbkfibbaa.PfT Go.Proofs.Ytbgoaigbkfibbaa.PfF Go.Proofs.Ytbgoaigbkfibbaa.PfC Go.Proofs.Ytbgoaigbkfibbaa.PfG Go.Proofs.Ytbgoaigbkfibbaa.Sets Go.Proofs.Ytbgoaigbkfibbaa.HandEnd Go.Proofs.Ytbgoaigbkfibbaa.HandTree
open Go.Proofs.Ytbgoaigbkfibbaa.HandSame (cells25 two_boxes arena_Same.f arena_Same.calls)
open Go.Proofs.Ytbgoaigbkfibbaa.HandAt (N41 Z41 n_cells new_cells new_frozen)
open Go.Proofs.Ytbgoaigbkfibbaa.HandLi
attribute [local go_sem high] eqA41
set_option maxRecDepth 100000 in
set_option maxHeartbeats 8000000 in
theorem kind_2 (W : World) (l : List S39) (c : Nat) (ad : Addr) (root : Int) (j : Nat) (x : Int) (ns : List S41) (ss : List (List S55)) (u v wn ws : Value) (r : Int) (WA : Option Addr) (wc b8 : Nat) (w5 : World) (a0 a1 a2 a3 : Int) (A4 : Option Addr) (c4 : Nat) (L : List S55) (A5 : Option Addr) (c5 : Nat) (la : List S41) (A6 : Option Addr) (c6 : Nat) (sa : List (List S55)) (ra : Int) (bx by_ : Bool) (x2 x3 x4 x7 x12 x13 x14 x15 x16 x17 x18 x19 x20 x21 x22 x23 x24 x25 x26 x27 x28 x29 x30 x31 x32 x33 x34 x35 x36 x37 x38 x39 x40 x41 x42 x43 x44 x45 x46 x47 x48 x49 x50 x51 x52 x53 x54 x55 x56 x57 x58 x59 x60 x61 x62 x63 x64 x65 x66 x67 x68 x69 x70 x71 x72 x73 x74 x75 x76 x77 x78 x79 x80 x81 x82 x83 x84 x85 x86 x87 x88 x89 x90 x91 x92 x93 x94 x95 x96 x97 x98 x99 x100 x101 x102 x103 x104 x105 x106 x107 x108 x109 x110 x111 x112 x113 x114 x115 x116 x117 x118 x119 x120 x121 x122 x123 x124 x125 x126 x127 x128 x129 x130 x131 x132 x133 x134 x135 x136 x137 x138 x139 x140 x141 x142 x143 x144 x145 x146 x147 x148 x149 x150 x151 x152 x153 x154 x155 x156 x157 x158 x159 x160 x161 x162 x163 x164 x165 x166 x167 x168 x169 x170 x171 x172 x173 x174 x175 x176 x177 x178 x179 x180 x181 x182 x183 x184 x185 x186 x187 x188 x189 x190 x191 x192 x193 x194 x195 x196 x197 x198 x199 x200 x201 x202 x203 x204 x205 x206 x207 x208 x209 x210 x211 x212 x213 x214 x215 x216 x217 x218 x219 x220 x221 x222 x223 x224 x225 x226 x227 x228 x229 x230 x231 x232 x233 x234 x235 x236 x237 x238 x239 x240 x241 x242 x243 x244 x245 x246 x247 x248 x249 x250 x251 x252 x253 x254 x255 x256 x257 x258 x259 x260 x261 x262 x263 x264 x265 x266 x267 x268 x269 x270 x271 x272 x273 x274 x275 x276 x277 x278 x279 x280 x281 x282 x283 x284 x285 x286 x287 x288 x289 x290 x291 x292 x293 x294 x295 x296 x297 x298 x299 x300 x301 x302 x303 x304 x305 x306 : Value) (C : Code) (K1 K2 K3 : Act → World → Prop) (hC : Try.f4.body.bind (pick 12) = some C) (HQ : Aside0 (∀ (y12 y13 y14 y15 y16 y63 y64 y65 y66 y67 y68 y69 y70 y71 y72 y73 y74 y75 y76 y77 y78 y79 y80 y81 y82 y83 y84 y85 y86 y87 y88 y89 y90 y91 y92 y93 y94 y95 y96 y97 y98 y99 y100 y101 y102 y103 y104 y105 y106 y107 y108 y109 y110 y111 y112 y113 y114 y115 y116 y117 y118 y119 y120 y121 y122 y123 y124 y125 y126 y127 y128 y129 y130 y131 y132 y133 y134 y135 y136 y137 y138 y139 y140 y141 y142 y143 y144 y145 y146 y147 y148 y149 y150 y151 y152 y153 y154 y155 y156 y157 y158 y159 y160 y161 y162 y163 y164 y165 y166 y167 y168 y169 y170 y171 y172 y173 y174 y175 y176 y177 y178 y179 y180 y181 y182 y183 y184 y185 y186 y187 y188 y189 y190 y191 y192 y193 y194 y195 y196 y197 y198 y199 y200 y201 y202 y203 y204 : Value) (w' : World), LI W W.heap.size (W.heap.size + 1) (j + 1) w' → K1 ⟨#[.slice (some ad) l.length c, .int .i64 root, x2, x3, x4, .pointer (some ⟨W.heap.size, 0, none⟩), .pointer (some ⟨W.heap.size + 1, 0, none⟩), x7, .pointer (some ⟨b8, 0, none⟩), .int .i64 (ns.length : Int), .bool bx, .bool by_, y12, y13, y14, y15, y16, x17, x18, x19, x20, x21, x22, x23, x24, x25, x26, x27, x28, x29, x30, x31, x32, x33, x34, x35, x36, x37, x38, x39, x40, x41, x42, x43, x44, x45, x46, x47, x48, x49, x50, x51, x52, x53, x54, x55, x56, x57, x58, x59, x60, x61, x62, y63, y64, y65, y66, y67, y68, y69, y70, y71, y72, y73, y74, y75, y76, y77, y78, y79, y80, y81, y82, y83, y84, y85, y86, y87, y88, y89, y90, y91, y92, y93, y94, y95, y96, y97, y98, y99, y100, y101, y102, y103, y104, y105, y106, y107, y108, y109, y110, y111, y112, y113, y114, y115, y116, y117, y118, y119, y120, y121, y122, y123, y124, y125, y126, y127, y128, y129, y130, y131, y132, y133, y134, y135, y136, y137, y138, y139, y140, y141, y142, y143, y144, y145, y146, y147, y148, y149, y150, y151, y152, y153, y154, y155, y156, y157, y158, y159, y160, y161, y162, y163, y164, y165, y166, y167, y168, y169, y170, y171, y172, y173, y174, y175, y176, y177, y178, y179, y180, y181, y182, y183, y184, y185, y186, y187, y188, y189, y190, y191, y192, y193, y194, y195, y196, y197, y198, y199, y200, y201, y202, y203, y204, x205, x206, x207, x208, x209, x210, x211, x212, x213, x214, x215, x216, x217, x218, x219, x220, x221, x222, x223, x224, x225, x226, x227, x228, x229, x230, x231, x232, x233, x234, x235, x236, x237, x238, x239, x240, x241, x242, x243, x244, x245, x246, x247, x248, x249, x250, x251, x252, x253, x254, x255, x256, x257, x258, x259, x260, x261, x262, x263, x264, x265, x266, x267, x268, x269, x270, x271, x272, x273, x274, x275, x276, x277, x278, x279, x280, x281, x282, x283, x284, x285, x286, x287, x288, x289, x290, x291, x292, x293, x294, x295, x296, x297, x298, x299, x300, x301, x302, x303, x304, x305, x306], []⟩ w')) (HL : Aside0 (l.length ≤ 30)) (HXJ : Aside0 (x = (j : Int) ∧ j < l.length)) (HF : Aside0 (Fine ns ss)) (HNS : Aside0 (ns.length ≤ 60 * j ∧ ss.length ≤ 60 * j)) (HLT : Aside0 (ns.length < 4096)) (HEW : Aside0 (wn = .slice WA ns.length wc)) (HAW5 : Aside0 (WAt W.heap.size (W.heap.size + 1) u v wn ws r ns ss w5)) (HB35 : Aside0 (Below W.heap.size W w5)) (HG4 : Aside0 (L.length ≤ c4 ∧ Kd.C k55 W A4 L.length L)) (HG5 : Aside0 (la.length ≤ c5 ∧ Kd.C k41 W A5 la.length la)) (HG6 : Aside0 (sa.length ≤ c6 ∧ Kd.C (Kd.slice 55 k55) W A6 sa.length sa)) (HL20 : Aside0 (L.length ≤ 20)) (HNEAR : Aside0 (Near la sa)) (HST : Aside0 (ST W W.heap.size (W.heap.size + 1) w5.heap.size u v wn ws r ns ss ns ss (.cells #[.int .i64 0, .int .i64 0, .int .i64 0, .int .i64 0, .int .i64 0, .int .i64 0] 41 (0, 0)) (w5.alloc (.cells #[.int .i64 0, .int .i64 0, .int .i64 0, .int .i64 0, .int .i64 0, .int .i64 0] 41 (0, 0))))) (HB86 : Aside0 ((w5.alloc (.cells #[.int .i64 0, .int .i64 0, .int .i64 0, .int .i64 0, .int .i64 0, .int .i64 0] 41 (0, 0))).heap[b8]? = some (.cells #[.int .i64 a0, .int .i64 a1, .int .i64 a2, .int .i64 a3, .slice A4 L.length c4, .slice A5 la.length c5, .slice A6 sa.length c6, .int .i64 ra] 39 (0, 0)))) (hbx : bx = decide (0 ≤ a1 ∧ a1 < (ns.length : Int))) (hby : by_ = decide (0 ≤ a2 ∧ a2 < (ns.length : Int))) (k2 : a0 = 2) :
  Code.wp Try.prog C (Exit.inBlock 1 (Exit.then K1 (Exit.then K2 (Exit.inBlock 0 (Exit.then K3 (bodyPost Try.prog Try.f4 fun e W' => e = .returned (.bool true) ∧ Below W.heap.size W W')))))) ⟨#[.slice (some ad) l.length c, .int .i64 root, x2, x3, x4, .pointer (some ⟨W.heap.size, 0, none⟩), .pointer (some ⟨W.heap.size + 1, 0, none⟩), x7, .pointer (some ⟨b8, 0, none⟩), .int .i64 (ns.length : Int), .bool bx, .bool by_, x12, x13, x14, x15, x16, x17, x18, x19, x20, x21, x22, x23, x24, x25, x26, x27, x28, x29, x30, x31, x32, x33, x34, x35, x36, x37, x38, x39, x40, x41, x42, x43, x44, x45, x46, x47, x48, x49, x50, x51, x52, x53, x54, x55, x56, x57, x58, x59, x60, x61, x62, x63, x64, x65, x66, x67, x68, x69, x70, x71, x72, x73, x74, x75, x76, x77, x78, x79, x80, x81, x82, x83, x84, x85, x86, x87, x88, x89, x90, x91, x92, x93, x94, x95, x96, x97, x98, x99, x100, x101, x102, x103, x104, x105, x106, x107, x108, x109, x110, x111, x112, x113, x114, x115, x116, x117, x118, x119, x120, x121, x122, x123, x124, x125, x126, x127, x128, x129, x130, x131, x132, x133, x134, x135, x136, x137, x138, x139, x140, x141, x142, x143, x144, x145, x146, x147, x148, x149, x150, x151, x152, x153, x154, x155, x156, x157, x158, x159, x160, x161, x162, x163, x164, x165, x166, x167, x168, x169, x170, x171, x172, x173, x174, x175, x176, x177, x178, x179, x180, x181, x182, x183, x184, x185, x186, x187, x188, x189, x190, x191, x192, x193, x194, x195, x196, x197, x198, x199, x200, x201, x202, x203, x204, x205, x206, x207, x208, x209, x210, x211, x212, x213, x214, x215, x216, x217, x218, x219, x220, x221, x222, x223, x224, x225, x226, x227, x228, x229, x230, x231, x232, x233, x234, x235, x236, x237, x238, x239, x240, x241, x242, x243, x244, x245, x246, x247, x248, x249, x250, x251, x252, x253, x254, x255, x256, x257, x258, x259, x260, x261, x262, x263, x264, x265, x266, x267, x268, x269, x270, x271, x272, x273, x274, x275, x276, x277, x278, x279, x280, x281, x282, x283, x284, x285, x286, x287, x288, x289, x290, x291, x292, x293, x294, x295, x296, x297, x298, x299, x300, x301, x302, x303, x304, x305, x306], []⟩ w5 := by
 have hC2 := hC.symm
 conv at hC2 => rhs; whnf
 injection hC2 with hC2
 subst hC2
 clear hC
 obtain ⟨q0, q1, q2, q3, q4, q5, q6, q7⟩ := cells39 HB86.out
 have HSTD := Aside0.mk (HST.out.under (below_drew1 (Below.refl _ _)))
 have HB8D : Aside0 ((w5.alloc (.cells #[.int .i64 0, .int .i64 0, .int .i64 0, .int .i64 0, .int .i64 0, .int .i64 0] 41 (0, 0))).drew.heap[b8]? = some (.cells #[.int .i64 a0, .int .i64 a1, .int .i64 a2, .int .i64 a3, .slice A4 L.length c4, .slice A5 la.length c5, .slice A6 sa.length c6, .int .i64 ra] 39 (0, 0))) := ⟨blk_drew HB86.out⟩
 subst k2
 have HTB : Aside0 (thereB ns.length [a1, a2] = (bx && by_)) := ⟨by rw [hbx, hby]; simp [thereB]⟩
 cases bx with
 | true =>
  cases by_ with
  | true =>
   have HTH : Aside0 (thereB ns.length [a1, a2] = true) := ⟨by rw [HTB.out]; rfl⟩
   have HBX : Aside0 (0 ≤ a1 ∧ a1 < (ns.length : Int)) := ⟨of_decide_eq_true hbx.symm⟩
   have HBY : Aside0 (0 ≤ a2 ∧ a2 < (ns.length : Int)) := ⟨of_decide_eq_true hby.symm⟩
   clear hbx hby
   go_wp2_with fail
   refine start_ (n := 18) (S := fun w' => w'.cell? ⟨b8, 1, none⟩ = some (.int .i64 a1) ∧ w'.cell? ⟨b8, 2, none⟩ = some (.int .i64 a2)) (ds := [17]) #[false, false, false, false, false, false, false, false, false, false, false, false, false, false, false, false, false, false] (by kernel_rfl) rfl rfl ⟨q1, q2⟩ (fun hHeld => ?_)
   refine pq_ (i := 0) (n := 129) (bA 18 1) (by kernel_rfl) ?_
   refine pq_ (i := 1) (n := 130) (bA 18 3) (by kernel_rfl) ?_
   refine pq_ (i := 3) (n := 132) (bA 18 11) (by kernel_rfl) ?_
   refine pq_ (i := 6) (n := 135) (bA 18 75) (by kernel_rfl) ?_
   refine pq_ (i := 10) (n := 139) (bA 18 1099) (by kernel_rfl) ?_
   refine pq_ (i := 12) (n := 141) (bA 18 5195) (by kernel_rfl) ?_
   refine take_ (i := 2) (N := some 131) (v := ?_) (a' := ?_) (bA 18 5199) rfl rfl (by kernel_rfl) (fun _ _ _ h => h) (Or.inl ⟨by rfl, ?_⟩) hHeld ?_ ?_
   rotate_left
   ·rintro w' ⟨s0, s1⟩
    go_simp
    with_reducible rfl
   rotate_left
   ·exact nrm_
   refine take_ (i := 4) (N := some 133) (v := ?_) (a' := ?_) (bA 18 5215) rfl rfl (by kernel_rfl) (fun _ _ _ h => h) (Or.inl ⟨by rfl, ?_⟩) hHeld ?_ ?_
   rotate_left
   ·rintro w' ⟨s0, s1⟩
    go_simp
    with_reducible rfl
   rotate_left
   ·exact nrm_
   refine take_ (i := 11) (N := some 140) (v := ?_) (a' := ?_) (bA 18 7263) rfl rfl (by kernel_rfl) (fun _ _ _ h => h) (Or.inl ⟨by rfl, ?_⟩) hHeld ?_ ?_
   rotate_left
   ·rintro w' ⟨s0, s1⟩
    go_simp
    with_reducible rfl
   rotate_left
   ·exact nrm_
   refine take_ (i := 13) (N := some 142) (v := ?_) (a' := ?_) (bA 18 15455) rfl rfl (by kernel_rfl) (fun _ _ _ h => h) (Or.inl ⟨by rfl, ?_⟩) hHeld ?_ ?_
   rotate_left
   ·rintro w' ⟨s0, s1⟩
    go_simp
    with_reducible rfl
   rotate_left
   ·exact nrm_
   refine pq_ (i := 14) (n := 143) (bA 18 31839) (by kernel_rfl) ?_
   refine one_ (i := 5) (N := some 134) (bA 18 31871) rfl rfl (by kernel_rfl) (by decide) (fun K hK => ?_)
   refine goes_ Try.func20 (by kernel_rfl) rfl #[.pointer (some ⟨W.heap.size, 0, none⟩), .int .i64 a1, .int .i64 a2] (by rfl) rfl rfl (by simp only [List.map_toArray, List.map_cons, List.map_nil]; rfl) ?_
   with_reducible refine (cat_calls W W.heap.size u v ns ss a1 a2 _ HSTD.out.hB HLT.out HTH.out).mono ?_
   rintro e w6 ⟨rfl, hf⟩
   refine ⟨_, rfl, ?_⟩
   obtain ⟨u6, v6, h6, k6⟩ := HSTD.out.call hf
   clear hf
   have HB6 := Aside0.mk (below_then HB35.out HB35.out.size (Below.refl _ _))
   have H6 := Aside0.mk h6
   have HB88 := Aside0.mk (k6 _ _ _ HB8D.out (by decide) (by decide) (by decide))
   obtain ⟨y0, y1, y2, y3, y4, y5⟩ := new_cells H6.out.h14
   obtain ⟨f0, f1, f2, f3, f4, f5⟩ := new_frozen H6.out.h14
   have h7 := H6.out.store (3) (a1) (a2) (0) (0) (0)
   unfold ch6 at h7
   have H7 := Aside0.mk h7
   have z7 := H7.out.hA.box
   rw [HEW.out] at z7
   obtain ⟨zz0, zz1, zz2⟩ := cells25 z7
   obtain ⟨m0, m1, m2, m3, m4, m5⟩ := n_cells H7.out.h14
   have x0 := fun o => HandBm.cell_al m0 o
   clear h6 k6 h7 z7 x0
   clear q0 q1 q2 q3 q4 q5 q6 q7
   obtain ⟨q0, q1, q2, q3, q4, q5, q6, q7⟩ := cells39 HB88.out
   refine hK.out _ _ ⟨q1, q2⟩ (fun hHeld => ?_)
   clear hK K
   refine norm_ (a' := ?_) ?_ ?_
   rotate_left
   ·show Act.put _ (some 134) _ = _
    exact nrm_
   refine pq_ (i := 7) (n := 136) (bA 18 31999) (by kernel_rfl) ?_
   refine pq_ (i := 8) (n := 137) (bA 18 32255) (by kernel_rfl) ?_
   refine pq_ (i := 9) (n := 138) (bA 18 32767) (by kernel_rfl) ?_
   refine pq_ (i := 15) (n := 12) (bA 18 65535) (by kernel_rfl) ?_
   refine pq_ (i := 16) (n := 13) (bA 18 131071) (by kernel_rfl) ?_
   refine last_ (i := 17) (N := none) #[true, true, true, true, true, true, true, true, true, true, true, true, true, true, true, true, true, true] rfl rfl (by kernel_rfl) (by decide) (fun K hK => ?_)
   refine skip_ (w1 := ?_) (by rfl) rfl ?_ ?_
   rotate_left
   ·go_simp
    rfl
   refine hK.out _ _ ?_
   clear hK K
   refine done_ (by kernel_rfl) ?_
   generalize hw7 : ((((((w6.setCell ⟨w5.heap.size, 0, none⟩ (.int .i64 3)).setCell ⟨w5.heap.size, 1, none⟩ (.int .i64 a1)).setCell ⟨w5.heap.size, 2, none⟩ (.int .i64 a2)).setCell ⟨w5.heap.size, 3, none⟩ (.int .i64 0)).setCell ⟨w5.heap.size, 4, none⟩ (.int .i64 0)).setCell ⟨w5.heap.size, 5, none⟩ (.int .i64 0)) = w7 at H7 zz0 zz1 zz2 m0 m1 m2 m3 m4 m5 ⊢
   clear hw7 y0 y1 y2 y3 y4 y5 f0 f1 f2 f3 f4 f5 q0 q1 q2 q3 q4 q5 q6 q7
   go_wp2_with (at_builtin; refine Kd.R_append k41 (w0 := W) W.heap.size rfl (.tmp 200) (.tmp 202) 22 41 (.agg #[(.int .i64 0), (.int .i64 0), (.int .i64 0), (.int .i64 0), (.int .i64 0), (.int .i64 0)]) 48 rfl Try.underlying22 HandBl.info41 rfl (by decide) (by omega) (.slice WA ns.length wc) ns ⟨3, a1, a2, 0, 0, 0⟩ [.int .i64 3, .int .i64 a1, .int .i64 a2, .int .i64 0, .int .i64 0, .int .i64 0] (fun _ => True) (fun _ => False) rfl rfl (k41_mkM _ _ _ ⟨3, a1, a2, 0, 0, 0⟩) (fun _ hk => hk.elim) (fun _ _ => trivial) (by have h := H7.out.hA.n; rw [HEW.out] at h; exact h) H7.out.hB.below H7.out.hB.below.size (by have := HLT.out; omega) ?_; intro z1 w9 ho hb hg hat; obtain ⟨AZ, cz, ez, _, _⟩ := Kd.R_reads ho; rw [show (ns ++ [(⟨3, a1, a2, 0, 0, 0⟩ : S41)]).length = ns.length + 1 by simp] at ez; subst ez; have hpush := WAt.pushed H7.out.hB H7.out.hA ho hb (by rw [HEW.out]; exact hg) (by rw [HEW.out]; exact hat); have b9 := blk_grown H7.out.hA.box (by rw [HEW.out]; exact hg) (Kd.R_ne H7.out.hA.n H7.out.hA.box (by decide)); have c9 : w9.cell? ⟨W.heap.size + 1, 0, none⟩ = some wn := (blk_cell b9 0).trans rfl; have f9 := blk_frozen b9 0; have HP := Aside0.mk hpush; clear ho hb hg hat hpush b9)
   apply HQ.out
   exact LI.next HP.out.1 HP.out.2 (HF.out.push (⟨3, a1, a2, 0, 0, 0⟩ : S41) HLT.out (by have h1 := HBX.out; have h2 := HBY.out; simp [rightN]; omega)) (by have := HNS.out; simp; omega) (by have := HNS.out; omega)
  | false =>
   clear hbx hby
   have HTH : Aside0 (thereB ns.length [a1, a2] = false) := ⟨by rw [HTB.out]; rfl⟩
   go_wp2_with fail
   refine start_ (n := 18) (S := fun w' => w'.cell? ⟨b8, 1, none⟩ = some (.int .i64 a1) ∧ w'.cell? ⟨b8, 2, none⟩ = some (.int .i64 a2)) (ds := [17]) #[false, false, false, false, false, false, false, false, false, false, false, false, false, false, false, false, false, false] (by kernel_rfl) rfl rfl ⟨q1, q2⟩ (fun hHeld => ?_)
   refine pq_ (i := 0) (n := 129) (bA 18 1) (by kernel_rfl) ?_
   refine pq_ (i := 1) (n := 130) (bA 18 3) (by kernel_rfl) ?_
   refine pq_ (i := 3) (n := 132) (bA 18 11) (by kernel_rfl) ?_
   refine pq_ (i := 6) (n := 135) (bA 18 75) (by kernel_rfl) ?_
   refine pq_ (i := 10) (n := 139) (bA 18 1099) (by kernel_rfl) ?_
   refine pq_ (i := 12) (n := 141) (bA 18 5195) (by kernel_rfl) ?_
   refine take_ (i := 2) (N := some 131) (v := ?_) (a' := ?_) (bA 18 5199) rfl rfl (by kernel_rfl) (fun _ _ _ h => h) (Or.inl ⟨by rfl, ?_⟩) hHeld ?_ ?_
   rotate_left
   ·rintro w' ⟨s0, s1⟩
    go_simp
    with_reducible rfl
   rotate_left
   ·exact nrm_
   refine take_ (i := 4) (N := some 133) (v := ?_) (a' := ?_) (bA 18 5215) rfl rfl (by kernel_rfl) (fun _ _ _ h => h) (Or.inl ⟨by rfl, ?_⟩) hHeld ?_ ?_
   rotate_left
   ·rintro w' ⟨s0, s1⟩
    go_simp
    with_reducible rfl
   rotate_left
   ·exact nrm_
   refine take_ (i := 11) (N := some 140) (v := ?_) (a' := ?_) (bA 18 7263) rfl rfl (by kernel_rfl) (fun _ _ _ h => h) (Or.inl ⟨by rfl, ?_⟩) hHeld ?_ ?_
   rotate_left
   ·rintro w' ⟨s0, s1⟩
    go_simp
    with_reducible rfl
   rotate_left
   ·exact nrm_
   refine take_ (i := 13) (N := some 142) (v := ?_) (a' := ?_) (bA 18 15455) rfl rfl (by kernel_rfl) (fun _ _ _ h => h) (Or.inl ⟨by rfl, ?_⟩) hHeld ?_ ?_
   rotate_left
   ·rintro w' ⟨s0, s1⟩
    go_simp
    with_reducible rfl
   rotate_left
   ·exact nrm_
   refine pq_ (i := 14) (n := 143) (bA 18 31839) (by kernel_rfl) ?_
   refine one_ (i := 5) (N := some 134) (bA 18 31871) rfl rfl (by kernel_rfl) (by decide) (fun K hK => ?_)
   refine goes_ Try.func20 (by kernel_rfl) rfl #[.pointer (some ⟨W.heap.size, 0, none⟩), .int .i64 a1, .int .i64 a2] (by rfl) rfl rfl (by simp only [List.map_toArray, List.map_cons, List.map_nil]; rfl) ?_
   with_reducible refine (cat_not W W.heap.size u v ns ss a1 a2 _ HSTD.out.hB HLT.out HTH.out).mono ?_
   rintro e w6 ⟨rfl, hf⟩
   refine ⟨_, rfl, ?_⟩
   obtain ⟨u6, v6, h6, k6⟩ := HSTD.out.call hf
   clear hf
   have HB6 := Aside0.mk (below_then HB35.out HB35.out.size (Below.refl _ _))
   have H6 := Aside0.mk h6
   have HB88 := Aside0.mk (k6 _ _ _ HB8D.out (by decide) (by decide) (by decide))
   obtain ⟨y0, y1, y2, y3, y4, y5⟩ := new_cells H6.out.h14
   obtain ⟨f0, f1, f2, f3, f4, f5⟩ := new_frozen H6.out.h14
   have h7 := H6.out.store (3) (a1) (a2) (0) (0) (0)
   unfold ch6 at h7
   have H7 := Aside0.mk h7
   have z7 := H7.out.hA.box
   rw [HEW.out] at z7
   obtain ⟨zz0, zz1, zz2⟩ := cells25 z7
   obtain ⟨m0, m1, m2, m3, m4, m5⟩ := n_cells H7.out.h14
   have x0 := fun o => HandBm.cell_al m0 o
   clear h6 k6 h7 z7 x0
   clear q0 q1 q2 q3 q4 q5 q6 q7
   obtain ⟨q0, q1, q2, q3, q4, q5, q6, q7⟩ := cells39 HB88.out
   refine hK.out _ _ ⟨q1, q2⟩ (fun hHeld => ?_)
   clear hK K
   refine norm_ (a' := ?_) ?_ ?_
   rotate_left
   ·show Act.put _ (some 134) _ = _
    exact nrm_
   refine pq_ (i := 7) (n := 136) (bA 18 31999) (by kernel_rfl) ?_
   refine pq_ (i := 8) (n := 137) (bA 18 32255) (by kernel_rfl) ?_
   refine pq_ (i := 9) (n := 138) (bA 18 32767) (by kernel_rfl) ?_
   refine pq_ (i := 15) (n := 12) (bA 18 65535) (by kernel_rfl) ?_
   refine pq_ (i := 16) (n := 13) (bA 18 131071) (by kernel_rfl) ?_
   refine last_ (i := 17) (N := none) #[true, true, true, true, true, true, true, true, true, true, true, true, true, true, true, true, true, true] rfl rfl (by kernel_rfl) (by decide) (fun K hK => ?_)
   refine skip_ (w1 := ?_) (by rfl) rfl ?_ ?_
   rotate_left
   ·go_simp
    rfl
   refine hK.out _ _ ?_
   clear hK K
   refine done_ (by kernel_rfl) ?_
   generalize hw7 : ((((((w6.setCell ⟨w5.heap.size, 0, none⟩ (.int .i64 3)).setCell ⟨w5.heap.size, 1, none⟩ (.int .i64 a1)).setCell ⟨w5.heap.size, 2, none⟩ (.int .i64 a2)).setCell ⟨w5.heap.size, 3, none⟩ (.int .i64 0)).setCell ⟨w5.heap.size, 4, none⟩ (.int .i64 0)).setCell ⟨w5.heap.size, 5, none⟩ (.int .i64 0)) = w7 at H7 zz0 zz1 zz2 m0 m1 m2 m3 m4 m5 ⊢
   clear hw7 y0 y1 y2 y3 y4 y5 f0 f1 f2 f3 f4 f5 q0 q1 q2 q3 q4 q5 q6 q7
   go_wp2_with (go_at_call 26; (refine (len_calls W W.heap.size _ _ ns ss _ H7.out.hB).mono ?_); rintro e w8 ⟨rfl, rfl⟩)
   apply HQ.out
   exact LI.next H7.out.hB H7.out.hA HF.out (by have := HNS.out; omega) (by have := HNS.out; omega)
 | false =>
  clear hbx hby
  have HTH : Aside0 (thereB ns.length [a1, a2] = false) := ⟨by rw [HTB.out]; rfl⟩
  go_wp2_with fail
  refine start_ (n := 18) (S := fun w' => w'.cell? ⟨b8, 1, none⟩ = some (.int .i64 a1) ∧ w'.cell? ⟨b8, 2, none⟩ = some (.int .i64 a2)) (ds := [17]) #[false, false, false, false, false, false, false, false, false, false, false, false, false, false, false, false, false, false] (by kernel_rfl) rfl rfl ⟨q1, q2⟩ (fun hHeld => ?_)
  refine pq_ (i := 0) (n := 129) (bA 18 1) (by kernel_rfl) ?_
  refine pq_ (i := 1) (n := 130) (bA 18 3) (by kernel_rfl) ?_
  refine pq_ (i := 3) (n := 132) (bA 18 11) (by kernel_rfl) ?_
  refine pq_ (i := 6) (n := 135) (bA 18 75) (by kernel_rfl) ?_
  refine pq_ (i := 10) (n := 139) (bA 18 1099) (by kernel_rfl) ?_
  refine pq_ (i := 12) (n := 141) (bA 18 5195) (by kernel_rfl) ?_
  refine take_ (i := 2) (N := some 131) (v := ?_) (a' := ?_) (bA 18 5199) rfl rfl (by kernel_rfl) (fun _ _ _ h => h) (Or.inl ⟨by rfl, ?_⟩) hHeld ?_ ?_
  rotate_left
  ·rintro w' ⟨s0, s1⟩
   go_simp
   with_reducible rfl
  rotate_left
  ·exact nrm_
  refine take_ (i := 4) (N := some 133) (v := ?_) (a' := ?_) (bA 18 5215) rfl rfl (by kernel_rfl) (fun _ _ _ h => h) (Or.inl ⟨by rfl, ?_⟩) hHeld ?_ ?_
  rotate_left
  ·rintro w' ⟨s0, s1⟩
   go_simp
   with_reducible rfl
  rotate_left
  ·exact nrm_
  refine take_ (i := 11) (N := some 140) (v := ?_) (a' := ?_) (bA 18 7263) rfl rfl (by kernel_rfl) (fun _ _ _ h => h) (Or.inl ⟨by rfl, ?_⟩) hHeld ?_ ?_
  rotate_left
  ·rintro w' ⟨s0, s1⟩
   go_simp
   with_reducible rfl
  rotate_left
  ·exact nrm_
  refine take_ (i := 13) (N := some 142) (v := ?_) (a' := ?_) (bA 18 15455) rfl rfl (by kernel_rfl) (fun _ _ _ h => h) (Or.inl ⟨by rfl, ?_⟩) hHeld ?_ ?_
  rotate_left
  ·rintro w' ⟨s0, s1⟩
   go_simp
   with_reducible rfl
  rotate_left
  ·exact nrm_
  refine pq_ (i := 14) (n := 143) (bA 18 31839) (by kernel_rfl) ?_
  refine one_ (i := 5) (N := some 134) (bA 18 31871) rfl rfl (by kernel_rfl) (by decide) (fun K hK => ?_)
  refine goes_ Try.func20 (by kernel_rfl) rfl #[.pointer (some ⟨W.heap.size, 0, none⟩), .int .i64 a1, .int .i64 a2] (by rfl) rfl rfl (by simp only [List.map_toArray, List.map_cons, List.map_nil]; rfl) ?_
  with_reducible refine (cat_not W W.heap.size u v ns ss a1 a2 _ HSTD.out.hB HLT.out HTH.out).mono ?_
  rintro e w6 ⟨rfl, hf⟩
  refine ⟨_, rfl, ?_⟩
  obtain ⟨u6, v6, h6, k6⟩ := HSTD.out.call hf
  clear hf
  have HB6 := Aside0.mk (below_then HB35.out HB35.out.size (Below.refl _ _))
  have H6 := Aside0.mk h6
  have HB88 := Aside0.mk (k6 _ _ _ HB8D.out (by decide) (by decide) (by decide))
  obtain ⟨y0, y1, y2, y3, y4, y5⟩ := new_cells H6.out.h14
  obtain ⟨f0, f1, f2, f3, f4, f5⟩ := new_frozen H6.out.h14
  have h7 := H6.out.store (3) (a1) (a2) (0) (0) (0)
  unfold ch6 at h7
  have H7 := Aside0.mk h7
  have z7 := H7.out.hA.box
  rw [HEW.out] at z7
  obtain ⟨zz0, zz1, zz2⟩ := cells25 z7
  obtain ⟨m0, m1, m2, m3, m4, m5⟩ := n_cells H7.out.h14
  have x0 := fun o => HandBm.cell_al m0 o
  clear h6 k6 h7 z7 x0
  clear q0 q1 q2 q3 q4 q5 q6 q7
  obtain ⟨q0, q1, q2, q3, q4, q5, q6, q7⟩ := cells39 HB88.out
  refine hK.out _ _ ⟨q1, q2⟩ (fun hHeld => ?_)
  clear hK K
  refine norm_ (a' := ?_) ?_ ?_
  rotate_left
  ·show Act.put _ (some 134) _ = _
   exact nrm_
  refine pq_ (i := 7) (n := 136) (bA 18 31999) (by kernel_rfl) ?_
  refine pure_ (i := 8) (N := some 137) (v := undef) (a' := ?_) (bA 18 32255) rfl rfl (by kernel_rfl) (fun _ _ _ h => h) (Or.inr ⟨by rfl, rfl⟩) ?_ ?_
  rotate_left
  ·exact nrm_
  refine pq_ (i := 9) (n := 138) (bA 18 32767) (by kernel_rfl) ?_
  refine pq_ (i := 15) (n := 12) (bA 18 65535) (by kernel_rfl) ?_
  refine pq_ (i := 16) (n := 13) (bA 18 131071) (by kernel_rfl) ?_
  refine last_ (i := 17) (N := none) #[true, true, true, true, true, true, true, true, true, true, true, true, true, true, true, true, true, true] rfl rfl (by kernel_rfl) (by decide) (fun K hK => ?_)
  refine skip_ (w1 := ?_) (by rfl) rfl ?_ ?_
  rotate_left
  ·go_simp
   rfl
  refine hK.out _ _ ?_
  clear hK K
  refine done_ (by kernel_rfl) ?_
  generalize hw7 : ((((((w6.setCell ⟨w5.heap.size, 0, none⟩ (.int .i64 3)).setCell ⟨w5.heap.size, 1, none⟩ (.int .i64 a1)).setCell ⟨w5.heap.size, 2, none⟩ (.int .i64 a2)).setCell ⟨w5.heap.size, 3, none⟩ (.int .i64 0)).setCell ⟨w5.heap.size, 4, none⟩ (.int .i64 0)).setCell ⟨w5.heap.size, 5, none⟩ (.int .i64 0)) = w7 at H7 zz0 zz1 zz2 m0 m1 m2 m3 m4 m5 ⊢
  clear hw7 y0 y1 y2 y3 y4 y5 f0 f1 f2 f3 f4 f5 q0 q1 q2 q3 q4 q5 q6 q7
  go_wp2_with (go_at_call 26; (refine (len_calls W W.heap.size _ _ ns ss _ H7.out.hB).mono ?_); rintro e w8 ⟨rfl, rfl⟩)
  apply HQ.out
  exact LI.next H7.out.hB H7.out.hA HF.out (by have := HNS.out; omega) (by have := HNS.out; omega)
end Go.Proofs.Ytbgoaigbkfibbaa.HandKb
