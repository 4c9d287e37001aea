/- The walk of the law FnLogForms: its end (texts read by both, steps). -/
import Derived.Test.YtpnpidepkfnofaaGreatDoorSam2
import Derived.Test.YtpnpidepkfnofaaGreatDoorPrt
import Derived.Test.YtpnpidepkfnofaaGreatDoorDrF
import Derived.Test.YtpnpidepkfnofaaGreatDoorDrI
import Derived.Test.YtpnpidepkfnofaaGreatDoorRest
namespace Go.Proofs.YtpnpidepkfnofaaGreatDoor
open Go.RowKit

noncomputable def restR36 : Code := (Tryz.f3.body.bind (restAt 36)).getD .skip
set_option maxRecDepth 1000000 in
set_option maxHeartbeats 4000000 in
theorem r36 {Q0 : Exit → Act → World → Prop} {x0 x2 x3 x4 x5 x6 x7 x8 x9 x10 x11 x12 x13 x14 x15 x16 x17 x18 x19 x20 x21 x22 x23 x24 x25 x26 x27 x28 x29 x30 x31 x32 x33 x34 x35 x36 x37 x38 x39 x40 x41 x42 x43 x44 x45 x46 x47 x48 x49 x50 x51 x52 x53 x54 x55 x56 x57 x58 x59 x60 x61 x62 x63 x64 x65 x66 x67 x68 x69 x70 x71 x72 x73 x74 x75 x76 x77 x78 x79 x80 x81 x82 x83 x84 x85 x86 x87 x88 x89 x90 x91 x92 x93 x94 x95 x96 x97 x98 x99 x100 x101 x102 x103 x104 x105 x106 x107 x108 x109 x110 x111 x112 x113 x114 x115 x116 x117 x118 x119 x120 x121 x122 x123 x124 x125 x126 x127 x128 x129 x130 x131 x132 x133 x134 x135 x136 x137 x138 x139 x140 x141 x142 x143 x144 x145 x146 x147 x148 x149 x150 x151 x152 x153 x154 x155 x156 x157 x158 x159 x160 x161 x162 x163 x164 x165 x166 x167 x168 x169 x170 x171 x172 x173 x174 x175 x176 x177 x178 x179 x180 x181 x182 x183 x184 x185 x186 x187 x188 x189 x190 x191 x192 x193 x194 x195 x196 x197 x198 x199 x200 x201 x202 x203 x204 x205 x206 x207 x208 x209 x210 x211 x212 x213 x214 x215 x216 x217 x218 x219 x220 x221 x222 x223 x224 x225 x226 x227 x228 x229 x230 x231 x232 x233 x234 x235 x236 x237 x238 x239 x240 x241 x242 x243 x244 x245 x246 x247 x248 x249 x250 x251 x252 x253 x254 x255 x256 x257 x258 x259 x260 x261 x262 x263 x264 x265 x266 : Value} (v1 : Value) (ys : List Int) (w : World) (r1 : RdB w w.heap.size v1 ys) (hE : PEnv w) (hret : ∀ a w', Done 4 w a w' → Q0 .ret a w') :
    Code.wp Tryz.prog restR36 Q0 ⟨(x0 :: v1 :: x2 :: x3 :: x4 :: x5 :: x6 :: x7 :: x8 :: x9 :: x10 :: x11 :: x12 :: x13 :: x14 :: x15 :: x16 :: x17 :: x18 :: x19 :: x20 :: x21 :: x22 :: x23 :: x24 :: x25 :: x26 :: x27 :: x28 :: x29 :: x30 :: x31 :: x32 :: x33 :: x34 :: x35 :: x36 :: x37 :: x38 :: x39 :: x40 :: x41 :: x42 :: x43 :: x44 :: x45 :: x46 :: x47 :: x48 :: x49 :: x50 :: x51 :: x52 :: x53 :: x54 :: x55 :: x56 :: x57 :: x58 :: x59 :: x60 :: x61 :: x62 :: x63 :: x64 :: x65 :: x66 :: x67 :: x68 :: x69 :: x70 :: x71 :: x72 :: x73 :: x74 :: x75 :: x76 :: x77 :: x78 :: x79 :: x80 :: x81 :: x82 :: x83 :: x84 :: x85 :: x86 :: x87 :: x88 :: x89 :: x90 :: x91 :: x92 :: x93 :: x94 :: x95 :: x96 :: x97 :: x98 :: x99 :: x100 :: x101 :: x102 :: x103 :: x104 :: x105 :: x106 :: x107 :: x108 :: x109 :: x110 :: x111 :: x112 :: x113 :: x114 :: x115 :: x116 :: x117 :: x118 :: x119 :: x120 :: x121 :: x122 :: x123 :: x124 :: x125 :: x126 :: x127 :: x128 :: x129 :: x130 :: x131 :: x132 :: x133 :: x134 :: x135 :: x136 :: x137 :: x138 :: x139 :: x140 :: x141 :: x142 :: x143 :: x144 :: x145 :: x146 :: x147 :: x148 :: x149 :: x150 :: x151 :: x152 :: x153 :: x154 :: x155 :: x156 :: x157 :: x158 :: x159 :: x160 :: x161 :: x162 :: x163 :: x164 :: x165 :: x166 :: x167 :: x168 :: x169 :: x170 :: x171 :: x172 :: x173 :: x174 :: x175 :: x176 :: x177 :: x178 :: x179 :: x180 :: x181 :: x182 :: x183 :: x184 :: x185 :: x186 :: x187 :: x188 :: x189 :: x190 :: x191 :: x192 :: x193 :: x194 :: x195 :: x196 :: x197 :: x198 :: x199 :: x200 :: x201 :: x202 :: x203 :: x204 :: x205 :: x206 :: x207 :: x208 :: x209 :: x210 :: x211 :: x212 :: x213 :: x214 :: x215 :: x216 :: x217 :: x218 :: x219 :: x220 :: x221 :: x222 :: x223 :: x224 :: x225 :: x226 :: x227 :: x228 :: x229 :: x230 :: x231 :: x232 :: x233 :: x234 :: x235 :: x236 :: x237 :: x238 :: x239 :: x240 :: x241 :: x242 :: x243 :: x244 :: x245 :: x246 :: x247 :: x248 :: x249 :: x250 :: x251 :: x252 :: x253 :: x254 :: x255 :: x256 :: x257 :: x258 :: x259 :: x260 :: x261 :: x262 :: x263 :: x264 :: x265 :: x266 :: []).toArray, []⟩ w := by
  have R1 := Lib.hid r1
  have HE := Lib.hid hE
  clear r1 hE
  conv => arg 2; whnf
  go_wp2_with fail
  refine (d_drawParse v1 ys _ HE.out.1 R1.out).mono ?_
  rintro e w1 ⟨s, rfl, hs, hb1⟩
  have HI := Lib.hid (fun W h => c_iParseLog s (by omega) W h)
  have HS := Lib.hid (fun W h => c_sParseLog s (by omega) W h)
  unfold PlPost at HI HS
  have hl := plR_len s
  generalize plR s = R at *
  generalize plB s = ok at *
  go_wp2_with fail
  refine (HI.out _ (PEnv.below HE.out hb1)).mono ?_
  rintro e w2 ⟨u1, rfl, o1, hb2⟩
  have bb2 := below_step hb2 hb1.size hb1
  clear HI
  go_wp2_with fail
  refine (HS.out _ (PEnv.below HE.out bb2)).mono ?_
  rintro e w3 ⟨u2, rfl, o2, hb3⟩
  have bb3 := below_step hb3 bb2.size bb2
  replace o1 := OwnsP.below o1 hb3
  clear HS hb1 hb2 hb3 bb2
  go_wp2_with fail
  refine (d_drawIsStep v1 ys _ (R1.out.later bb3)).mono ?_
  rintro e w4 ⟨kk, vv, rfl, _, hb4⟩
  have bb4 := below_step hb4 bb3.size bb3
  replace o1 := (OwnsP.below o1 hb4)
  replace o2 := (OwnsP.below o2 hb4)
  replace o1 := OwnsP.below o1 (w1 := w4.alloc (.cells #[.int .i64 kk, .int .i64 vv] 44)) ((Below.refl _ _).alloc (Nat.le_refl _) _)
  replace o2 := OwnsP.below o2 (w1 := w4.alloc (.cells #[.int .i64 kk, .int .i64 vv] 44)) ((Below.refl _ _).alloc (Nat.le_refl _) _)
  have bb5 : Below w.heap.size w (w4.alloc (.cells #[.int .i64 kk, .int .i64 vv] 44)) := bb4.alloc bb4.size _
  have kS := Blk.new w4 #[.int .i64 kk, .int .i64 vv] 44
  clear hb4 bb3 bb4
  go_upto_region 40 with (fail)
  generalize w4.alloc _ = W at *
  generalize w4.heap.size = S at *
  have lS := kS.lt
  have e0 : W.cell? ⟨S, 0, none⟩ = some (.int .i64 kk) := kS.cell 0
  have e1 : W.cell? ⟨S, 1, none⟩ = some (.int .i64 vv) := kS.cell 1
  have HQ := Lib.hid (fun W => c_iIsStep kk vv W)
  have HP := Lib.hid (fun W => c_sIsStep kk vv W)
  generalize stepB kk vv = q at HQ HP
  have HD : ∀ B1 B2 u1 u2, OwnsS W B1 u1 R → OwnsS W B2 u2 R → True := fun _ _ _ _ _ _ => trivial
  clear HD
  generalize w2.heap.size = B2 at o2
  generalize w1.heap.size = B1 at o1
  cases ok
  all_goals
    refine wp_region_cls [] (fun _ => false) (fun _ => True) (fun w' => OwnsS w' B1 u1 R ∧ OwnsS w' B2 u2 R) (by kernel_rfl) (⟨OwnsP.below o1 ((Below.refl _ _).drew), OwnsP.below o2 ((Below.refl _ _).drew)⟩) ?_
    apply wpAnyF_hd ⟨W.drew, (Over.refl _ _).drew, ⟨OwnsP.below o1 ((Below.refl _ _).drew), OwnsP.below o2 ((Below.refl _ _).drew)⟩⟩ [true, true, true, true, true, true] 10 (fun _ _ h hb => ⟨OwnsP.below h.1 hb, OwnsP.below h.2 hb⟩) (fun _ _ => trivial) (by kernel_rfl) (by kernel_rfl) (by kernel_rfl) (by kernel_rfl) (by simp)
    · intro E hE hEN hEn; (repeat (first | (refine wpHL_take ?_; go_big_quiet_step (fail); refine wpQuiet_nil ?_) | refine wpHL_skip ?_)); exact wpHL_end rfl
    refine wpAnyF_ready [6] 9 (by kernel_rfl) (by kernel_rfl) (by simp) (AllF.cons ?_ AllF.nil)
    refine stepC_call (v := .bool true) (some 258) (fun _ => True) (by rfl) (by rfl) (by rfl) (fun _ => by go_simp) (fun _ _ _ _ => trivial) (fun w' hO hD => (c_pSameSteps _ _ _ _ R (by omega) w' hD.1 hD.2).mono fun e w2 h => ⟨h.1, .of_below h.2, trivial⟩) (fun hne => ?_)
    simp only [Act.put, List.setIfInBounds_toArray, List.set_cons_succ, List.set_cons_zero]
    apply wpAnyF_hd hne [false, false, false, false, false, false, false, true, true, true, false, true] 5 (fun _ _ _ _ => trivial) (fun _ _ => trivial) (by kernel_rfl) (by kernel_rfl) (by kernel_rfl) (by kernel_rfl) (by simp)
    · intro E hE hEN hEn; (repeat (first | (refine wpHL_take ?_; go_big_quiet_step (fail); refine wpQuiet_nil ?_) | refine wpHL_skip ?_)); exact wpHL_end rfl
    refine wpAnyF_ready [10] 4 (by kernel_rfl) (by kernel_rfl) (by simp) (AllF.cons ?_ AllF.nil)
    refine stepC_call (v := .bool q) (some 262) (fun _ => True) (by rfl) (by rfl) (by rfl) (fun _ => by go_simp) (fun _ _ _ _ => trivial) (fun w' hO hD => (HQ.out w').mono fun e w2 h => ⟨h.1, .of_below h.2, trivial⟩) (fun hne => ?_)
    simp only [Act.put, List.setIfInBounds_toArray, List.set_cons_succ, List.set_cons_zero]
    refine wpAnyF_ready [12] 3 (by kernel_rfl) (by kernel_rfl) (by simp) (AllF.cons ?_ AllF.nil)
    refine stepC_call (v := .bool q) (some 264) (fun _ => True) (by rfl) (by rfl) (by rfl) (fun _ => by go_simp) (fun _ _ _ _ => trivial) (fun w' hO hD => (HP.out w').mono fun e w2 h => ⟨h.1, .of_below h.2, trivial⟩) (fun hne => ?_)
    simp only [Act.put, List.setIfInBounds_toArray, List.set_cons_succ, List.set_cons_zero]
    apply wpAnyF_hd hne [false, false, false, false, false, false, false, false, false, false, false, false, false, true, true, true] 0 (fun _ _ _ _ => trivial) (fun _ _ => trivial) (by kernel_rfl) (by kernel_rfl) (by kernel_rfl) (by kernel_rfl) (by simp)
    · intro E hE hEN hEn; (repeat (first | (refine wpHL_take ?_; go_big_quiet_step (fail); refine wpQuiet_nil ?_) | refine wpHL_skip ?_)); exact wpHL_end rfl
    refine wpAnyF_done (by kernel_rfl) (fun Wz hOz hDz => NoPanic.normal ?_) _
    try dsimp only
    go_wp2
    exact ⟨rfl, rfl, below_step hOz.below bb5.size bb5⟩
end Go.Proofs.YtpnpidepkfnofaaGreatDoor
