/- The walk of the law FnLogs: its ends. -/
import Derived.Test.YtpnpidepkfnofaaLgQ
import Derived.Test.YtpnpidepkfnofaaSam2
import Derived.Test.YtpnpidepkfnofaaIvW
import Derived.Test.YtpnpidepkfnofaaDrK
import Derived.Test.YtpnpidepkfnofaaRest
namespace Go.Proofs.Ytpnpidepkfnofaa
open Go.RowKit

noncomputable def restR32 : Code := (Try.f3.body.bind (restAt 32)).getD .skip
noncomputable def restR22 : Code := (Try.f3.body.bind (restAt 22)).getD .skip
set_option maxRecDepth 1000000 in
set_option maxHeartbeats 4000000 in
theorem r32 {Q0 : Exit → Act → World → Prop} {x0 x2 x3 x4 x5 x6 x7 x8 x9 x10 x11 x12 x13 x14 x15 x16 x17 x18 x19 x20 x21 x22 x23 x24 x25 x26 x27 x28 x29 x30 x31 x32 x33 x34 x35 x36 x37 x38 x39 x40 x41 x42 x43 x44 x45 x46 x47 x48 x49 x50 x51 x52 x53 x54 x55 x56 x57 x58 x59 x60 x61 x62 x63 x64 x65 x66 x67 x68 x69 x70 x71 x72 x73 x74 x75 x76 x77 x78 x79 x80 x81 x82 x83 x84 x85 x86 x87 x88 x89 x90 x91 x92 x93 x94 x95 x96 x97 x98 x99 x100 x101 x102 x103 x104 x105 x106 x107 x108 x109 x110 x111 x112 x113 x114 x115 x116 x117 x118 x119 x120 x121 x122 x123 x124 x125 x126 x127 x128 x129 x130 x131 x132 x133 x134 x135 x136 x137 x138 x139 x140 x141 x142 x143 x144 x145 x146 x147 x148 x149 x150 x151 x152 x153 x154 x155 x156 x157 x158 x159 x160 x161 x162 x163 x164 x165 x166 x167 x168 x169 x170 x171 x172 x173 x174 x175 x176 x177 x178 x179 x180 x181 x182 x183 x184 x185 x186 x187 x188 x189 x190 x191 x192 x193 x194 x195 x196 x197 x198 x199 x200 x201 x202 x203 x204 x205 x206 x207 x208 x209 x210 x211 x212 x213 x214 x215 x216 x217 x218 x219 x220 x221 x222 x223 x224 x225 x226 x227 x228 x229 x230 x231 x232 x233 x234 x235 x236 x237 x238 x239 x240 x241 x242 x243 x244 x245 x246 x247 x248 x249 x250 x251 x252 x253 x254 x255 x256 x257 x258 x259 x260 x261 x262 x263 x264 x265 x266 x267 x268 x269 x270 x271 x272 x273 x274 x275 x276 x277 x278 x279 x280 x281 x282 x283 x284 x285 x286 x287 x288 x289 x290 x291 x292 x293 x294 x295 x296 x297 x298 x299 x300 x301 x302 x303 x304 x305 x306 x307 x308 x309 x310 x311 x312 x313 x314 x315 x316 x317 x318 x319 x320 x321 x322 x323 x324 : Value} (v1 : Value) (ys : List Int) (w : World) (r1 : RdB w w.heap.size v1 ys) (hret : ∀ a w', Done 4 w a w' → Q0 .ret a w') :
    Code.wp Try.prog restR32 Q0 ⟨(x0 :: v1 :: x2 :: x3 :: x4 :: x5 :: x6 :: x7 :: x8 :: x9 :: x10 :: x11 :: x12 :: x13 :: x14 :: x15 :: x16 :: x17 :: x18 :: x19 :: x20 :: x21 :: x22 :: x23 :: x24 :: x25 :: x26 :: x27 :: x28 :: x29 :: x30 :: x31 :: x32 :: x33 :: x34 :: x35 :: x36 :: x37 :: x38 :: x39 :: x40 :: x41 :: x42 :: x43 :: x44 :: x45 :: x46 :: x47 :: x48 :: x49 :: x50 :: x51 :: x52 :: x53 :: x54 :: x55 :: x56 :: x57 :: x58 :: x59 :: x60 :: x61 :: x62 :: x63 :: x64 :: x65 :: x66 :: x67 :: x68 :: x69 :: x70 :: x71 :: x72 :: x73 :: x74 :: x75 :: x76 :: x77 :: x78 :: x79 :: x80 :: x81 :: x82 :: x83 :: x84 :: x85 :: x86 :: x87 :: x88 :: x89 :: x90 :: x91 :: x92 :: x93 :: x94 :: x95 :: x96 :: x97 :: x98 :: x99 :: x100 :: x101 :: x102 :: x103 :: x104 :: x105 :: x106 :: x107 :: x108 :: x109 :: x110 :: x111 :: x112 :: x113 :: x114 :: x115 :: x116 :: x117 :: x118 :: x119 :: x120 :: x121 :: x122 :: x123 :: x124 :: x125 :: x126 :: x127 :: x128 :: x129 :: x130 :: x131 :: x132 :: x133 :: x134 :: x135 :: x136 :: x137 :: x138 :: x139 :: x140 :: x141 :: x142 :: x143 :: x144 :: x145 :: x146 :: x147 :: x148 :: x149 :: x150 :: x151 :: x152 :: x153 :: x154 :: x155 :: x156 :: x157 :: x158 :: x159 :: x160 :: x161 :: x162 :: x163 :: x164 :: x165 :: x166 :: x167 :: x168 :: x169 :: x170 :: x171 :: x172 :: x173 :: x174 :: x175 :: x176 :: x177 :: x178 :: x179 :: x180 :: x181 :: x182 :: x183 :: x184 :: x185 :: x186 :: x187 :: x188 :: x189 :: x190 :: x191 :: x192 :: x193 :: x194 :: x195 :: x196 :: x197 :: x198 :: x199 :: x200 :: x201 :: x202 :: x203 :: x204 :: x205 :: x206 :: x207 :: x208 :: x209 :: x210 :: x211 :: x212 :: x213 :: x214 :: x215 :: x216 :: x217 :: x218 :: x219 :: x220 :: x221 :: x222 :: x223 :: x224 :: x225 :: x226 :: x227 :: x228 :: x229 :: x230 :: x231 :: x232 :: x233 :: x234 :: x235 :: x236 :: x237 :: x238 :: x239 :: x240 :: x241 :: x242 :: x243 :: x244 :: x245 :: x246 :: x247 :: x248 :: x249 :: x250 :: x251 :: x252 :: x253 :: x254 :: x255 :: x256 :: x257 :: x258 :: x259 :: x260 :: x261 :: x262 :: x263 :: x264 :: x265 :: x266 :: x267 :: x268 :: x269 :: x270 :: x271 :: x272 :: x273 :: x274 :: x275 :: x276 :: x277 :: x278 :: x279 :: x280 :: x281 :: x282 :: x283 :: x284 :: x285 :: x286 :: x287 :: x288 :: x289 :: x290 :: x291 :: x292 :: x293 :: x294 :: x295 :: x296 :: x297 :: x298 :: x299 :: x300 :: x301 :: x302 :: x303 :: x304 :: x305 :: x306 :: x307 :: x308 :: x309 :: x310 :: x311 :: x312 :: x313 :: x314 :: x315 :: x316 :: x317 :: x318 :: x319 :: x320 :: x321 :: x322 :: x323 :: x324 :: []).toArray, []⟩ w := by
  conv => arg 2; whnf
  go_wp2_with fail
  refine (d_drawCheck v1 ys _ r1).mono ?_
  rintro e w1 ⟨a, b, c, d, u, L, rfl, hL, hown, hb1⟩
  have k1 := Blk.new w1 #[.int .i64 a, .int .i64 b] 25
  have k2 := Blk.new (w1.alloc (.cells #[.int .i64 a, .int .i64 b] 25)) #[.int .i64 c, .int .i64 d] 25
  replace k1 := k1.alloc (.cells #[.int .i64 c, .int .i64 d] 25)
  rw [World.size_alloc] at k2
  have hb2 : Below w.heap.size w ((w1.alloc (.cells #[.int .i64 a, .int .i64 b] 25)).alloc (.cells #[.int .i64 c, .int .i64 d] 25)) := (hb1.alloc hb1.size _).alloc (by simp; have := hb1.size; omega) _
  replace hown := OwnsP.below hown (w1 := (w1.alloc (.cells #[.int .i64 a, .int .i64 b] 25)).alloc (.cells #[.int .i64 c, .int .i64 d] 25)) (((Below.refl _ _).alloc (Nat.le_refl _) _).alloc (by simp) _)
  have HI := Lib.hid (fun W ho => c_iCheckLog w.heap.size u a b L c d (by omega) W ho)
  have HS := Lib.hid (fun W ho => c_sCheckLog w.heap.size u a b L c d (by omega) W ho)
  generalize ckB a b L c d = q1 at HI HS
  generalize ckO a b L c d = q2 at HI HS
  go_upto_region 33 with (fail)
  generalize (w1.alloc _).alloc _ = W1 at k1 k2 hb2 hown ⊢
  generalize w1.heap.size + 1 = g2 at k2 ⊢
  generalize w1.heap.size = g1 at k1 ⊢
  have c0 : W1.cell? ⟨g1, 0, none⟩ = some (.int .i64 a) := k1.cell 0
  have c1 : W1.cell? ⟨g1, 1, none⟩ = some (.int .i64 b) := k1.cell 1
  have c2 : W1.cell? ⟨g2, 0, none⟩ = some (.int .i64 c) := k2.cell 0
  have c3 : W1.cell? ⟨g2, 1, none⟩ = some (.int .i64 d) := k2.cell 1
  go_wp2_with fail
  refine (HI.out _ hown).mono ?_
  rintro e w2 ⟨rfl, hb3⟩
  have bb3 := below_step hb3 hb2.size hb2
  replace hown := OwnsP.below hown hb3
  replace k1 := k1.next hb3
  replace k2 := k2.next hb3
  clear c0 c1 c2 c3 HI
  have c0 : w2.cell? ⟨g1, 0, none⟩ = some (.int .i64 a) := k1.cell 0
  have c1 : w2.cell? ⟨g1, 1, none⟩ = some (.int .i64 b) := k1.cell 1
  have c2 : w2.cell? ⟨g2, 0, none⟩ = some (.int .i64 c) := k2.cell 0
  have c3 : w2.cell? ⟨g2, 1, none⟩ = some (.int .i64 d) := k2.cell 1
  go_wp2_with fail
  refine (HS.out _ hown).mono ?_
  rintro e w3 ⟨rfl, hb4⟩
  have bb4 := below_step hb4 bb3.size bb3
  clear c0 c1 c2 c3 HS k1 k2 hown hb1 hb2 hb3 hb4
  go_wp2_with fail
  refine (d_drawApply v1 ys _ (r1.later bb4)).mono ?_
  rintro e w4 ⟨a, b, kk, vv, rfl, _, _, hb5⟩
  have k1 := (Blk.new w4 #[.int .i64 a, .int .i64 b] 25).alloc (.cells #[.int .i64 kk, .int .i64 vv] 41)
  have k2 := Blk.new (w4.alloc (.cells #[.int .i64 a, .int .i64 b] 25)) #[.int .i64 kk, .int .i64 vv] 41
  rw [World.size_alloc] at k2
  have bb5 := below_step hb5 bb4.size bb4
  have bb6 : Below w.heap.size w ((w4.alloc (.cells #[.int .i64 a, .int .i64 b] 25)).alloc (.cells #[.int .i64 kk, .int .i64 vv] 41)) := (bb5.alloc bb5.size _).alloc (by simp; have := bb5.size; omega) _
  have HI := Lib.hid (fun W => c_iApplyStep kk a b vv W)
  have HS := Lib.hid (fun W => c_sApplyStep kk a b vv W)
  generalize rs (asOk kk a b vv) (apA kk a vv) = X at HI HS
  generalize rs (asOk kk a b vv) (apB kk b vv) = Y at HI HS
  generalize asOk kk a b vv = o at HI HS
  go_upto_region 36 with (fail)
  generalize (w4.alloc _).alloc _ = W4 at k1 k2 bb6 ⊢
  generalize w4.heap.size + 1 = g4 at k2 ⊢
  generalize w4.heap.size = g3 at k1 ⊢
  have c0 : W4.cell? ⟨g3, 0, none⟩ = some (.int .i64 a) := k1.cell 0
  have c1 : W4.cell? ⟨g3, 1, none⟩ = some (.int .i64 b) := k1.cell 1
  have c2 : W4.cell? ⟨g4, 0, none⟩ = some (.int .i64 kk) := k2.cell 0
  have c3 : W4.cell? ⟨g4, 1, none⟩ = some (.int .i64 vv) := k2.cell 1
  clear hb5 bb5
  go_wp2_with fail
  refine (HI.out _).mono ?_
  rintro e w5 ⟨rfl, hb6⟩
  have bb7 := below_step hb6 bb6.size bb6
  replace k1 := (k1.next hb6).alloc (.cells #[.int .i64 X, .int .i64 Y] 25)
  replace k2 := (k2.next hb6).alloc (.cells #[.int .i64 X, .int .i64 Y] 25)
  have k3 := Blk.new w5 #[.int .i64 X, .int .i64 Y] 25
  have bb8 : Below w.heap.size w (w5.alloc (.cells #[.int .i64 X, .int .i64 Y] 25)) := bb7.alloc bb7.size _
  clear c0 c1 c2 c3 HI
  go_upto_region 37 with (fail)
  generalize w5.alloc _ = W5 at k1 k2 k3 bb8 ⊢
  generalize w5.heap.size = g5 at k3 ⊢
  have c0 : W5.cell? ⟨g3, 0, none⟩ = some (.int .i64 a) := k1.cell 0
  have c1 : W5.cell? ⟨g3, 1, none⟩ = some (.int .i64 b) := k1.cell 1
  have c2 : W5.cell? ⟨g4, 0, none⟩ = some (.int .i64 kk) := k2.cell 0
  have c3 : W5.cell? ⟨g4, 1, none⟩ = some (.int .i64 vv) := k2.cell 1
  go_wp2_with fail
  refine (HS.out _).mono ?_
  rintro e w6 ⟨rfl, hb7⟩
  have bb9 := below_step hb7 bb8.size bb8
  replace k3 := (k3.next hb7).alloc (.cells #[.int .i64 X, .int .i64 Y] 25)
  have k4 := Blk.new w6 #[.int .i64 X, .int .i64 Y] 25
  have bb10 : Below w.heap.size w (w6.alloc (.cells #[.int .i64 X, .int .i64 Y] 25)) := bb9.alloc bb9.size _
  clear c0 c1 c2 c3 HS k1 k2
  go_upto_region 38 with (fail)
  generalize w6.alloc _ = W6 at k3 k4 bb10 ⊢
  generalize w6.heap.size = g6 at k4 ⊢
  have c0 : W6.cell? ⟨g5, 0, none⟩ = some (.int .i64 X) := k3.cell 0
  have c1 : W6.cell? ⟨g5, 1, none⟩ = some (.int .i64 Y) := k3.cell 1
  have c2 : W6.cell? ⟨g6, 0, none⟩ = some (.int .i64 X) := k4.cell 0
  have c3 : W6.cell? ⟨g6, 1, none⟩ = some (.int .i64 Y) := k4.cell 1
  go_wp2
  exact ⟨rfl, rfl, bb10⟩
set_option maxRecDepth 1000000 in
set_option maxHeartbeats 4000000 in
theorem r22 {Q0 : Exit → Act → World → Prop} {K : Act → World → Prop} {x0 x1 x2 x3 x4 x8 x9 x10 x11 x12 x14 x15 x16 x17 x18 x19 x20 x21 x22 x23 x24 x25 x26 x27 x28 x29 x30 x31 x32 x33 x34 x35 x36 x37 x38 x39 x40 x41 x42 x43 x44 x45 x46 x47 x48 x49 x50 x51 x52 x53 x54 x55 x56 x57 x58 x59 x60 x61 x62 x63 x64 x65 x66 x67 x68 x69 x70 x71 x72 x73 x74 x75 x76 x77 x78 x79 x80 x81 x82 x83 x84 x85 x86 x87 x88 x89 x90 x91 x92 x93 x94 x95 x96 x97 x98 x99 x100 x101 x102 x103 x104 x105 x106 x107 x108 x109 x110 x111 x112 x113 x114 x115 x116 x117 x118 x119 x120 x121 x122 x123 x124 x125 x126 x127 x128 x129 x130 x131 x132 x133 x134 x135 x136 x137 x138 x139 x140 x141 x142 x143 x144 x145 x146 x147 x148 x149 x150 x151 x152 x153 x154 x155 x156 x157 x158 x159 x160 x161 x162 x163 x164 x165 x166 x167 x168 x169 x170 x171 x172 x173 x174 x175 x176 x177 x178 x179 x180 x181 x182 x183 x184 x185 x186 x187 x188 x189 x190 x191 x192 x193 x194 x195 x196 x197 x198 x199 x200 x201 x202 x203 x204 x205 x206 x207 x208 x209 x210 x211 x212 x213 x214 x215 x216 x217 x218 x219 x220 x221 x222 x223 x224 x225 x226 x227 x228 x229 x230 x231 x232 x233 x234 x235 x236 x237 x238 x239 x240 x241 x242 x243 x244 x245 x246 x247 x248 x249 x250 x251 x252 x253 x254 x255 x256 x257 x258 x259 x260 x261 x262 x263 x264 x265 x266 x267 x268 x269 x270 x271 x272 x273 x274 x275 x276 x277 x278 x279 x280 x281 x282 x283 x284 x285 x286 x287 x288 x289 x290 x291 x292 x293 x294 x295 x296 x297 x298 x299 x300 x301 x302 x303 x304 x305 x306 x307 x308 x309 x310 x311 x312 x313 x314 x315 x316 x317 x318 x319 x320 x321 x322 x323 x324 : Value} (g5 g7 : Nat) (u cv : Value) (a b : Int) (E : Int × Int) (L : List (Int × Int)) (hL : L.length ≤ 60) (w : World) (base base' : Nat)
    (x5 : Bx g5 (.int .i64 a) (.int .i64 b) w) (x7 : Bx g7 (.int .i64 E.1) (.int .i64 E.2) w) (hu : OwnsS w base u L) (hcv : OwnsC w base' cv (ccL (a, b) L)) (HF : Hid (LogF a b L E))
    (hK : ∀ (y4 y29 y30 y31 y32 y33 y34 y225 y226 y227 y228 y229 y230 y231 y232 y233 y234 y235 y236 y237 y238 y239 y240 y241 y242 y243 y244 y245 y246 y247 y248 y249 y250 y251 y252 y253 y254 y255 y256 y257 y258 y259 y260 y261 y262 y263 y264 y265 y266 y267 y268 y269 : Value) (w' : World), Below w.heap.size w w' → K ⟨(x0 :: x1 :: x2 :: x3 :: y4 :: .pointer (some ⟨g5, 0, none⟩) :: u :: .pointer (some ⟨g7, 0, none⟩) :: x8 :: x9 :: x10 :: x11 :: x12 :: cv :: x14 :: x15 :: x16 :: x17 :: x18 :: x19 :: x20 :: x21 :: x22 :: x23 :: x24 :: x25 :: x26 :: x27 :: x28 :: y29 :: y30 :: y31 :: y32 :: y33 :: y34 :: x35 :: x36 :: x37 :: x38 :: x39 :: x40 :: x41 :: x42 :: x43 :: x44 :: x45 :: x46 :: x47 :: x48 :: x49 :: x50 :: x51 :: x52 :: x53 :: x54 :: x55 :: x56 :: x57 :: x58 :: x59 :: x60 :: x61 :: x62 :: x63 :: x64 :: x65 :: x66 :: x67 :: x68 :: x69 :: x70 :: x71 :: x72 :: x73 :: x74 :: x75 :: x76 :: x77 :: x78 :: x79 :: x80 :: x81 :: x82 :: x83 :: x84 :: x85 :: x86 :: x87 :: x88 :: x89 :: x90 :: x91 :: x92 :: x93 :: x94 :: x95 :: x96 :: x97 :: x98 :: x99 :: x100 :: x101 :: x102 :: x103 :: x104 :: x105 :: x106 :: x107 :: x108 :: x109 :: x110 :: x111 :: x112 :: x113 :: x114 :: x115 :: x116 :: x117 :: x118 :: x119 :: x120 :: x121 :: x122 :: x123 :: x124 :: x125 :: x126 :: x127 :: x128 :: x129 :: x130 :: x131 :: x132 :: x133 :: x134 :: x135 :: x136 :: x137 :: x138 :: x139 :: x140 :: x141 :: x142 :: x143 :: x144 :: x145 :: x146 :: x147 :: x148 :: x149 :: x150 :: x151 :: x152 :: x153 :: x154 :: x155 :: x156 :: x157 :: x158 :: x159 :: x160 :: x161 :: x162 :: x163 :: x164 :: x165 :: x166 :: x167 :: x168 :: x169 :: x170 :: x171 :: x172 :: x173 :: x174 :: x175 :: x176 :: x177 :: x178 :: x179 :: x180 :: x181 :: x182 :: x183 :: x184 :: x185 :: x186 :: x187 :: x188 :: x189 :: x190 :: x191 :: x192 :: x193 :: x194 :: x195 :: x196 :: x197 :: x198 :: x199 :: x200 :: x201 :: x202 :: x203 :: x204 :: x205 :: x206 :: x207 :: x208 :: x209 :: x210 :: x211 :: x212 :: x213 :: x214 :: x215 :: x216 :: x217 :: x218 :: x219 :: x220 :: x221 :: x222 :: x223 :: x224 :: y225 :: y226 :: y227 :: y228 :: y229 :: y230 :: y231 :: y232 :: y233 :: y234 :: y235 :: y236 :: y237 :: y238 :: y239 :: y240 :: y241 :: y242 :: y243 :: y244 :: y245 :: y246 :: y247 :: y248 :: y249 :: y250 :: y251 :: y252 :: y253 :: y254 :: y255 :: y256 :: y257 :: y258 :: y259 :: y260 :: y261 :: y262 :: y263 :: y264 :: y265 :: y266 :: y267 :: y268 :: y269 :: x270 :: x271 :: x272 :: x273 :: x274 :: x275 :: x276 :: x277 :: x278 :: x279 :: x280 :: x281 :: x282 :: x283 :: x284 :: x285 :: x286 :: x287 :: x288 :: x289 :: x290 :: x291 :: x292 :: x293 :: x294 :: x295 :: x296 :: x297 :: x298 :: x299 :: x300 :: x301 :: x302 :: x303 :: x304 :: x305 :: x306 :: x307 :: x308 :: x309 :: x310 :: x311 :: x312 :: x313 :: x314 :: x315 :: x316 :: x317 :: x318 :: x319 :: x320 :: x321 :: x322 :: x323 :: x324 :: []).toArray, []⟩ w') :
    Code.wp Try.prog restR22 (Exit.then K Q0) ⟨(x0 :: x1 :: x2 :: x3 :: x4 :: .pointer (some ⟨g5, 0, none⟩) :: u :: .pointer (some ⟨g7, 0, none⟩) :: x8 :: x9 :: x10 :: x11 :: x12 :: cv :: x14 :: x15 :: x16 :: x17 :: x18 :: x19 :: x20 :: x21 :: x22 :: x23 :: x24 :: x25 :: x26 :: x27 :: x28 :: x29 :: x30 :: x31 :: x32 :: x33 :: x34 :: x35 :: x36 :: x37 :: x38 :: x39 :: x40 :: x41 :: x42 :: x43 :: x44 :: x45 :: x46 :: x47 :: x48 :: x49 :: x50 :: x51 :: x52 :: x53 :: x54 :: x55 :: x56 :: x57 :: x58 :: x59 :: x60 :: x61 :: x62 :: x63 :: x64 :: x65 :: x66 :: x67 :: x68 :: x69 :: x70 :: x71 :: x72 :: x73 :: x74 :: x75 :: x76 :: x77 :: x78 :: x79 :: x80 :: x81 :: x82 :: x83 :: x84 :: x85 :: x86 :: x87 :: x88 :: x89 :: x90 :: x91 :: x92 :: x93 :: x94 :: x95 :: x96 :: x97 :: x98 :: x99 :: x100 :: x101 :: x102 :: x103 :: x104 :: x105 :: x106 :: x107 :: x108 :: x109 :: x110 :: x111 :: x112 :: x113 :: x114 :: x115 :: x116 :: x117 :: x118 :: x119 :: x120 :: x121 :: x122 :: x123 :: x124 :: x125 :: x126 :: x127 :: x128 :: x129 :: x130 :: x131 :: x132 :: x133 :: x134 :: x135 :: x136 :: x137 :: x138 :: x139 :: x140 :: x141 :: x142 :: x143 :: x144 :: x145 :: x146 :: x147 :: x148 :: x149 :: x150 :: x151 :: x152 :: x153 :: x154 :: x155 :: x156 :: x157 :: x158 :: x159 :: x160 :: x161 :: x162 :: x163 :: x164 :: x165 :: x166 :: x167 :: x168 :: x169 :: x170 :: x171 :: x172 :: x173 :: x174 :: x175 :: x176 :: x177 :: x178 :: x179 :: x180 :: x181 :: x182 :: x183 :: x184 :: x185 :: x186 :: x187 :: x188 :: x189 :: x190 :: x191 :: x192 :: x193 :: x194 :: x195 :: x196 :: x197 :: x198 :: x199 :: x200 :: x201 :: x202 :: x203 :: x204 :: x205 :: x206 :: x207 :: x208 :: x209 :: x210 :: x211 :: x212 :: x213 :: x214 :: x215 :: x216 :: x217 :: x218 :: x219 :: x220 :: x221 :: x222 :: x223 :: x224 :: x225 :: x226 :: x227 :: x228 :: x229 :: x230 :: x231 :: x232 :: x233 :: x234 :: x235 :: x236 :: x237 :: x238 :: x239 :: x240 :: x241 :: x242 :: x243 :: x244 :: x245 :: x246 :: x247 :: x248 :: x249 :: x250 :: x251 :: x252 :: x253 :: x254 :: x255 :: x256 :: x257 :: x258 :: x259 :: x260 :: x261 :: x262 :: x263 :: x264 :: x265 :: x266 :: x267 :: x268 :: x269 :: x270 :: x271 :: x272 :: x273 :: x274 :: x275 :: x276 :: x277 :: x278 :: x279 :: x280 :: x281 :: x282 :: x283 :: x284 :: x285 :: x286 :: x287 :: x288 :: x289 :: x290 :: x291 :: x292 :: x293 :: x294 :: x295 :: x296 :: x297 :: x298 :: x299 :: x300 :: x301 :: x302 :: x303 :: x304 :: x305 :: x306 :: x307 :: x308 :: x309 :: x310 :: x311 :: x312 :: x313 :: x314 :: x315 :: x316 :: x317 :: x318 :: x319 :: x320 :: x321 :: x322 :: x323 :: x324 :: []).toArray, []⟩ w := by
  obtain ⟨su, capu, rfl, hfu⟩ := OwnsP.form hu
  obtain ⟨sc, capc, rfl, hfc⟩ := OwnsP.form hcv
  have HU := Lib.hid hfu
  have HC := Lib.hid hfc
  have HLen := Lib.hid HF.out.len
  clear hfu hfc hu hcv
  have KH := Lib.hid (c_haveSame a b E.1 E.2 HF.out.cu HF.out.ce HF.out.iv3)
  have HS : Hid (∀ (i : Nat) (h : i < L.length) (h1 : i < (ccL (a, b) L).length) (h2 : i + 1 < (ccL (a, b) L).length), ∀ W, Calls Try.prog 17 #[.agg #[.int .i64 (ccL (a, b) L)[i].1, .int .i64 (ccL (a, b) L)[i].2], .agg #[.int .i64 L[i].1, .int .i64 L[i].2]] W fun e w' => e = .returned (.tuple #[.agg #[.int .i64 (ccL (a, b) L)[i + 1].1, .int .i64 (ccL (a, b) L)[i + 1].2], .bool true]) ∧ Below W.heap.size W w') := Lib.hid fun i h h1 h2 W => by
    obtain ⟨q1, q2, q3, _⟩ := HF.out.ste i h h1 h2
    have := c_iApplyStep L[i].1 (ccL (a, b) L)[i].1 (ccL (a, b) L)[i].2 L[i].2 W
    rw [q1, q2, q3] at this
    exact this
  have HT : Hid (∀ (i : Nat) (h : i < L.length), stepB L[i].1 L[i].2 = true) := Lib.hid fun i h => (HF.out.ste i h (by have := HLen.out; omega) (by have := HLen.out; omega)).2.2.2
  clear HF
  generalize ccL (a, b) L = M at *
  conv => arg 2; whnf
  go_wp2
  go_loopw [227] (fun i wr => ∃ j : Nat, j ≤ L.length ∧ i = .int .i64 j ∧ Below w.heap.size w wr) (fun i _ => L.length - (intOf i).toNat)
  case atStart => exact ⟨0, Nat.zero_le _, rfl, Below.refl _ _⟩
  case round =>
    obtain ⟨j, hj, rfl, hbl⟩ := hrel
    have zl := hbl.size
    by_cases hlt : j < L.length
    · have hlen := HLen.out
      obtain ⟨g, rfl, p1, p2, _, hg, _⟩ := HU.out j hlt
      obtain ⟨g', rfl, q1, q2, _, hg', _⟩ := HC.out j (by omega)
      obtain ⟨g'', eg, s1, s2, _, _, _⟩ := HC.out (j + 1) (by omega)
      obtain rfl : g' = g'' := by simpa using eg
      have M1 := Lib.hid (HS.out j hlt (by omega) (by omega))
      have M2 := Lib.hid (HT.out j hlt)
      replace p1 := (hbl.cell (p := ⟨g, j * 2, none⟩) hg).trans p1
      replace p2 := (hbl.cell (p := ⟨g, j * 2 + 1, none⟩) hg).trans p2
      replace q1 := (hbl.cell (p := ⟨g', j * 2, none⟩) hg').trans q1
      replace q2 := (hbl.cell (p := ⟨g', j * 2 + 1, none⟩) hg').trans q2
      replace s1 := (hbl.cell (p := ⟨g', (j + 1) * 2, none⟩) hg').trans s1
      replace s2 := (hbl.cell (p := ⟨g', (j + 1) * 2 + 1, none⟩) hg').trans s2
      replace hg : g < wr.heap.size := by omega
      replace hg' : g' < wr.heap.size := by omega
      have i0 : (0 : Int) ≤ (j : Int) := by omega
      have i1 : (j : Int) < (L.length : Int) := by omega
      have i2 : (j : Int) < (M.length : Int) := by omega
      have i3 : (j : Int) + 1 < (M.length : Int) := by omega
      have i4 : (0 : Int) ≤ (j : Int) + 1 := by omega
      have i5 : ((j : Int) + 1).toNat = j + 1 := by omega
      have i6 : IntKind.i64.wrap ((j : Int) + 1) = (j : Int) + 1 := by
        rw [Go.IntWalk.i64_left]
        unfold wrap64
        omega
      generalize L[j] = s at *
      generalize M[j] = c at *
      generalize M[j + 1] = c' at *
      clear hlen
      obtain ⟨kk, vv⟩ := s
      obtain ⟨cA, cB⟩ := c
      obtain ⟨dA, dB⟩ := c'
      simp only at p1 p2 q1 q2 s1 s2 M1 M2
      go_upto_region 25 with (fail)
      have kS := Blk.new wr #[.int .i64 kk, .int .i64 vv] 41
      have hbS : Below w.heap.size w (wr.alloc (.cells #[.int .i64 kk, .int .i64 vv] 41)) := hbl.alloc zl _
      have hbr : Below wr.heap.size wr (wr.alloc (.cells #[.int .i64 kk, .int .i64 vv] 41)) := (Below.refl _ _).alloc (Nat.le_refl _) _
      replace q1 := (hbr.cell (p := ⟨g', j * 2, none⟩) hg').trans q1
      replace q2 := (hbr.cell (p := ⟨g', j * 2 + 1, none⟩) hg').trans q2
      replace s1 := (hbr.cell (p := ⟨g', (j + 1) * 2, none⟩) hg').trans s1
      replace s2 := (hbr.cell (p := ⟨g', (j + 1) * 2 + 1, none⟩) hg').trans s2
      replace hg' : g' < (wr.alloc (.cells #[.int .i64 kk, .int .i64 vv] 41)).heap.size := by simp; omega
      clear p1 p2 hbr
      generalize wr.alloc _ = W at *
      generalize wr.heap.size = S at *
      have lS := kS.lt
      have e0 : W.cell? ⟨S, 0, none⟩ = some (.int .i64 kk) := kS.cell 0
      have e1 : W.cell? ⟨S, 1, none⟩ = some (.int .i64 vv) := kS.cell 1
      apply region_join1 (fun r31 Wz => Over [] W Wz ∧ (fun _ => True) Wz ∧ W.heap.size ≤ r31 ∧ Blk r31 #[.int .i64 dA, .int .i64 dB] 25 Wz)
      · intro hcont
        refine wp_region_cls [] (fun _ => false) (fun _ => True) (KD (fun _ => True) []) (by kernel_rfl) ⟨trivial, MemL.nil _⟩ ?_
        apply wpAnyF_hd ⟨W, Over.refl _ _, trivial, MemL.nil _⟩ [true, true, true, true, true] 7 (KD.closed (Closed.true) _) (fun _ _ => trivial) (by kernel_rfl) (by kernel_rfl) (by kernel_rfl) (by kernel_rfl) (by simp)
        · intro E hE hEN hEn; (repeat (first | (refine wpHL_take ?_; go_big_quiet_step (fail); refine wpQuiet_nil ?_) | refine wpHL_skip ?_)); exact wpHL_end rfl
        refine wpAnyF_ready [5, 9] 6 (by kernel_rfl) (by kernel_rfl) (by simp) ?_
        refine AllF.cons ?_ ?_
        · refine stepK_call (v := .tuple #[.agg #[.int .i64 dA, .int .i64 dB], .bool true]) (some 238) (fun _ => True) (by rfl) (by rfl) (by rfl) (fun _ => by go_simp) (Closed.true) (fun _ _ => by simp) (fun w' _ => (M1.out w').mono fun e w2 h => ⟨h.1, .of_below h.2, trivial⟩) (fun hne => ?_)
          simp only [Act.put, List.setIfInBounds_toArray, List.set_cons_succ, List.set_cons_zero]
          apply wpAnyF_hd hne [false, false, false, false, false, false, true, true, true] 3 (KD.closed (Closed.true) _) (fun _ _ => trivial) (by kernel_rfl) (by kernel_rfl) (by kernel_rfl) (by kernel_rfl) (by simp)
          · intro E hE hEN hEn; (repeat (first | (refine wpHL_take ?_; go_big_quiet_step (fail); refine wpQuiet_nil ?_) | refine wpHL_skip ?_)); exact wpHL_end rfl
          refine wpAnyF_ready [9] 2 (by kernel_rfl) (by kernel_rfl) (by simp) ?_
          refine AllF.cons ?_ ?_
          · refine stepK_alloc (zs := #[.int .i64 0, .int .i64 0]) (T := 25) (by rfl) (by rfl) (by rfl) (fun _ => by go_simp) (Closed.true) (fun r31 hr31 hl31 hne => ?_)
            simp only [Act.put, List.setIfInBounds_toArray, List.set_cons_succ, List.set_cons_zero]
            refine wpAnyF_ready [10] 1 (by kernel_rfl) (by kernel_rfl) (by simp) ?_
            refine AllF.cons ?_ ?_
            · refine stepK_store (v := .agg #[.int .i64 dA, .int .i64 dB]) [] [] (by rfl) (by rfl) (by rfl) (by rfl) (by rfl) (by rfl) (fun _ => by go_simp) (by rfl) (by simp [Value.cells, one1]) (.inl hr31) (Closed.true) (fun _ _ h _ => h) (by simp) (fun hne => ?_)
              try simp only [Value.cells]
              apply wpAnyF_hd hne [false, false, false, false, false, false, false, false, false, false, false, true] 0 (KD.closed (Closed.true) _) (fun _ _ => trivial) (by kernel_rfl) (by kernel_rfl) (by kernel_rfl) (by kernel_rfl) (by simp)
              · intro E hE hEN hEn; (repeat (first | (refine wpHL_take ?_; go_big_quiet_step (fail); refine wpQuiet_nil ?_) | refine wpHL_skip ?_)); exact wpHL_end rfl
              refine wpAnyF_done (by kernel_rfl) (fun Wz hOz hDz => ?_) _
              exact hcont r31 Wz ⟨hOz, hDz.1, (by omega), hDz.2.head⟩
            exact AllF.nil
          exact AllF.nil
        refine AllF.cons ?_ ?_
        · refine stepK_alloc (zs := #[.int .i64 0, .int .i64 0]) (T := 25) (by rfl) (by rfl) (by rfl) (fun _ => by go_simp) (Closed.true) (fun r31 hr31 hl31 hne => ?_)
          simp only [Act.put, List.setIfInBounds_toArray, List.set_cons_succ, List.set_cons_zero]
          refine wpAnyF_ready [5] 5 (by kernel_rfl) (by kernel_rfl) (by simp) ?_
          refine AllF.cons ?_ ?_
          · refine stepK_call (v := .tuple #[.agg #[.int .i64 dA, .int .i64 dB], .bool true]) (some 238) (fun _ => True) (by rfl) (by rfl) (by rfl) (fun _ => by go_simp) (Closed.true) (fun _ _ => by simp) (fun w' _ => (M1.out w').mono fun e w2 h => ⟨h.1, .of_below h.2, trivial⟩) (fun hne => ?_)
            simp only [Act.put, List.setIfInBounds_toArray, List.set_cons_succ, List.set_cons_zero]
            apply wpAnyF_hd hne [false, false, false, false, false, false, true, true, true] 2 (KD.closed (Closed.true) _) (fun _ _ => trivial) (by kernel_rfl) (by kernel_rfl) (by kernel_rfl) (by kernel_rfl) (by simp)
            · intro E hE hEN hEn; (repeat (first | (refine wpHL_take ?_; go_big_quiet_step (fail); refine wpQuiet_nil ?_) | refine wpHL_skip ?_)); exact wpHL_end rfl
            refine wpAnyF_ready [10] 1 (by kernel_rfl) (by kernel_rfl) (by simp) ?_
            refine AllF.cons ?_ ?_
            · refine stepK_store (v := .agg #[.int .i64 dA, .int .i64 dB]) [] [] (by rfl) (by rfl) (by rfl) (by rfl) (by rfl) (by rfl) (fun _ => by go_simp) (by rfl) (by simp [Value.cells, one1]) (.inl hr31) (Closed.true) (fun _ _ h _ => h) (by simp) (fun hne => ?_)
              try simp only [Value.cells]
              apply wpAnyF_hd hne [false, false, false, false, false, false, false, false, false, false, false, true] 0 (KD.closed (Closed.true) _) (fun _ _ => trivial) (by kernel_rfl) (by kernel_rfl) (by kernel_rfl) (by kernel_rfl) (by simp)
              · intro E hE hEN hEn; (repeat (first | (refine wpHL_take ?_; go_big_quiet_step (fail); refine wpQuiet_nil ?_) | refine wpHL_skip ?_)); exact wpHL_end rfl
              refine wpAnyF_done (by kernel_rfl) (fun Wz hOz hDz => ?_) _
              exact hcont r31 Wz ⟨hOz, hDz.1, (by omega), hDz.2.head⟩
            exact AllF.nil
          exact AllF.nil
        exact AllF.nil
      try dsimp only
      rintro r W2 ⟨hO, _, hr, kr⟩
      have hbO := hO.below
      have kS2 := kS.next hbO
      have hb2 := below_step hbO hbS.size hbS
      replace s1 := (hbO.cell (p := ⟨g', (j + 1) * 2, none⟩) hg').trans s1
      replace s2 := (hbO.cell (p := ⟨g', (j + 1) * 2 + 1, none⟩) hg').trans s2
      have hg2 : g' < W2.heap.size := Nat.lt_of_lt_of_le hg' hbO.size
      clear e0 e1 q1 q2 hO hr
      have e0 : W2.cell? ⟨S, 0, none⟩ = some (.int .i64 kk) := kS2.cell 0
      have e1 : W2.cell? ⟨S, 1, none⟩ = some (.int .i64 vv) := kS2.cell 1
      have f0 : W2.cell? ⟨r, 0, none⟩ = some (.int .i64 dA) := kr.cell 0
      have f1 : W2.cell? ⟨r, 1, none⟩ = some (.int .i64 dB) := kr.cell 1
      have lr := kr.lt
      have lS2 := kS2.lt
      have hst := M2.out
      clear HU HC HS HT
      have HQ := fun W => c_iIsStep kk vv W
      rw [hst] at HQ
      replace HQ := Lib.hid HQ
      clear hst
      go_wp2
      (refine wp_region_clq (by kernel_rfl) (by kernel_rfl) ?_; (repeat (go_big_quiet_step ((go_at_call 18; exact Calls.quiet_cls Closed.true _ (HQ.out _))))); refine wpQuiet_nil ?_; intro w3 hb3; obtain ⟨hc3, hf3⟩ := bcell hb3; have hz3 := hb3.size; (try simp only [World.size_alloc] at hz3))
      have hbb := below_step hb3 hb2.size hb2
      clear hc3 hf3
      go_wp2
      go_roundw
      case rel => exact ⟨j + 1, by omega, by go_num, hbb⟩
      case measure => simp [intOf]; omega
    · obtain rfl : j = L.length := by omega
      have xr5 := x5.below hbl
      have xr7 := x7.below hbl
      obtain ⟨f0, f1, _, _, f4⟩ := id xr5
      obtain ⟨h0, h1, _, _, h4⟩ := id xr7
      clear HU HC HS HT
      go_wp2_with fail
      refine (KH.out _).mono ?_
      rintro e w9 ⟨rfl, hb9⟩
      go_wp2
      exact below_step hb9 zl hbl
end Go.Proofs.Ytpnpidepkfnofaa
